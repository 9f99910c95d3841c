/- Lemmas. -/
import Derived.Test.YtgldbfelccddbaaGreatApa27
set_option linter.all false
set_option maxRecDepth 100000
set_option maxHeartbeats 2000000
namespace Go.Aw
open Go Go.Proofs Go.Proofs.Tryz
def zvk (l:List Cn) (fl:Nat) (J:l.length<=5000):ACall Tryz.prog 94 fl [.d (.sl 8 (l.map cnD))] [] (λr h'=>r= .osl fl 8 l.length 0 l.length/\h'= [(fl,.arr 8 (l.map cnD))]):=by
 refine bod func94 ntmps94 (λbase=>?_);refine' Ii
 .refine' Cw;refine zaI 2 8 rfl ?_;refine' FR;refine' Ds;all_goals rfl
def zvl (l:List Tsk) (fl:Nat) (J:l.length<=5000):ACall Tryz.prog 95 fl [.d (.sl 12 (l.map tskD))] [] (λr h'=>r= .osl fl 12 l.length 0 l.length/\h'= [(fl,.arr 12 (l.map tskD))]):=by
 refine bod func95 ntmps95 (λbase=>?_);refine' Ii
 .refine' Cw;refine zaI 2 12 rfl ?_;refine' FR;refine' Ds;all_goals rfl
def rowC (o:Cn) (tv:AV):List AV:= [.d (.int .i64 o.n.phase),.d (.str o.n.buf),.d (.bool o.n.brief),.d (.bool o.n.chunks),.d (.sl 1 (o.n.metas.map u32D)),tv,.d (.str o.out),.d (.bool o.gone)]
structure SW where
 x:Img
 k:Nat
 pre:List AV
 o:Cn
 post:List AV
 tv:AV
 ts:List (List D)
def imgC (x:Img):List AV:= [.d (.str x.disk.data),.d (.sl 2 (x.disk.cache.map putD)),.d (.int .i64 x.disk.fuse),.d (.bool x.disk.off),.d (.sl 1 (x.disk.bad.map intD)),.d (.int .i64 x.geom.guest),.d (.int .i64 x.geom.host),.d (.int .u64 x.jour.seq),.d (.int .i64 x.jour.pos),.d (.sl 66 (x.maps.map dmapD)),.d (.bool x.broken)]
def swC (s:SW):List AV:= [.d (.str s.x.disk.data),.d (.sl 2 (s.x.disk.cache.map putD)),.d (.int .i64 s.x.disk.fuse),.d (.bool s.x.disk.off),.d (.sl 1 (s.x.disk.bad.map intD)),.d (.int .i64 s.x.geom.guest),.d (.int .i64 s.x.geom.host),.d (.int .u64 s.x.jour.seq),.d (.int .i64 s.x.jour.pos),.d (.sl 66 (s.x.maps.map dmapD)),.d (.bool s.x.broken),.vsl 22 8 0 s.k,.vp 22 s.pre.length]
attribute [go_sem] swC
abbrev swH (s:SW):AHeap:= [(34,.arr 12 s.ts),(22,.var (s.pre++(rowC s.o s.tv++s.post))),(21,.var (swC s))]
def zyz {pre r:List AV} {k:Nat} {d:AV} :(pre++r).getD (pre.length+k) d=r.getD k d:=by
 rw [aN,aN,dN (bH _ _),fL]
def ztE {pre r:List AV} {k:Nat} :(pre++r).drop (pre.length+k)=r.drop k:=by
 rw [List.drop_append,fj (bH _ _),bh,fL]
def zyA {pre r:List AV} {k:Nat} {v:AV} :(pre++r).set (pre.length+k) v=pre++r.set k v:=by
 rw [List.set_append_right _ _ (bH _ _),fL]
def zA9 {pre r:List AV} {d:AV} :(pre++r).getD pre.length d=r.getD 0 d:=zyz (k:=0)
def zyB {pre r:List AV} :(pre++r).drop pre.length=r:=ztE (k:=0)
def zBa {pre r:List AV} {v:AV} :(pre++r).set pre.length v=pre++r.set 0 v:=zyA (k:=0)
attribute [go_sem] rowC zyz zA9 ztE zyB zyA zBa List.cons_append List.nil_append List.length_append Nat.add_zero
def zrP:∀l:List Cn,((l.map cnD).flatten).length=l.length*8
 | []=>rfl
 |c::l=>by rw [au,cU,ae,zrP l,aC];show 8+_=_;omega
def ze8:∀l:List D,AV.idsL (l.map AV.d)= []
 | []=>rfl
 |x::l=>by rw [au,AV.idsL,ze8 l];rfl
def zby:∀m:Nat,AV.idsL (List.replicate m AV.any)= []
 |0=>rfl
 |m+1=>by rw [dq,AV.idsL,zby m];rfl
def zhZ (v:Srv) (c:Int) (J:c<0\/(v.conns.length:Int)<=c):ACall Tryz.prog 41 0 [srvA v,.d (.int .i64 c)] [] (λr _=>r= .tup [.d .nilp,.d (.bool false)]):=by have hc:(decide (c<0)||decide ((v.conns.length:Int)<=c))=true:=gQ;refine fbod func41 ntmps41 (λbase=>?_);refine' zc hc
def zi1 (v:Srv) (c:Nat) (o:Cn) (J:v.conns[c]?=some o) (hl:v.conns.length<=1000) (ht:o.tasks.length<=1000):ACall Tryz.prog 41 20 [srvA v,.d (.int .i64 c)] [] (λr h'=>∃m,r= .tup [.vp 21 0,.d (.bool true)]/\h'=swH ⟨v.x,v.conns.length,((v.conns.take c).map cnD).flatten.map .d,o,((v.conns.drop (c+1)).map cnD).flatten.map .d++List.replicate m .any,.osl 34 12 o.tasks.length 0 o.tasks.length,o.tasks.map tskD⟩):=by
 have ab:c<v.conns.length:=(bP.1 J).1;have hc:(decide ((c:Int)<0)||decide ((v.conns.length:Int)<=c))=false:=gh;refine zD (λi=>decide (21<=i)) ?_;refine bod func41 ntmps41 (λbase=>?_);refine' zc hc;refine ((zvk v.conns 22 fT).own rfl rfl gb va).mono ?_;rintro r h' ⟨h1,⟨rfl,rfl⟩,rfl⟩;refine' Cl;refine' z8 (zL 5) fx;refine zwj 22 rfl s7 s7 (show 20<=22 by decide) (λm=>?_);obtain ⟨pre,bu⟩:∃pre,pre=((v.conns.take c).map cnD).flatten.map AV.d:=⟨_,rfl⟩
 obtain ⟨post,im⟩:∃post,post=((v.conns.drop (c+1)).map cnD).flatten.map AV.d++List.replicate m .any:=⟨_,rfl⟩
 have hE:(v.conns.map cnD).flatten.map AV.d++List.replicate m .any=pre++(rowC o (.d (.sl 12 (o.tasks.map tskD)))++post):=by
  rw [bu,im];have e:v.conns=v.conns.take c++(o::v.conns.drop (c+1)):=by rw [<-zdO J,bO]
  conv=>lhs;rw [e]
  simp [cnD,rowC]
 have ia:AV.idsL pre= []:=rK;have lr:AV.idsL post= []:=rE;have wg:AV.idsL (pre++(rowC o (.d (.sl 12 (o.tasks.map tskD)))++post))= []:=by rw [zn,zn,ia,lr];rfl
 simp only [rowC,bf,bh] at wg
 have gB:c*8=pre.length:=by rw [bu,al,zrP,az,ca fT]
 refine aw_le ⟨[(1,true,.d (.int .i64 c)),(6,true,.vp 21 0)],[(22,.var (pre++(rowC o (.d (.sl 12 (o.tasks.map tskD)))++post))),(21,.var (imgC v.x++ [.vsl 22 8 0 v.conns.length,.d .nilp]))],some []⟩ (by rw [hE];unfold imgC;simp only [AS.le,leT,leH,ze,AsgK,AV.le,AV.leL,AObj.le,inH,idsT,idsH,AV.ids,AV.idsL,AV.idsR,AObj.ids,lk,hget,go_sem,aeq,aeq.aeqF,simprocAttr]<;>and_intros<;>first|rfl|exact AV.leL_refl _|(rw [wg];exact ⟨rfl,trivial⟩)) ?_;unfold imgC;refine' zhS (ownsL [95]) gB;refine ⟨12,o.tasks.map tskD,λfl=>by rw [al];exact zvl o.tasks fl fT,fT,fX,?_⟩;have iv:(o.tasks.map tskD).length=o.tasks.length:=al ..;refine' zc (zB iv @zn ia lr);exact ⟨m,by rw [<-bu,<-im];rfl⟩
structure SwOk (s:SW):Prop where
 p:AV.idsL s.pre= []
 q:AV.idsL s.post= []
 t:s.tv= .osl 34 12 s.o.tasks.length 0 s.o.tasks.length/\s.ts=s.o.tasks.map tskD\/s.tv= .nils 12/\s.o.tasks= []/\s.o.gone=true
 l:s.o.tasks.length<=1000
def swLv (s:SW):SW:= { s with o:=ze4 s.o,tv:= .nils 12 }
def sw_cl {s:SW} (h:SwOk s):inH (swH s) (idsH (swH s)):=by
 rcases h.t with ⟨e,_⟩|⟨e,_⟩<;>simp [inH,idsH,AObj.ids,AV.idsL,AV.ids,swC,rowC,e,hget,h.p,h.q,zn]
def znG (s:SW):ACall Tryz.prog 44 40 [.vp 21 0] (swH s) (λr h'=>r= .tup []/\h'=swH (swLv s)):=by refine bod func44 ntmps44 (λbase=>?_);refine' Ds;rfl
abbrev zek (c:Cn):Prop:=c.n.phase=2/\c.gone=false/\c.tasks.length<8
def cnBuf (c:Cn):Cn:= { c with n:= { c.n with buf:=(reqRd c.n.buf).2.1 } }
abbrev ztG (size:Int) (c:Cn):Prop:=(reqRd c.n.buf).2.2≠0\/(reqRd c.n.buf).1.kind=2/\za2 (reqRd c.n.buf).1 size c.n.chunks c.n.metas=0
def cnNx (size:Int) (c:Cn):Cn:=if (reqRd c.n.buf).2.2=22 then c else if ztG size c then ze4 c else cnOne size c
def tkIt (c:Cn):List AV:= [rqA (reqRd c.n.buf).1,.d (.int .i64 (reqRd c.n.buf).2.2)]
def zbh (size:Int):Nat->Cn->List (List AV)
 |0,_=> []
 |k+1,c=>if zek c then (if (reqRd c.n.buf).2.2=0 then tick::tkIt c::zbh size k (cnNx size c) else [tkIt c]) else []
def tkSt (size:Int):Nat->Cn->List (List AV)->Cn
 |0,c,_=>c
 |_+1,c,[]=>c
 |k+1,c,_::xs=>if (reqRd c.n.buf).2.2=0 then (match xs with| []=>cnBuf c|_::ys=>tkSt size k (cnNx size c) ys) else cnNx size c
def zjV {size:Int} {c:Cn} :∀k,tkSt size k c []=c
 |0=>rfl
 |_+1=>rfl
def znN {size:Int} {c:Cn} (h:(reqRd c.n.buf).2.2=0):(cnNx size c).n.buf.length<c.n.buf.length:=by
 have:=zi2 h;unfold cnNx;rw [U (by rw [h];decide)];split
 .simp only [ze4,aM];omega
 .rw [zyF];omega
def zh0 {size:Int} {k:Nat} {c:Cn} (h:zek c):zcz size (k+1) c=if (reqRd c.n.buf).2.2=0 then zcz size k (cnNx size c) else cnNx size c:=by
 rw [zmg h];unfold cnNx;by_cases h0:(reqRd c.n.buf).2.2=0
 .have gl:¬(reqRd c.n.buf).2.2=22:=by omega
  rw [U gl,U gl,aa h0];by_cases J:ztG size c
  .rw [aa J,aa J,zcC rfl]
  .rw [U J,U J]
 .rw [U h0];by_cases gl:(reqRd c.n.buf).2.2=22
  .rw [aa gl,aa gl]
  .rw [U gl,U gl,aa (.inl h0),aa (.inl h0)]
def zB0 {size:Int} :∀ (k:Nat) (c:Cn),tkSt size k c (zbh size k c)=zcz size k c
 |0,c=>rfl
 | k+1,c=>by
  by_cases h:zek c
  .rw [zbh,aa h,zh0 h];split
   .rename_i h0;rw [tkSt,aa h0];exact zB0 k _
   .rename_i h0;rw [tkSt,U h0]
  .rw [zbh,U h,zjV,zfa h]
def zB1 {size:Int} :∀ {k:Nat} {c:Cn} {x:List AV},x∈zbh size k c->x=tick\/x.length=2
 |0,c,x,h=>by rw [zbh] at h;cases h
 | k+1,c,x,h=>by
  rw [zbh] at h;split at h
  .split at h
   .rcases bg.1 h with h|h
    .exact .inl h
    rcases bg.1 h with h|h
    .exact .inr (by rw [h];rfl)
    .exact zB1 h
   .rw [bp.1 h];exact .inr rfl
  .cases h
def zB2 {size:Int} {P:Cn→Prop} (hP:∀c,P c→zek c→(reqRd c.n.buf).2.2=0→P (cnNx size c)):∀ (k:Nat) (c:Cn) (xs:List (List AV)) (x:List AV),P c→c.n.buf.length+1≤k→x≠tick→(xs++ [x])<+:zbh size k c→
  ∃c0,P c0∧zek c0∧x=tkIt c0∧tkSt size k c xs=(if (reqRd c0.n.buf).2.2=0 then cnBuf c0 else c0)∧tkSt size k c (xs++ [x])=cnNx size c0∧∃m,c0.n.buf.length+1≤m∧zcz size k c=zcz size m c0
 |0,c,xs,x,h,hk,hx,hp=>fT
 | k +1,c,xs,x,h,hk,hx,hp=>by
  by_cases hm:zek c
  ·rw [zbh,aa hm] at hp
   by_cases h0:(reqRd c.n.buf).2.2=0
   ·rw [aa h0] at hp
    match xs,hp with
    | [],hp=>
     rw [bh,dH] at hp
     exact absurd hp.1 hx
    | [a],hp=>
     rw [bf,bh,dH,dH] at hp
     refine ⟨c,h,hm,hp.2.1,by rw [tkSt,aa h0,aa h0],?_,k+1,hk,rfl⟩
     rw [bf,bh,tkSt,aa h0]
     exact zjV k
    |a::b::ys,hp=>
     rw [bf,bf,dH,dH] at hp
     have hb:=znN (size:=size) h0
     obtain ⟨c0,g1,g2,g3,g4,g5,m,g6,g7⟩:=zB2 hP k (cnNx size c) ys x (hP c h hm h0) fT hx hp.2.2
     refine ⟨c0,g1,g2,g3,?_,?_,m,g6,?_⟩
     ·rw [tkSt,aa h0];exact g4
     ·rw [bf,bf,tkSt,aa h0];exact g5
     ·rw [zh0 hm,aa h0];exact g7
   ·rw [U h0] at hp
    match xs,hp with
    | [],hp=>
     rw [bh,dH] at hp
     refine ⟨c,h,hm,hp.1,by rw [U h0];rfl,?_,k+1,hk,rfl⟩
     rw [bh,tkSt,U h0]
    |a::ys,hp=>
     have:=hp.length_le
     simp at this
  ·rw [zbh,U hm] at hp
   have:=hp.length_le
   simp at this
structure TkAt (size:Int) (k:Nat) (c:Cn) (xs:List (List AV)) (m:Nat) (c0:Cn):Prop where
 items:zbh size k c=xs++zbh size m c0
 st:∀ys,tkSt size k c (xs++ys)=tkSt size m c0 ys
 fuel:c0.n.buf.length+1<=m
def TkAt.first {size:Int} {c:Cn} {k:Nat} (h:c.n.buf.length+1<=k):TkAt size k c [] k c:=⟨rfl,λ_=>rfl,h⟩
def TkAt.here {size:Int} {k m:Nat} {c c0:Cn} {xs:List (List AV)} (h:TkAt size k c xs m c0):tkSt size k c xs=c0:=by have:=h.st [];rw [bm,zjV] at this;exact this
def TkAt.no {size:Int} {k m:Nat} {c c0:Cn} {xs:List (List AV)} (h:TkAt size k c xs m c0) (hm:¬zek c0):xs=zbh size k c:=by
 have:=h.fuel;obtain ⟨m,rfl⟩:∃J,m=J+1:=⟨m - 1,fT⟩
 rw [h.items,zbh,U hm,bm]
def TkAt.bad {size:Int} {k m:Nat} {c c0:Cn} {xs:List (List AV)} (h:TkAt size k c xs m c0) (hm:zek c0) (h0:(reqRd c0.n.buf).2.2≠0):zbh size k c=xs++ [tkIt c0]:=by
 have:=h.fuel;obtain ⟨m,rfl⟩:∃J,m=J+1:=⟨m - 1,fT⟩
 rw [h.items,zbh,aa hm,U h0]
def TkAt.go {size:Int} {k m:Nat} {c c0:Cn} {xs:List (List AV)} (h:TkAt size k c xs m c0) (hm:zek c0) (h0:(reqRd c0.n.buf).2.2=0):(xs++ [tick]++ [tkIt c0])<+:zbh size k c/\tkSt size k c (xs++ [tick])=cnBuf c0/\TkAt size k c (xs++ [tick]++ [tkIt c0]) (m - 1) (cnNx size c0):=by
 have J:=h.fuel;refine' Jd;have hi:=h.items;rw [zbh,aa hm,aa h0] at hi;have hb:=znN (size:=size) h0;refine ⟨⟨zbh size m (cnNx size c0),by rw [hi];simp⟩,?_,by rw [hi];simp,λys=>?_,fT⟩
 .rw [h.st,tkSt,aa h0]
 .rw [aY,aY,h.st];simp only [bf,bh,tkSt,aa h0];rfl
structure CnOk (L:Nat) (x:Img) (c:Cn):Prop where
 phase:c.n.phase=0\/c.n.phase=1\/c.n.phase=2\/c.n.phase=3
 buf:c.n.buf.length<=L
 ms:MsOk c.n.metas
 tasks:c.tasks.length<=8
 tsk:∀t∈c.tasks,t.done=false/\Tiv t.q t/\RqF x t.q c.n.metas
 data:c.tasks≠ []->c.n.phase=2
structure XOk (x:Img):Prop where
 img:ImgF x
 fit:ifit x=true
 maps:x.maps.length<=2
 g0:1<=x.geom.guest
 g1:x.geom.guest<=64
structure SvOk (L:Nat) (v:Srv):Prop where
 x:XOk v.x
 len:v.conns.length<=4
 conn:∀c∈v.conns,CnOk L v.x c
def XOk.of {x:Img} (hx:ImgOk x) (h:cgood x=true):XOk x:=by have hF:=zC3 hx h;unfold cgood at h;simp only [aq,ax] at h;obtain ⟨⟨h2,h3⟩,h4⟩:=h;have J:=h4;unfold ifit at J;simp only [aq] at J;have h6:=J.1.1.1.1.1;rw [geo_iff] at h6;exact ⟨hF,h4,fT,fT,fT⟩
def XOk.step {x y:Img} (h:XOk x) (J:ImgF y) (hi:IF x y):XOk y:=
 ⟨J,hi.fit J h.fit,by rw [hi.len];exact h.maps,by rw [hi.geom];exact h.g0,by rw [hi.geom];exact h.g1⟩
def CnOk.img {L:Nat} {x y:Img} {c:Cn} (h:CnOk L x c) (hy:ImgF y) (hi:IF x y):CnOk L y c:=
 ⟨h.phase,h.buf,h.ms,h.tasks,λt J=>⟨(h.tsk t J).1,(h.tsk t J).2.1,(h.tsk t J).2.2.step hy hi⟩,h.data⟩
def CnOk.more {L M:Nat} {x:Img} {c:Cn} (h:CnOk L x c) (J:L<=M):CnOk M x c:=⟨h.phase,aD h.buf J,h.ms,h.tasks,h.tsk,h.data⟩
def znQ {s:Txt} (hs:s.length<=9223372036854775807):RqOk (reqRd s).1:=by
 have h0:RqOk rq0:=⟨gb,gb,gb,gb,gb,gb,gb⟩
 have h1:∀d:Txt,d.length<=9223372036854775807->RqOk (reqQ s d):=λd J=>by have a:=zbA s 8 8;have b:=zbA s 16 8;have c:=zbA s 24 4;exact ⟨jR,jR,jR,jR,jR,jR,J⟩
 unfold reqRd;split
 .exact h0
 split
 .exact h0
 split
 .exact h1 [] (ad _)
 split
 .exact h0
 split
 .exact h0
 .exact h1 _ (by simp only [az,ak];omega)
def zvy {s:Txt} (h:(reqRd s).2.2=0) (J:(reqRd s).1.kind=1):((reqRd s).1.data.length:Int)=(reqRd s).1.len:=by
 unfold reqRd at*;split at h
 .cases h
 rename_i h1;split at h
 .cases h
 rename_i h2;rw [U h1,U h2] at J |-;split at h
 .rename_i h3;rw [aa h3] at J;simp only [reqQ] at J;omega
 rename_i h3;rw [U h3] at J |-;split at h
 .cases h
 rename_i h4;split at h
 .cases h
 rename_i h5;rw [U h4,U h5];simp only [reqQ,az,ak];omega
def zpT {q:Rq} {size:Int} {ms:List Int} :za2 q size true ms=zl4 q size ms:=by unfold za2 zl4;simp only [Bool.true_eq_false,false_or]
def znR {q:Rq} {size:Int} {ms:List Int} (h:za2 q size false ms=0):q.kind≠7/\zl4 { q with flags:=0 } size [0]=0:=by
 unfold za2 at h;split at h
 .cases h
 rename_i h1;split at h
 .cases h
 rename_i h2
 have J:¬zcS q.kind true<0:=by
  unfold zcS at h1 |-;split at h1
  .rename_i e;rw [aa e];decide
  rename_i e;rw [U e];exact h1
 have hb:cbad 0 (zcS q.kind true)=false:=by unfold cbad;simp only [cbadL,cbad1];rfl
 by_cases h7:q.kind=7
 .rw [h7] at h;simp only [show ¬(7:Int)=2 by decide,show ¬(7:Int)=3 by decide,show ¬(7:Int)=1 by decide,aK,bt,true_or,av] at h;split at h
  .cases h
  split at h
  .cases h
  split at h<;>cases h
 refine ⟨h7,?_⟩;unfold zl4;simp only [U J,hb,bj,aK,h7,false_and] at h |-;exact h
def RqF.of {x:Img} {q:Rq} {ch:Bool} {ms:List Int} (J:XOk x) (hq:RqOk q) (hm:MsOk ms) (hc:za2 q (128*x.geom.guest) ch ms=0) (hk:q.kind≠2) (hd:q.kind=1->(q.data.length:Int)=q.len):RqF x q ms:=by
 have f0:=hq.f0;have l0:=hq.l0
 have h:(q.kind=3/\q.frm=0/\q.len=0)\/((q.kind=0\/q.kind=1\/q.kind=4\/q.kind=6\/q.kind=7)/\q.len≠0/\q.len<=1024/\q.frm<=128*x.geom.guest/\q.len<=128*x.geom.guest - q.frm/\(q.kind=7->ms≠ [])):=by
  cases ch with
  |true=>exact zkN (by rw [<-zpT];exact hc) hk
  |false=>
   obtain ⟨h7,hc⟩:=znR hc;rcases zkN hc hk with h|⟨h1,h2,h3,h4,h5,h6⟩
   .exact .inl h
   .exact .inr ⟨h1,h2,h3,h4,h5,λh=>absurd h h7⟩
 refine ⟨hq,J.img,J.fit,J.maps,J.g0,J.g1,?_,?_,?_,hd,λhk=>?_,hm.1,hm.2,λhk=>?_⟩
 .rcases h with h|⟨h,_⟩<;>omega
 .rcases h with h|⟨h,_⟩<;>omega
 .have:=J.g0;rcases h with h|⟨h,_⟩<;>omega
 .rcases h with h|⟨h,_⟩<;>omega
 .rcases h with h|⟨_,_,_,_,_,h⟩
  .omega
  .exact h hk
def ziu {L:Nat} {x:Img} {c:Cn} (h:CnOk L x c):CnOk L x (ze4 c):=
 ⟨h.phase,ad _,h.ms,ad _,(λt J=>by cases J),λh=>absurd rfl h⟩
def ztJ {L:Nat} {x:Img} {c:Cn} (hx:XOk x) (h:CnOk L x c) (hL:L<=9223372036854775807) (h2:c.n.phase=2) (h8:c.tasks.length<8) (he:(reqRd c.n.buf).2.2=0) (hd:¬((reqRd c.n.buf).1.kind=2/\za2 (reqRd c.n.buf).1 (128*x.geom.guest) c.n.chunks c.n.metas=0)):CnOk L x (cnOne (128*x.geom.guest) c):=by
 have hl:=zi2 he;have hb:=h.buf;unfold cnOne;split
 .exact ⟨h.phase,gH,h.ms,h.tasks,h.tsk,h.data⟩
 .rename_i hc;have hc:za2 (reqRd c.n.buf).1 (128*x.geom.guest) c.n.chunks c.n.metas=0:=df.1 hc;refine ⟨h.phase,gH,h.ms,gh,λt J=>?_,λ_=>h2⟩;rcases aS.1 J with J|J
  .exact h.tsk t J
  .rw [bp] at J;subst J;exact ⟨rfl,Tiv.new _,RqF.of hx (znQ fT) h.ms hc (λe=>hd ⟨e,hc⟩) (zvy he)⟩
def ziv {L:Nat} {x:Img} (J:XOk x) (hL:L<=9223372036854775807):∀ (k:Nat) {c:Cn},CnOk L x c->CnOk L x (zcz (128*x.geom.guest) k c)
 |0,c,h=>h
 | k+1,c,h=>by
  by_cases h1:c.n.phase=2/\c.gone=false/\c.tasks.length<8
  .rw [zmg h1];split
   .exact h
   split
   .exact ziu h
   .rename_i h2;exact ziv J hL k (ztJ J h hL h1.1 h1.2.2 (df.1 (λe=>h2 (.inl e))) (λe=>h2 (.inr e)))
  .rw [zfa h1];exact h
def zyQ {L:Nat} {x:Img} (hx:XOk x) {c:Cn} (h:CnOk L x c) (s:Txt) (hL:L+s.length<=9223372036854775807):CnOk (L+s.length) x (zph x c s):=by
 refine' Hc
 have h1:CnOk (L+s.length) x { c with n:=(zba c.n (xpOf x) s).1,out:=c.out++(zba c.n (xpOf x) s).2 } :=by
  refine ⟨zjB h.phase s,gH,hm.1,h.tasks,λt J=>?_,λb5=>?_⟩
  .refine' It
  .have h2:=h.data b5;simp only;rw [zgn h2];exact h2
 refine ziv hx hL _ ?_;unfold zfQ;split
 .exact ziu h1
 .exact h1
def SvOk.set {L:Nat} {v:Srv} (h:SvOk L v) {i:Nat} {c:Cn} (hc:CnOk L v.x c):SvOk L { v with conns:=v.conns.set i c } :=
 ⟨h.x,by simp only [cO];exact h.len,λo J=>by
  rcases dL J with J|J
  .exact h.conn o J
  .rw [J];exact hc⟩
def SvOk.more {L M:Nat} {v:Srv} (h:SvOk L v) (J:L<=M):SvOk M v:=⟨h.x,h.len,λc hc=>(h.conn c hc).more J⟩
def zcO {v:Srv} {c:Int} {o:Cn} (h:(if c<0 then none else v.conns[c.toNat]?)=some o):0<=c/\v.conns[c.toNat]?=some o/\o∈v.conns:=by
 split at h
 .cases h
 .exact ⟨fT,h,ay h⟩
def zyR {L:Nat} {v:Srv} (h:SvOk L v) (c:Int) (s:Txt) (hL:L+s.length<=9223372036854775807):SvOk (L+s.length) (zfq v c s):=by
 unfold zfq;split
 .exact h.more (bH _ _)
 .rename_i o J;obtain ⟨h1,h2,h3⟩:=zcO J;split
  .exact h.more (bH _ _)
  .exact (h.more (bH _ _)).set (zyQ h.x (h.conn o h3) s hL)
def zg2 {α:Type} {l:List α} {i:Nat} {a:α} (h:a∈l.eraseIdx i):a∈l:=(List.eraseIdx_sublist l i).subset h
def zyS {L:Nat} {x:Img} (J:XOk x) {c:Cn} (h:CnOk L x c) (hL:L<=9223372036854775807) {i:Nat} {t:Tsk} (ht:t.done=false->t.done=false/\Tiv t.q t/\RqF x t.q c.n.metas) (h2:c.n.phase=2):CnOk L x (zij x c i t):=by
 unfold zij;split
 .refine ziv J hL _ ⟨h.phase,h.buf,h.ms,?_,λu hu=>h.tsk u (zg2 hu),λ_=>h2⟩;exact aD (List.length_eraseIdx_le _ _) h.tasks
 .rename_i hd;refine ⟨h.phase,h.buf,h.ms,by simp only [cO];exact h.tasks,λu hu=>?_,λ_=>h2⟩;rcases dL hu with hu|hu
  .exact h.tsk u hu
  .rw [hu];exact ht (by simpa using hd)
def zyT {L:Nat} {v:Srv} (h:SvOk L v) (c i:Int) (hL:L<=9223372036854775807):SvOk L (ze5 v c i):=by
 unfold ze5;split
 .exact h
 rename_i o ho;obtain ⟨h1,h2,J⟩:=zcO ho;split
 .exact h
 rename_i t ht
 have jc:t∈o.tasks:=by
  split at ht
  .cases ht
  .exact ay ht
 obtain ⟨g1,g2,g3⟩:=(h.conn o J).tsk t jc;obtain ⟨i1,i2⟩:=IF.step h.x.img t o.n.metas;have hx:=h.x.step i2 i1;have h4:∀c∈v.conns,CnOk L (tstep v.x t o.n.metas).1 c:=λc hc=>(h.conn c hc).img i2 i1;have gW:=g2.step v.x o.n.metas (h.conn o J).ms.1;have hq:(tstep v.x t o.n.metas).2.q=t.q:=gW.rq;refine ⟨hx,by simp only [cO];exact h.len,λu hu=>?_⟩;rcases dL hu with hu|hu
 .exact h4 u hu
 .rw [hu];exact zyS hx (h4 o J) hL (λhd=>⟨hd,by rw [hq];exact gW,by rw [hq];exact g3.step i2 i1⟩) ((h.conn o J).data (λe=>wX))
def zyU {L:Nat} {v:Srv} (h:SvOk L v) (c:Int):SvOk L (zbY v c).1:=by
 unfold zbY;split
 .exact h
 rename_i o J;obtain ⟨h1,h2,h3⟩:=zcO J;have:=h.conn o h3;exact h.set ⟨this.phase,this.buf,this.ms,this.tasks,this.tsk,this.data⟩
def zr9 {L:Nat} {v:Srv} (h:SvOk L v) (d:Deed) (J:L+d.text.length<=9223372036854775807):SvOk (L+d.text.length) (svDo v d).1:=by
 unfold svDo;split
 .exact zyR h _ _ J
 split
 .exact (zyT h _ _ fT).more (bH _ _)
 .exact (zyU h _).more (bH _ _)
def dlen (l:List Deed):Nat:=(l.map λd=>d.text.length).sum
def zEj {x:Img} :CnOk 0 x cn0:=⟨.inl rfl,ad _,MsOk.nil,ad _,(λt J=>by cases J),λh=>absurd rfl h⟩
def znS {x:Img} (J:XOk x) (n:Int) (h:(svNew x n).2=0):SvOk 0 (svNew x n).1:=by
 unfold svNew at*;split at h
 .cases h
 .rename_i hn;rw [U hn];refine ⟨J,by simp only [bB];omega,λc hc=>?_⟩;rw [(List.mem_replicate.1 hc).2];exact zEj
def zh2 {size:Int} :∀ (k:Nat) {c:Cn},c.gone=false→(zcz size k c).gone=true→(zcz size k c).tasks= []
 |0,c,h,h1=>by rw [zcz,h] at h1;cases h1
 | k +1,c,h,h1=>by
  by_cases hm:zek c
  ·rw [zh0 hm] at h1 ⊢
   have key:(cnNx size c).gone=true→(cnNx size c).tasks= []:=fun e=>by
    unfold cnNx at e ⊢
    split
    ·rename_i g;rw [aa g,h] at e;cases e
    ·rename_i g
     rw [U g] at e
     split
     ·rfl
     ·rename_i g2;rw [U g2,zhr,h] at e;cases e
   split
   ·rename_i g
    rw [aa g] at h1
    cases hg:(cnNx size c).gone with
    |true=>rw [zcC hg];exact key hg
    |false=>exact zh2 k hg h1
   ·rename_i g
    rw [U g] at h1
    exact key h1
  ·rw [zfa hm,h] at h1;cases h1
def zsa {L:Nat} {x:Img} {c:Cn} (J:XOk x) (h:CnOk L x c) (hL:L<=9223372036854775807) (hm:zek c):CnOk L x (cnNx (128*x.geom.guest) c):=by
 unfold cnNx;split
 .exact h
 split
 .exact ziu h
 .rename_i g;exact ztJ J h hL hm.1 hm.2.2 (df.1 (λe=>g (.inl e))) (λe=>g (.inr e))
def zk2 (e c:Int) (d:Txt):(zcW e c d).1.length<=5000:=by
 unfold zcW;split
 .exact ad _
 .rename_i h;simp only [ae,zu,ztg,aC,aM];omega
def zhs (b:Bool) (k c:Int) (d:Txt):(zbx b k c d).1.length<=5000:=by
 unfold zbx;split
 .exact ad _
 split
 .exact ad _
 .rename_i h;simp only [ae,zu,zgg,aC,aM];omega
def zgo (q:Rq) (e:Int) (ch:Bool):(zcX q e ch).length<=5000:=by
 unfold zcX;split
 .exact ad _
 split
 .exact zhs _ _ _ _
 .exact zk2 _ _ _
def zmn (q:Rq):∀ (l:List Spn) (s:Txt),(zhB q l s).length<=s.length+5000*l.length
 | [],s=>aj _
 |p::r,s=>by have h1:=zmn q r (s++(zbx r.isEmpty 5 q.cookie (zdg p.ctx p.list).1).1);have h2:=zhs r.isEmpty 5 q.cookie (zdg p.ctx p.list).1;rw [ae] at h1;rw [zhB,aC];omega
def zi3 (t:Tsk) (ch:Bool):(zgV t ch).length<=5000*(t.spans.length+1):=by
 have a:=zgo t.q t.err ch;have b:=zk2 0 t.q.cookie t.data;have c:=zhs true 1 t.q.cookie (rdata t.q.frm t.data);have d:=zmn t.q t.spans [];have e:=zhs true 0 t.q.cookie [];rw [aM] at d;unfold zgV;repeat' split
 all_goals first|omega|exact ad _
def OutOk (M:Nat) (c:Cn):Prop:=c.out.length+10000*c.n.buf.length<=M
def zjW {M:Nat} {size:Int} {c:Cn} (h:OutOk M c):OutOk M (cnNx size c):=by
 unfold OutOk at*;unfold cnNx;split
 .exact h
 split
 .simp only [ze4,aM];omega
 .rename_i g;have h0:=zi2 (df.1 (λe=>g (.inl e)));have h1:=zgo (reqRd c.n.buf).1 (za2 (reqRd c.n.buf).1 size c.n.chunks c.n.metas) c.n.chunks;unfold cnOne;split<;>simp only [ae]<;>omega
def zi4 {M:Nat} {size:Int} :∀ (k:Nat) {c:Cn},OutOk M c->OutOk M (zcz size k c)
 |0,c,h=>h
 | k+1,c,h=>by
  by_cases hm:zek c
  .rw [zh0 hm];split
   .exact zi4 k (zjW h)
   .exact zjW h
  .rw [zfa hm];exact h
def zk6 {q:Rq} {s:Int} {ch:Bool} {ms:List Int} :0<=za2 q s ch ms/\za2 q s ch ms<4294967296:=by
 unfold za2;repeat' split
 all_goals omega
def zhE (size:Int):Nat->Cn->Cn
 |0,c=>c
 |k+1,c=>if zek c/\¬ztG size c then zhE size k (cnOne size c) else c
abbrev tkH0 (xp:Xp) (s:SW):AHeap:=(61,.var [.d (.int .u64 xp.size),.d (.sl 1 (xp.names.map strD))])::(60,.var [.vp 21 0])::swH s
def zsj (xp:Xp) (s:SW):ACall Tryz.prog 100 80 [.vp 21 0] (tkH0 xp s) (λr h'=>r= .fn (.func 177) [] [.vp 80 0]/\h'=(80,.var [.vp 21 0])::tkH0 xp s):=by refine bod func100 ntmps100 (λbase=>?_);refine' Ds
def swI (s:SW) (c:Cn):SW:=if c.gone=true then (if s.o.gone=true then { s with o:=c } else { s with o:=c,tv:= .nils 12 }) else { s with o:=c,tv:= .osl 34 12 c.tasks.length 0 c.tasks.length,ts:=c.tasks.map tskD }
def swI_o {s:SW} {c:Cn} :(swI s c).o=c:=by
 unfold swI;split
 .split<;>rfl
 .rfl
def ztM {s:SW} (h:SwOk s):swI s s.o=s:=by
 unfold swI;split
 .rfl
 .rename_i J;rcases h.t with ⟨h1,h2⟩|⟨_,_,h3⟩
  .rw [<-h1,<-h2]
  .exact absurd h3 J
abbrev tkH (xp:Xp) (s:SW):AHeap:=(80,.var [.vp 21 0])::tkH0 xp s
def zk8 {xp:Xp} {s:SW} (h:AV.idsL s.pre= []) (h2:AV.idsL s.post= []) (J:s.tv.ids= [34]\/s.tv.ids= []):inH (tkH xp s) (idsH (tkH xp s)):=by
 rcases J with e|e<;>simp [inH,idsH,AObj.ids,AV.idsL,AV.ids,swC,rowC,e,hget,h,h2,zn]
def zDm {s:SW} {c:Cn} (h:AV.idsL s.pre= []) (h2:AV.idsL s.post= []) (J:s.tv.ids= [34]\/s.tv.ids= []):AV.idsL (swI s c).pre= []/\AV.idsL (swI s c).post= []/\((swI s c).tv.ids= [34]\/(swI s c).tv.ids= []):=by
 unfold swI;split
 .split
  .exact ⟨h,h2,J⟩
  .exact ⟨h,h2,.inr rfl⟩
 .exact ⟨h,h2,.inl rfl⟩
def zBp {b n:Nat} {s:SW} {xp:Xp} {size:Int} {K:Nat} {J:Code->AHeap->Option (List (List AV))->Prop} {rec:LoopState->Option Code->Loop} {E0:Env} {h0:AHeap} {w0:World} {ds:List Deferred} {u:Value} {P:Cn->Prop}
  (hp:AV.idsL s.pre= []) (hq:AV.idsL s.post= []) (ht:s.tv.ids= [34]\/s.tv.ids= []) (hK:s.o.n.buf.length+1<=K) (yF:P s.o) (hP:∀c,P c->zek c->(reqRd c.n.buf).2.2=0->P (cnNx size c)) (mM:∀c,P c->c.n.buf.length<=9223372036854775807/\c.tasks.length<=1000)
  (I:List (List AV)->AHeap×Option (List (List AV))) (hI:∀xs,I xs=(tkH xp (swI s (tkSt size K s.o xs)),some []))
  (y:Yo (cxOf Tryz.prog b n 60).P (zbh size K s.o)) (hy:y.G=zcZ (cxOf Tryz.prog b n 60) (w0.heap.size+1) w0.heap.size 100 (λ_=>false) E0 h0 w0 ds I J rec) (e1:SatH E0 h0 w0) (mv:∀b,zaL ds b->b<w0.heap.size) (hu:Rep w0 E0 h0 (.vp 80 0) u)
  {E:Env} {w:World} (hE:SatH E [] w) (hG:y.G (some []) E.M E.N (Own E []) w):
  Calls Tryz.prog 177 (#[]++ #[Value.func (.yield y.yl) #[] #[]]++ #[u]) w (λe w'=>∃v E' h' g,e= .returned v/\((∀xs,g=some xs->xs=zbh size K s.o)/\h'= [])/\SatH E' h' w'/\Evo 100 E [] w E' h' w'/\y.G g E'.M E'.N (Own E' h') w'):=by
 refine zkb (rq:=true) (fl:=100) (pre:= []) (caps:= [.raw u]) (h:= []) (K:=λg h'=>(∀xs,g=some xs->xs=zbh size K s.o)/\h'= []) func177 rfl ntmps177 rfl fZ y (λbase=>?_) hE nr (by simp [Reps,Rep]) hG
 have iq:∀ {c:Code} {Q:Exit->AS->Prop} {xs:List (List AV)} {t:List (Nat×(Bool×AV))},zgm u t->LA I y base 68 100 100 80 u c Q { t:=mapT (lend1 80) t,h:=(I xs).1,g:=none } ->AW (cxY (cxOf Tryz.prog b n 60).P base 68 100 y true) c Q { t:=t,h:= [],g:=some xs } :=
  λhr h=>la_in (cx:=cxOf Tryz.prog b n 60) 80 u hy e1 mv (λ_ _ _ _ _=>trivial) hu gb (λxs=>by rw [hI];rfl) hr h
 refine zbi ?_;refine zk (λq: { q:List (List AV)×Nat×Cn // TkAt size K s.o q.1 q.2.1 q.2.2/\P q.2.2 } =>⟨[(0,true,.fn (.yield y.yl) [] []),(1,true,.raw u)],[],some q.1.1⟩) (λq=>q.1.2.1) ⟨([],K,s.o),TkAt.first hK,yF⟩ le1 (λq=>?_);obtain ⟨⟨xs,m,c⟩,hT,hPc⟩:=q;simp only at hT hPc |-;have gf:=hT.here;by_cases hm:zek c
 .have jn:(c.n.phase==2)=true:=by rw [hm.1];rfl
  have jM:(!c.gone)=true:=by rw [hm.2.1];rfl
  have iv:decide ((c.tasks.length:Int)<8)=true:=af (by have:=hm.2.2;omega);have jd:(I xs).1=tkH xp { s with o:=c,tv:= .osl 34 12 c.tasks.length 0 c.tasks.length,ts:=c.tasks.map tskD } :=by rw [hI,gf,swI,U (by rw [hm.2.1];decide)]
  refine zaC (λK1 mZ=>?_);refine iq (by simp [zgm]) (la_aw ?_);rw [jd];refine' Cl;refine' zc (zp jn jM iv);refine ⟨xs,uh,uS,?_⟩;refine mZ _ ?_;clear mZ K1;refine aw_le ⟨[(0,true,.fn (.yield y.yl) [] []),(1,true,.raw u)],[],some xs⟩ le1 ?_;refine zbi ?_;have jw:=(mM c hPc).1;refine iq (by simp [zgm]) ?_;rw [jd];refine' Cl;refine zBZ (λK hK=>?_);refine' walkW fx (za zpx <| zb _);refine zBZ (λK hK=>?_);by_cases h0:(reqRd c.n.buf).2.2=0
  .have he:((reqRd c.n.buf).2.2==0)=true:=by rw [h0];rfl
   have e9:((reqRd c.n.buf).2.2 !=0)=false:=by rw [h0];rfl
   refine' zc he;refine zyH (zb _) 3 ?_;simp only [go_sem,aeq,aeq.aeqF,simprocAttr,e9];obtain ⟨g1,g2,g3⟩:=hT.go hm h0;have pT:(I (xs++ [tick])).1=tkH xp { s with o:=cnBuf c,tv:= .osl 34 12 c.tasks.length 0 c.tasks.length,ts:=c.tasks.map tskD } :=by rw [hI,g2,swI,U (by rw [cnBuf,hm.2.1];decide)];rfl
   refine ⟨xs++ [tick],by rw [pT];unfold cnBuf;exact lxb (lan @rowC.eq_1 @swC.eq_1),by rw [pT];exact zk8 hp hq (.inl rfl),g1,?_,?_⟩
   .refine' Ds;exact ⟨⟨(xs++ [tick]++ [tkIt c],m - 1,cnNx size c),g3,hP c hPc hm h0⟩,lxa,by have:=hT.fuel;simp only;omega⟩
   .refine' Ds
  .have he:((reqRd c.n.buf).2.2==0)=false:=by simpa using h0
   have e9:((reqRd c.n.buf).2.2 !=0)=true:=oV;have wi:=hT.bad hm h0;refine' zc he;refine zyH (zb _) 3 ?_;simp only [go_sem,aeq,aeq.aeqF,simprocAttr,e9];refine ⟨xs,uh,uS,by rw [wi];exact List.prefix_refl _,?_,?_⟩
   .refine' Ds;rintro zs rfl;exact wi.symm
   .refine' Ds
 .have tS:=hT.no hm;refine zaC (λK1 mZ=>?_);refine iq (by simp [zgm]) (la_aw ?_);obtain ⟨i1,i2,i3⟩:=zDm (c:=c) hp hq ht;have k5:(swI s c).o=c:=swI_o;by_cases h1:c.n.phase=2/\c.gone=false
  .have jn:(c.n.phase==2)=true:=by rw [h1.1];rfl
   have jM:(!c.gone)=true:=by rw [h1.2];rfl
   have iv:decide ((c.tasks.length:Int)<8)=false:=ag (λe=>hm ⟨h1.1,h1.2,fT⟩);have jd:(I xs).1=tkH xp { s with o:=c,tv:= .osl 34 12 c.tasks.length 0 c.tasks.length,ts:=c.tasks.map tskD } :=by rw [hI,gf,swI,U (by rw [h1.2];decide)]
   rw [jd];refine' Cl;refine' zc (zp jn jM iv);refine ⟨xs,uh,uS,?_⟩;rintro zs rfl;exact tS
  .obtain ⟨σ,hσ⟩:∃σ,σ=swI s c:=⟨_,rfl⟩
   have jd:(I xs).1=tkH xp σ:=by rw [hI,gf,hσ]
   rw [<-hσ] at i1 i2 i3 k5;rw [jd];refine' Cl;cases jn:(c.n.phase==2) with
   |false=>
    refine' zc (zg k5 jn);refine ⟨xs,yI,by rw [jd];exact zk8 i1 i2 i3,?_⟩;rintro zs rfl;exact tS
   | true=>
    have jM:(!c.gone)=false:=by
     cases hg:c.gone with
     |true=>rfl
     |false=>exact absurd ⟨beqP jn,hg⟩ h1
    refine' zc (zp k5 jn jM);refine ⟨xs,yI,by rw [jd];exact zk8 i1 i2 i3,?_⟩;rintro zs rfl;exact tS
def zi6 (o:Cn) (ts:List (List D)) (n:Nat):ACall Tryz.prog 60 40 [.agg (rowC o (.osl 23 12 n 0 n))] [(23,.arr 12 ts)] (λr h'=>r= .agg (rowC (ze4 o) (.nils 12))/\h'= [(23,.arr 12 ts)]):=by refine' Ea;unfold rowC;refine bod func60 ntmps60 (λbase=>?_);refine' Ds;rfl
def zad (l:List Cn):List AV:=(l.map cnD).flatten.map AV.d
def zht {l:List Cn} {c:Nat} {o:Cn} (J:l[c]?=some o):zad l=zad (l.take c)++(rowC o (.d (.sl 12 (o.tasks.map tskD)))++zad (l.drop (c+1))):=by
 have e:l=l.take c++(o::l.drop (c+1)):=by rw [<-zdO J,bO]
 conv=>lhs;rw [e]
 simp [zad,cnD,rowC]
def zfc {l:List Cn} :(zad l).length=l.length*8:=by rw [zad,al,zrP]
def zbL {l:List Cn} :AV.idsL (zad l)= []:=ze8 _
def rowD (o:Cn):List AV:=rowC o (.d (.sl 12 (o.tasks.map tskD)))
def rowO (o:Cn):List AV:=rowC o (.osl 23 12 o.tasks.length 0 o.tasks.length)
def ownC (l:List Cn) (c:Nat) (o:Cn) (m i:Nat):List AV:=if i<=c then zad l++List.replicate m .any else zad (l.take c)++(rowO o++(zad (l.drop (c+1))++List.replicate m .any))
def zy2 {l:List Cn} {c i m:Nat} {o q:Cn} (ho:l[c]?=some o) (hi:l[i]?=some q) (b5:i≠c):∃P S,ownC l c o m i=P++(rowD q++S)/\i*8=P.length/\ownC l c o m (i+1)=P++(rowD q++S)/\AV.idsL P=(if i<=c then [] else [23])/\AV.idsL S= []:=by
 have hl:=(bP.1 hi).1;have Co:=(bP.1 ho).1;rcases Nat.lt_or_gt_of_ne b5 with h|h
 .refine ⟨zad (l.take i),zad (l.drop (i+1))++List.replicate m .any,?_,nL,?_,by rw [aa fT];exact zbL,by rw [zn,zbL,zby];rfl⟩
  .rw [ownC,aa fT,zht hi,rowD];simp only [aY]
  .rw [ownC,aa fT,zht hi,rowD];simp only [aY]
 .have J:(l.drop (c+1))[i - c - 1]?=some q:=by rw [eX,show c+1+(i - c - 1)=i by omega];exact hi
  refine ⟨zad (l.take c)++(rowO o++zad ((l.drop (c+1)).take (i - c - 1))),zad ((l.drop (c+1)).drop (i - c - 1+1))++List.replicate m .any,?_,?_,?_,?_,by rw [zn,zbL,zby];rfl⟩
  .rw [ownC,U fT,zht J,rowD];simp only [aY]
  .rw [ae,ae,zfc,zfc,az,az,ak];show _=_+(8+_);omega
  .rw [ownC,U fT,zht J,rowD];simp only [aY]
  .rw [U fT,zn,zn,zbL,zbL];rfl
def zsk (v:Srv) (c:Nat) (o:Cn) (ho:v.conns[c]?=some o) (hl:v.conns.length<=1000) (ht:∀o∈v.conns,o.tasks.length<=1000):ACall Tryz.prog 57 20 [srvA v] [] (λr h'=>∃m,r= .agg (imgC v.x++ [.vsl 22 8 0 v.conns.length])/\h'= [(23,.arr 12 (o.tasks.map tskD)),(22,.var (zad (v.conns.take c)++(rowO o++(zad (v.conns.drop (c+1))++List.replicate m .any))))]):=by
 have a8:c<v.conns.length:=(bP.1 ho).1;refine zD (λi=>decide (22<=i)) ?_;refine bod func57 ntmps57 (λbase=>?_);refine' Ii;refine zaI 3 8 rfl ?_;refine' Cl;refine' z8 (zL 3) fx;refine zwj 22 rfl s7 s7 (show 20<=22 by decide) (λm=>?_);refine aw_le ⟨[(1,true,.vp 20 0),(2,true,.vp 21 0)],[(22,.var (ownC v.conns c o m 0)),(21,.var (img0++ [.nils 8])),(20,.var (imgC v.x++ [.vsl 22 8 0 v.conns.length]))],some []⟩ (by rw [ownC,aa (ad _),zad];unfold imgC img0;simp only [AS.le,leT,leH,ze,AsgK,AV.le,AV.leL,AObj.le,inH,idsT,idsH,AV.ids,AV.idsL,AV.idsR,AObj.ids,lk,hget,go_sem,aeq,aeq.aeqF,simprocAttr]<;>and_intros<;>first|rfl|exact AV.leL_refl _|(rw [zn,ze8,zby];exact ⟨rfl,trivial⟩)) ?_;unfold img0 imgC;refine' Ds;refine zk (λq: { i:Nat // i<=v.conns.length } =>⟨[(1,true,.vp 20 0),(2,true,.vp 21 0),(4,true,.d (.int .i64 q.1))],(if q.1<=c then [] else [(23,.arr 12 (o.tasks.map tskD))])++ [(22,.var (ownC v.conns c o m q.1)),(21,.var (img0++ [.nils 8])),(20,.var (imgC v.x++ [.vsl 22 8 0 v.conns.length]))],some []⟩) (λq=>v.conns.length - q.1) ⟨0,ad _⟩ (by simp only [aa (ad c)];unfold imgC img0;simp only [AS.le,leT,leH,ze,AsgK,AV.le,AV.leL,AObj.le,inH,idsT,idsH,AV.ids,AV.idsL,AV.idsR,AObj.ids,lk,hget,go_sem,aeq,aeq.aeqF,simprocAttr]<;>and_intros<;>first|rfl|exact AV.leL_refl _|(rw [ownC,aa (ad _),zn,zbL,zby];exact ⟨rfl,trivial⟩)) (λq=>?_);refine' Dl;refine' CO;rcases aO i v.conns.length with qg|gU
 .obtain ⟨w,hw⟩:∃w,v.conns[i]?=some w:=⟨_,bk qg⟩
  have J:decide ((i:Int)<(v.conns.length:Int))=true:=af fT;have iv:=ht w (ay hw);rcases fu i c with yG|rfl|yG
  .obtain ⟨P,S,hE,mM,mN,hp,hs⟩:=zy2 (m:=m) ho hw fT;rw [aa fT] at hp;rw [aa fT,hE];refine' F7;refine' Cl;refine' z8 (zL 5) (zg mM @List.length_map.{0,0});refine za0 23 rfl ?_;have hP:AV.trL (onI 23 (AV.frzd 23 (.arr 12 (w.tasks.map tskD)))) P=P:=zdI P (by rw [hp];simp);have hS:AV.trL (onI 23 (AV.frzd 23 (.arr 12 (w.tasks.map tskD)))) S=S:=zdI S (by rw [hs];simp);simp only [go_sem,aeq,aeq.aeqF,simprocAttr,hP,hS];refine' Ds;exact ⟨⟨i+1,fT⟩,by simp only [aa (show i+1<=c by omega),mN];unfold rowD;exact lxb (lan hwi (lan @zn (lan hp hs))),gh⟩
  .rw [ho] at hw;cases hw;have mM:i*8=(zad (v.conns.take i)).length:=nL
   have hE:ownC v.conns i o m i=zad (v.conns.take i)++(rowD o++(zad (v.conns.drop (i+1))++List.replicate m .any)):=by rw [ownC,aa (aj _),zht ho,rowD];simp only [aY]
   have mN:ownC v.conns i o m (i+1)=zad (v.conns.take i)++(rowO o++(zad (v.conns.drop (i+1))++List.replicate m .any)):=by rw [ownC,U fT]
   rw [aa (aj _),hE];refine' F7;refine' Cl;refine' zc (zg mM @List.length_map.{0,0});exact ⟨⟨i+1,fT⟩,by simp only [U (show ¬i+1<=i by omega),mN];unfold rowO;exact lxb (lan hwi (lan @zn (lan @zbL @zby))),gh⟩
  .obtain ⟨P,S,hE,mM,mN,hp,hs⟩:=zy2 (m:=m) ho hw fT;rw [U fT] at hp;rw [U fT,hE];refine' F7;refine' Cl;refine' z8 (zL 5) (zg mM @List.length_map.{0,0});refine za0 24 rfl ?_;have hP:AV.trL (onI 24 (AV.frzd 24 (.arr 12 (w.tasks.map tskD)))) P=P:=zdI P (by rw [hp];simp);have hS:AV.trL (onI 24 (AV.frzd 24 (.arr 12 (w.tasks.map tskD)))) S=S:=zdI S (by rw [hs];simp);simp only [go_sem,aeq,aeq.aeqF,simprocAttr,hP,hS];refine' Ds;exact ⟨⟨i+1,fT⟩,by simp only [U (show ¬i+1<=c by omega),mN];unfold rowD;exact lxb (lan hwi (lan @zn (lan hp hs))),gh⟩
 .have J:decide ((i:Int)<(v.conns.length:Int))=false:=ag fT;rw [U fT,ownC,U fT];unfold imgC img0 rowO;refine' zc J
  .simp [AV.idsL,AV.ids,zn,zbL,zby]
  .exact ⟨m,rfl⟩
def znW:∀ {a J b b':List AV},AV.leL a J->AV.leL b b'->AV.leL (a++b) (J++b')
 | [],[],_,_,_,h=>h
 | [],_::_,_,_,h,_=>by simp only [AV.leL] at h;cases h
 |_::_,[],_,_,h,_=>by simp only [AV.leL] at h
 |x::a,y::J,b,b',h,h2=>by simp only [AV.leL] at h;simp only [bf,AV.leL];exact ⟨h.1,znW h.2 h2⟩
def zp8 {l:List Cn} {k:Nat} {o:Cn} (J:k<l.length):zad (l.set k o)=zad (l.take k)++(rowD o++zad (l.drop (k+1))):=by
 have h:(l.set k o)[k]?=some o:=by rw [fg J]
 rw [zht h,dK (aj _),eD fT];rfl
def zjX {cx:Cx} {c:Code} {Q:Exit->AS->Prop} {s:SW} {l:List Cn} {k m a b d:Nat} {x:D} (J:SwOk s) (hk:k<l.length) (hlen:s.k=l.length) (bu:s.pre=zad (l.take k)) (im:s.post=zad (l.drop (k+1))++List.replicate m .any)
  (iP:a≠b) (pE:a≠d) (jq:b≠d)
  (h:AW cx c Q ⟨[(a,true,.vp 1 0),(b,true,.vp 21 0),(d,true,.d x)],[(21,.var (imgC s.x++ [.d (.sl 8 ((l.set k s.o).map cnD)),.any])),(1,.var (img0++ [.nils 8]))],some []⟩):
  AW cx c Q ⟨[(a,true,.vp 1 0),(b,true,.vp 21 0),(d,true,.d x)],swH s++ [(1,.var (img0++ [.nils 8]))],some []⟩:=by
 have hP:∀f,AV.trL f s.pre=s.pre:=λf=>by rw [bu,zad];exact zp7 _
 have hS:∀f,AV.trL f s.post=s.post:=λf=>by rw [im,znU,zad,zp7,znV]
 have h2:AW cx c Q ⟨[(a,true,.vp 1 0),(b,true,.vp 21 0),(d,true,.d x)],[(22,.var (((l.set k s.o).map cnD).flatten.map .d++List.replicate m .any)),(21,.var (swC s)),(1,.var (img0++ [.nils 8]))],some []⟩:=by refine zsz 22 8 _ rfl yP ?_;unfold img0;refine' Cl;rw [aa (by rw [cO];exact hlen)];exact h
 have hc:((l.set k s.o).map cnD).flatten.map AV.d++List.replicate m .any=s.pre++(rowD s.o++s.post):=by rw [bu,im];show zad (l.set k s.o)++_=_;rw [zp8 hk];simp only [aY]
 rw [hc] at h2;rcases J.t with ⟨e1,e2⟩|⟨e1,e2,_⟩
 .simp only [swH,rowC,e1,e2];refine za0 34 rfl ?_;simp only [go_sem,aeq,aeq.aeqF,simprocAttr,hP,hS,al,aA];exact h2
 .simp only [swH,rowC,e1];refine aw_le _ ?_ h2;unfold rowD;simp only [AS.le,leT,leH,ze,AsgK,AV.le,AV.leL,AObj.le,inH,idsT,idsH,AV.ids,AV.idsL,AV.idsR,AObj.ids,lk,hget,go_sem,aeq,aeq.aeqF,simprocAttr,iP,pE,jq,rowC,e2,swC,img0];and_intros<;>first|rfl|(refine znW (AV.leL_refl _) ?_;simp [AV.leL,AV.le,AV.leL_refl])|exact AV.leL_refl _|simp [inH,AV.idsL,AV.ids,hget,J.p,J.q,zn]
def fewB (x:Img) (ds:List Deed):Bool:=decide ((ds.length:Int)<=60)&&decide (dlen ds<=20000)&&cgood x
def zDp {ds:List Deed} {i:Nat} {d:Deed} (h:ds.take (i+1)=ds.take i++ [d]):dlen (ds.take (i+1))=dlen (ds.take i)+d.text.length:=by rw [h];simp [dlen,eZ]
def zDq {ds:List Deed} {i:Nat} :dlen (ds.take i)<=dlen ds:=by
 conv=>rhs;rw [<-bO i ds]
 simp only [dlen,aG,eZ];omega
def zEo (x:Img) (ds:List Deed) (hp:ImgOk x/\ds.length<=9223372036854775807/\(∀d∈ds,d.text.length<=9223372036854000000)):AC 11 [imgA x,.d (.sl 4 (ds.map deedD))] (.d (.bool (fewB x ds))):=by
 obtain ⟨h,hl,ht⟩:=hp;obtain ⟨V,hV⟩:∃V,V=fewB x ds:=⟨_,rfl⟩
 rw [<-hV];unfold fewB cgood at hV;refine fbod func11 ntmps11 (λbase=>?_);refine' Ds;refine zk (λq: { i:Nat // i<=ds.length } =>⟨[(1,true,.d (.sl 4 (ds.map deedD))),(2,true,.vp 0 0),(5,true,.d (.int .i64 (dlen (ds.take q.1)))),(6,true,.d (.int .i64 q.1))],[(0,.var (imgC x))],some []⟩) (λq=>ds.length - q.1) ⟨0,ad _⟩ vR (λq=>?_);refine' Dl;obtain ⟨S,hS⟩:∃S,S=dlen (ds.take i):=⟨_,rfl⟩
 have nS:=zDq (ds:=ds) (i:=i);rw [<-hS] at nS |-;rcases zw deedD ds i hi with ⟨d,pF,bo,J,ab,b4,a7⟩|⟨ao,J⟩
 .by_cases h2:S<=20000
  .have e2:decide ((S:Int)<=20000)=true:=af fT;simp only [deedD] at ab;refine' CO;have gw:=ht d (ay pF);have l9:=zDp a7;rw [<-hS] at l9;have hw:IntKind.i64.wrap ((S:Int)+(d.text.length:Int))=((S+d.text.length:Nat):Int):=gP;refine' zc (zp J ab e2);all_goals first|omega|skip
   exact ⟨⟨i+1,fT⟩,by simp only [l9];unfold imgC;exact lxb (lan hwi hw),gh⟩
  .have e2:decide ((S:Int)<=20000)=false:=ag fT;have e3:decide (dlen ds<=20000)=false:=ag fT;rw [e3] at hV;unfold imgC;refine' walkW (zg J e2) (za zkG <| zb _);rw [hV,eb,cD]
 .subst ao;rw [aL] at hS;have e2:decide ((S:Int)<=20000)=decide (dlen ds<=20000):=by rw [hS];exact decide_eq_decide.2 fT
  unfold imgC;refine' walkW (zg J e2) (za zkG <| zb _);rw [hV,<-eU,<-eU]
@[go_sem] noncomputable def zft:Ent Tryz.prog 11:= .m2 za9 (slT 4 deedD zkP) zEo
end Go.Aw
