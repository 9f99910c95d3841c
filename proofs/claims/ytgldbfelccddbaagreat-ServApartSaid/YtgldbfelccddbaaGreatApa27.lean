/- Lemmas. -/
import Derived.Test.YtgldbfelccddbaaGreatApa25
set_option linter.all false
set_option maxRecDepth 100000
set_option maxHeartbeats 2000000
namespace Go.Aw
noncomputable section
open Go Go.Proofs Go.Proofs.Tryz
def zxI {d:Disk} {p:Plan} {t i:Int} :(eget d p t i).1.kind=0\/(eget d p t i).1.kind=1\/(eget d p t i).1.kind=2:=by
 by_cases he:(eget d p t i).2=0
 .exact (zfL (znf he).1).1
 .unfold eget at he |-;split
  .exact .inl rfl
  rename_i h1;rw [U h1] at he;split
  .exact .inl rfl
  rename_i h2;rw [U h2] at he;unfold entT at he |-;split
  .exact .inl rfl
  .rename_i J;rw [U J] at he;exact absurd rfl he
def zuT {d:Disk} {p:Plan} {l g:Int} :(elook d p l g).1.kind=0\/(elook d p l g).1.kind=1\/(elook d p l g).1.kind=2:=by
 unfold elook;repeat' split
 all_goals first|exact .inl rfl|exact zxI
def IF.flush {x:Img} (h:ImgF x):IF x (zew x).1/\ImgF (zew x).1:=by
 unfold zew;split
 .exact ⟨IF.refl x,h⟩
 .have hd:=DF.flush h.disk;have J:=h.disk.flush;exact ⟨⟨rfl,hd,id,rfl,λ_ _=>rfl,rfl⟩,⟨⟨J.ok,h.ok.maps,h.ok.names,h.ok.bits⟩,J,h.guest,h.host,h.seq0,h.seq1,h.maps⟩⟩
def IF.piece {x:Img} (h:ImgF x) (q:Rq) (c:Nat×Nat×Nat):IF x (tpc x q c).1/\ImgF (tpc x q c).1:=by
 unfold tpc;split
 .exact ⟨IF.refl x,h⟩
 split
 .exact ⟨IF.write h _ _ _,h.write _ _ _⟩
 .exact ⟨IF.clear1 h _ _,h.clear1 _ _⟩
def IF.last {x:Img} (h:ImgF x) (q:Rq) (ms:List Int):IF x (tlast x q ms).1/\ImgF (tlast x q ms).1:=by
 unfold tlast;split
 .exact ⟨IF.refl x,h⟩
 split
 .exact IF.flush h
 .exact ⟨IF.refl x,h⟩
def IF.step {x:Img} (h:ImgF x) (t:Tsk) (ms:List Int):IF x (tstep x t ms).1/\ImgF (tstep x t ms).1:=by
 unfold tstep;split
 .exact ⟨IF.refl x,h⟩
 split
 .exact IF.piece h _ _
 .exact IF.last h _ _
def zAJ (n:Nat):∀a,∀q∈cuts a n,a<=q.1*128+q.2.1/\q.1*128+q.2.1+q.2.2<=a+n/\q.2.1+q.2.2<=128/\1<=q.2.2:=by
 induction n using Nat.strongRecOn with
 | _ n ih=>
  intro a q J;rcases cy n with rfl|h
  .simp [zgU] at J
  .rw [zgf a n h,bg] at J;rcases J with rfl|J
   .simp only;omega
   .have:=ih _ fT _ q J;omega
def csz (l:List (Nat×Nat×Nat)):Nat:=(l.map λq=>q.2.2).sum
def zth (q:Nat×Nat×Nat) (l:List (Nat×Nat×Nat)):csz (q::l)=q.2.2+csz l:=by simp [csz]
def zl1 (a b:List (Nat×Nat×Nat)):csz (a++b)=csz a+csz b:=by simp [csz,eZ]
def zro (l:List (Nat×Nat×Nat)) (k:Nat):csz (l.take k)<=csz l:=by have h:=zl1 (l.take k) (l.drop k);rw [bO] at h;omega
def zAK (n:Nat):∀a,csz (cuts a n)=n:=by
 induction n using Nat.strongRecOn with
 | _ n J=>
  intro a;rcases cy n with rfl|h
  .rfl
  .rw [zgf a n h,zth,J _ fT];simp only;omega
def zeh {a n:Int} (q:Nat×Nat×Nat) (J:q∈cutsL a n):a<=q.1*128+q.2.1/\(q.1*128+q.2.1+q.2.2:Int)<=a+n/\q.2.1+q.2.2<=128/\1<=q.2.2:=by
 unfold cutsL at J;split at J
 .cases J
 .have:=zAJ _ _ q J;omega
def zpd {a n:Int} :csz (cutsL a n)<=n.toNat:=by
 unfold cutsL;split
 .exact ad _
 .rw [zAK];exact aj _
def zl2 {d:Disk} {l1:Int} :∀ (l:List (Nat×Nat×Nat)) (s:Txt),(zgy d l1 l s).1.length<=s.length+csz l
 | [],s=>bH _ _
 | q::r,s=>by
  rw [zgy];split
  .exact ad _
  .have:=zl2 (d:=d) (l1:=l1) r (s++((cread d l1 q.1).1.take (q.2.1+q.2.2)).drop q.2.1);rw [zth];simp only [ae,ak,az] at this;omega
def zpe {x:Img} {a n:Int} :(iread x a n).1.length<=n.toNat:=by
 unfold iread;split
 .exact ad _
 split
 .exact ad _
 .have h1:=zl2 (d:=x.disk) (l1:=(zF x.disk p0).1.l1) (cutsL a n) [];have h2:=zpd (a:=a) (n:=n);simp only [aM] at h1;omega
def zxJ {x:Img} {q:Rq} {c:Nat×Nat×Nat} :(tpc x q c).2.1.length<=c.2.2:=by
 unfold tpc;split
 .have:=zpe (x:=x) (a:=c.1*128+c.2.1) (n:=c.2.2);simp only [aw] at this;exact this
 split
 .exact ad _
 .exact ad _
def zpf {x:Img} {q:Rq} :∀ (ms:List Int) (l:List Spn),(tctxL x q ms l).1.length<=l.length+ms.length
 | [],l=>bH _ _
 | k::r,l=>by
  rw [tctxL];split
  .exact ad _
  .have:=zpf (x:=x) (q:=q) r (l++ [⟨k,(tctx x q k).1⟩]);simp only [ae,aC,aM] at this |-;omega
def zxK {x:Img} {q:Rq} {ms:List Int} :(tlast x q ms).2.1.length<=ms.length:=by
 unfold tlast;split
 .have:=zpf (x:=x) (q:=q) ms [];simpa using this
 split
 .exact ad _
 .exact ad _
structure Tiv (q:Rq) (t:Tsk):Prop where
 rq:t.q=q
 cuts:t.cuts=(tnew q).cuts
 lo:0<=t.loc
 hi:t.loc<=t.cuts.length
 fresh:t.done=false->t.spans= []/\t.err=0
 err:t.err=0\/t.err=5\/t.err=28
 data:t.data.length<=csz (t.cuts.take t.loc.toNat)
 spans:t.spans.length<=3
def Tiv.new (q:Rq):Tiv q (tnew q):=⟨rfl,rfl,db _,by simp [tnew],λ_=>⟨rfl,rfl⟩,.inl rfl,by simp [tnew],by simp [tnew]⟩
def zAL {α:Type} {l:List α} {k:Nat} {c:α} (h:l[k]?=some c):l.take (k+1)=l.take k++ [c]:=by rw [dr,h];rfl
def Tiv.step {q:Rq} {t:Tsk} (h:Tiv q t) (x:Img) (ms:List Int) (hm:ms.length<=3):Tiv q (tstep x t ms).2:=by
 unfold tstep;cases J:t.done with
 |true=>rw [aa rfl];exact h
 | false=>
  rw [U gb];obtain ⟨k,hk⟩:∃k:Nat,t.loc=k:=⟨t.loc.toNat,by have:=h.lo;omega⟩
  have h0:=h.fresh J;have jt:=h.data;cases hc:t.cuts[t.loc.toNat]? with
  | some c=>
   have ab:t.loc.toNat<t.cuts.length:=(bP.1 hc).1;have hl:=zxJ (x:=x) (q:=t.q) (c:=c);have gW:=zAL hc;have e1:(t.loc+1).toNat=t.loc.toNat+1:=fT;simp only;split
   .exact ⟨h.rq,h.cuts,by simp only [tfail];omega,by simp only [tfail];omega,λhh=>by simp [tfail] at hh,by simp only [tfail];split<;>simp,tE,tE⟩
   .refine ⟨h.rq,h.cuts,gH,gH,λ_=>h0,h.err,?_,h.spans⟩;simp only;rw [e1,gW,zl1,ae];have:csz [c]=c.2.2:=by simp [csz]
    omega
  |none=>
   have hl:=zxK (x:=x) (q:=t.q) (ms:=ms);simp only;split
   .exact ⟨h.rq,h.cuts,h.lo,h.hi,λhh=>by simp [tfail] at hh,by simp only [tfail];split<;>simp,tE,tE⟩
   .exact ⟨h.rq,h.cuts,h.lo,h.hi,λhh=>by simp at hh,h.err,h.data,gH⟩
def zl3 {x:Img} {t:Tsk} {ms:List Int} (h:t.done=true):tstep x t ms=(x,t):=by unfold tstep;rw [aa h]
def zpg:∀ (l:List Ext) (s:Txt),(rrows l s).1.length<=s.length+8*l.length
 | [],s=>by simp [rrows]
 | e::r,s=>by
  rw [rrows];split
  .have:=zpg r (s++putN e.len.toNat 4++putN e.flags.toNat 4);simp only [ae,zu,aC] at this |-;omega
  .exact ad _
def zkM {c:Int} {l:List Ext} :(zdg c l).1.length<=4004:=by
 unfold zdg;split
 .exact ad _
 .have:=zpg l (putN c.toNat 4);rw [zu] at this;omega
def jrest:Ext->List Ext->List Ext
 |r,[]=>if 0<r.len then [r] else []
 |r,x::l=>if 0<r.len/\r.flags=x.flags then jrest ⟨r.len+x.len,r.flags⟩ l else if 0<r.len then r::jrest x l else jrest x l
def ztl (o:List Ext) (r x:Ext):jst (o++ [r]) x=if r.flags=x.flags then o++ [⟨r.len+x.len,x.flags⟩] else o++ [r]++ [x]:=by
 simp only [jst,List.getLast?_append,List.getLast?_singleton,Option.or_some,Option.some_or,List.dropLast_concat]
def ziW:∀ (l:List Ext) (o:List Ext) (r:Ext),0<r.len->(∀x∈l,1<=x.len)->l.foldl jst (o++ [r])=o++jrest r l
 | [],o,r,h,_=>by rw [jrest,aa h];rfl
 | x::l,o,r,h,J=>by
  have hx:=J x cW;have rT:∀y∈l,1<=y.len:=λy hy=>J y (cY _ hy);rw [cA,ztl,jrest];by_cases he:r.flags=x.flags
  .rw [aa he,aa ⟨h,he⟩,<-he];exact ziW l o ⟨r.len+x.len,r.flags⟩ gH rT
  .rw [U he,U (λhh=>he hh.2),aa h,ziW l (o++ [r]) x fT rT,aY];rfl
def zuY (l:List Ext) (J:∀x∈l,1<=x.len):jrest ⟨0,0⟩ l=ejoin l:=by
 cases l with
 |nil=>rfl
 |cons x l=>
  have hx:=J x cW;rw [jrest,U fZ,U fZ,ejoin,cA];have:=ziW l [] x fT (λy hy=>J y (cY _ hy));simp only [bh] at this;rw [<-this];rfl
def zxT (o:List Ext) (x:Ext):(jst o x).length<=o.length+1/\jst o x≠ []:=by
 unfold jst;split
 .rename_i y J;have b5:o≠ []:=by rintro rfl;cases J
  split
  .refine ⟨?_,fZ⟩;simp only [ae,List.length_dropLast,bl];omega
  .exact ⟨fZ,fZ⟩
 .exact ⟨fZ,fZ⟩
def zkR:∀ (l o:List Ext),(l.foldl jst o).length<=o.length+l.length/\(o≠ []\/l≠ []->l.foldl jst o≠ [])
 | [],o=>⟨aj _,λh=>by rcases h with h|h;exact h;exact absurd rfl h⟩
 |x::l,o=>by rw [cA];obtain ⟨h1,h2⟩:=zxT o x;obtain ⟨h3,J⟩:=zkR l (jst o x);exact ⟨w8,λ_=>J (.inl h2)⟩
def zpo (l:List Ext):(ejoin l).length<=l.length:=by have:=(zkR l []).1;simpa [ejoin] using this
def zAN {l:List Ext} (h:l≠ []):ejoin l≠ []:=(zkR l []).2 (.inr h)
def zxU {f:Int->Int×Int} :∀ (c:List (Nat×Nat×Nat)) (l:List Ext),(c≠ []\/l≠ [])->(spL f c l).2=0->(spL f c l).1≠ []
 | [],l,h,_=>by rw [spL];exact zAN (by rcases h with h|h;exact absurd rfl h;exact h)
 | q::r,l,_,he=>by
  rw [spL] at he |-;split at he
  .rename_i h;exact absurd he h
  .rename_i h;rw [U h];exact zxU r _ (.inr fZ) he
def zru {f:Int->Int×Int} :∀ (c:List (Nat×Nat×Nat)) (l:List Ext),(spL f c l).1.length<=l.length+c.length
 | [],l=>zpo l
 | q::r,l=>by
  rw [spL];split
  .exact ad _
  .have:=zru (f:=f) r (l++ [⟨q.2.2,(f q.1).1⟩]);simp only [ae,aC,aM] at this |-;omega
def ztm {a n:Int} (h0:0<=a) (h1:1<=n) (h2:a<=1073741824) (J:n<=65536):cutsL a n≠ []:=by rw [cutsL,U fT,zgf _ _ fT];simp
def zl7 {x:Img} {l1 a n:Int} (J:x.geom.guest<=64) (h:(zcy x l1 a n).2=0):(zcy x l1 a n).1≠ []:=by
 unfold zcy at h |-;split at h
 .cases h
 .rename_i h1;rw [U h1];simp only [cr,dF] at h1;have h2:=inB_iff.1 h1.2;exact zxU _ _ (.inl (ztm h2.1 fT fT fT)) h
def zpp {x:Img} {m:Txt} {a n:Int} (J:x.geom.guest<=64) (h:(zdD x m a n).2=0):(zdD x m a n).1≠ []:=by
 unfold zdD at h |-;split at h
 .cases h
 .rename_i h1;rw [U h1];simp only [cr,dF] at h1;have h2:=inB_iff.1 h1.2;split at h
  .cases h
  .rename_i hm;exact zxU _ _ (.inl (ztm h2.1 fT fT fT)) h
def zC7 (g a n:Int):(decide (a<0)||decide (n<0)||decide (128*g<n)||decide (128*g - n<a))= !inB g a n:=by rw [bV,bI,<-cb,inB_iff];simp only [aH,ax];omega
def zpq (g:Geom) (a n:Int) (hp:0<=g.guest/\g.guest<=1000000):AC 265 [geomA g,.d (.int .i64 a),.d (.int .i64 n)] (.d (.bool (inB g.guest a n))):=by
 refine' EP;refine fbod func265 ntmps265 (λbase=>?_);have hw:IntKind.i64.wrap (g.guest*128)=128*g.guest:=gP
 have J:(decide (0<=a)&&decide (0<=n)&&decide (n<=128*g.guest)&&decide (a<=IntKind.i64.wrap (128*g.guest - n)))=inB g.guest a n:=by
  unfold inB;by_cases h:0<=n/\n<=128*g.guest
  .rw [zf fT fT]
  .rcases ei n 0 with h2|h2
   .rw [ag (p:=0<=n) fT];simp
   .rw [ag (p:=n<=128*g.guest) fT];simp
 refine' zc (zg hw J)
@[go_sem] def zU:Ent Tryz.prog 265:= .m3 zet (intT .i64) (intT .i64) zpq
abbrev Cust (x y:Nat):= { q:List (Nat×Nat×Nat)×Nat×Nat // q.1++cuts q.2.1 q.2.2=cuts x y/\q.2.1+q.2.2<=x+y/\q.1.length+q.2.2<=y }
def zxV (a n:Int) (_:True):AC 115 [.d (.int .i64 a),.d (.int .i64 n)] (.d (.sl 3 ((cutsL a n).map cutD))):=by
 refine fbod func115 ntmps115 (λbase=>?_);cases J:(decide (a<0)||decide (n<0)||decide (1073741824<a)||decide (65536<n)) with
 |true=>
  refine' zc J;rw [cutsL,aa (by simpa [dA] using J)];rfl
 | false=>
  refine' Ff;have hZ:cutsL (x:Int) (y:Int)=cuts x y:=by rw [cutsL,U ib];rfl
  rw [hZ];refine' zc J;refine zaI 5 3 rfl ?_;refine' Ev;refine zk (λq:Cust x y=>⟨[(0,true,.d (.int .i64 q.1.2.1)),(1,true,.d (.int .i64 q.1.2.2)),(5,true,.osl 0 3 q.1.1.length 0 q.1.1.length)],[(0,.arr 3 (q.1.1.map cutD))],some []⟩) (λq=>q.1.2.2) ⟨([],x,y),rfl,aj _,fZ⟩ le1 (λq=>?_);obtain ⟨⟨l,a',n'⟩,he,sN,hl⟩:=q;simp only at he sN hl |-;rcases cy n' with kX|kX
  .have hg:decide ((0:Int)<(n':Int))=false:=ag fT;refine' zc hg;rw [kX,zgU,bm] at he;rw [he]
  .have hg:decide ((0:Int)<(n':Int))=true:=af fT;obtain ⟨m,hm⟩:∃m,m=min n' (128 - a' % 128):=⟨_,rfl⟩
   have hq:IntKind.i64.wrap ((a':Int).tdiv 128)=((a' / 128:Nat):Int):=by rw [ct fT,bz];omega
   have hr:(a':Int).tmod 128=((a' % 128:Nat):Int):=by rw [bX fT];omega
   refine' I8
   have nP:imin (n':Int) ((128 - a' % 128:Nat):Int)=(m:Int):=by unfold imin;split<;>omega
   refine' F5;rw [zgf a' n' kX,<-hm] at he;refine' zc (zr hg hq hr hs nP (zg rk rl));exact ⟨⟨(l++ [(a' / 128,a' % 128,m)],a'+m,n' - m),gp,gH,by simp only [ae,bl];omega⟩,by simp only [aG,ae,bl];exact lxa,gH⟩
@[go_sem] def zaj:Ent Tryz.prog 115:= .m2 (intT .i64) (intT .i64) zxV
def zrv (y:Ent2) (_:True):AC 273 [entA y] (.d (.int .i64 (zjv y))):=by
 refine fbod func273 ntmps273 (λbase=>?_);refine' Ds
 .rw [zjv,aa (beqP hc)]
 .rename_i h1;rw [zjv,U (beqN h1),aa (beqP hc)]
 .rename_i h1;rw [zjv,U (beqN h1),U (beqN hc)]
@[go_sem] def zdE:Ent Tryz.prog 273:= .m1 zhA zrv
def zC8 {o:List Ext} {x:Ext} {k:Int} (h:∀y∈o,1<=y.len/\y.len<=k) (ki:1<=x.len) (hx:x.len<=128) (hk:0<=k):∀y∈jst o x,1<=y.len/\y.len<=k+128:=by
 intro y J;unfold jst at J;split at J
 .rename_i z hz;have Cb:=h z (List.mem_of_getLast? hz);split at J
  .rcases aS.1 J with J|J
   .have:=h y (List.dropLast_subset _ J);omega
   .rw [bp] at J;subst J;simp only;omega
  .rcases aS.1 J with J|J
   .have:=h y J;omega
   .rw [bp] at J;subst J;omega
 .rw [bp] at J;subst J;omega
def zuZ (l:List Ext) (hp:l.length<=65536/\(∀x∈l,1<=x.len/\x.len<=128)):AC 274 [.d (.sl 2 (l.map extD))] (.d (.sl 2 ((ejoin l).map extD))):=by
 obtain ⟨hl,h⟩:=hp;refine fbod func274 ntmps274 (λbase=>?_);obtain ⟨Z,hZ⟩:∃Z,Z=ejoin l:=⟨_,rfl⟩
 rw [<-hZ];rw [ejoin] at hZ;refine' Ds;refine zaI 3 2 rfl ?_;refine' Ev;refine zk (λq: { q:Nat×List Ext // q.1<=l.length/\Z=(l.drop q.1).foldl jst q.2/\q.2.length<=q.1/\∀y∈q.2,1<=y.len/\y.len<=128*(q.1:Int) } =>⟨[(0,true,.d (.sl 2 (l.map extD))),(3,true,.osl 0 2 q.1.2.length 0 q.1.2.length),(4,true,.d (.int .i64 q.1.1))],[(0,.arr 2 (q.1.2.map extD))],some []⟩) (λq=>l.length - q.1.1) ⟨(0,[]),ad _,hZ,aj _,fZ⟩ le1 (λq=>?_);obtain ⟨⟨i,o⟩,hi,hf,j0,ho⟩:=q;simp only at hi hf j0 ho |-;rcases zw extD l i hi with ⟨x,hq,b3,J,ab,b4,a7⟩|⟨ao,J⟩
 .simp only [extD] at ab;refine' CO;obtain ⟨ki,mB⟩:=h x (ay hq);rw [b4,cA] at hf;have mH:=(zxT o x).1;have qp:=zC8 ho ki mB fT;have jr:decide (x.len<1)=false:=ag fT;have j4:imin x.len 1099511627776=x.len:=jQ
  have gf:∀o',o'=jst o x->(∃q': { q:Nat×List Ext // q.1<=l.length/\Z=(l.drop q.1).foldl jst q.2/\q.2.length<=q.1/\∀y∈q.2,1<=y.len/\y.len<=128*(q.1:Int) },q'.1=(i+1,o')):=by rintro o' rfl;exact ⟨⟨(i+1,jst o x),fT,hf,gH,λy hy=>by have:=qp y hy;simp only;omega⟩,rfl⟩
  rcases List.eq_nil_or_concat o with rfl|⟨p,r,rfl⟩
  .refine' zc (zB J ab jr j4);obtain ⟨q',fV⟩:=gf [x] rfl;exact ⟨q',by rw [fV];exact lxb (lan hwi @extD.eq_1),xP⟩
  .rw [List.concat_eq_append] at hf j0 ho mH qp gf |-;have hr:=ho r fZ;have jl:(p++ [r]).length=p.length+1:=fZ;have vU:decide ((0:Int)<((p.length+1:Nat):Int))=true:=af fT;have hw:IntKind.i64.wrap (((p.length+1:Nat):Int) - 1)=(p.length:Int):=gP;have nT:((p++ [r]).map extD).getD p.length []=extD r:=by simp [aN]
   simp only [extD] at nT;rw [ztl] at gf;cases he:(r.flags==x.flags) with
   |true=>
    rw [aa gp] at gf;have jg:imin r.len 1099511627776=r.len:=jQ;have kk:imin (r.len+x.len) 1099511627776=r.len+x.len:=jQ;have gO:IntKind.i64.wrap (r.len+x.len)=r.len+x.len:=zf fT fT;obtain ⟨M,hM⟩:∃M:List (List D),M=(p++ [(⟨r.len+x.len,r.flags⟩:Ext)]).map extD:=⟨_,rfl⟩
    have bs:((p++ [r]).map extD).set p.length [D.int .i64 (r.len+x.len),D.int .i64 r.flags]=M:=by rw [hM];simp [extD]
    have eg:M.set p.length [D.int .i64 (r.len+x.len),D.int .i64 r.flags]=M:=by rw [hM];simp [extD]
    have oP:M.length=p.length+1:=by rw [hM];simp
    have ye:M.getD p.length []= [D.int .i64 (r.len+x.len),D.int .i64 r.flags]:=by rw [hM];simp [extD,aN]
    refine' zc (zr J ab jr j4 jl (zr vU hw nT he jg (zr kk gO bs eg oP (zg ye natC))));all_goals first|omega|skip
    obtain ⟨q',fV⟩:=gf _ rfl;have jW:x.flags=r.flags:=(by simpa using he:r.flags=x.flags).symm;exact ⟨q',by rw [fV,jW,hM];simp only [ae,bl];exact lxb hwi,xP⟩
   |false=>
    rw [U gp] at gf;refine' zc (zr J ab jr j4 jl (zat vU hw nT he natC));all_goals first|omega|skip
    obtain ⟨q',fV⟩:=gf _ rfl;exact ⟨q',by rw [fV];simp only [ae,bl,aG,au,bM];exact lxb (lan hwi @extD.eq_1),xP⟩
 .refine' Hp
@[go_sem] def zaR:Ent Tryz.prog 274:= .m1 (slT 2 extD zeG) zuZ
def zve (x:Img) (hp:0<=x.geom.guest/\x.geom.guest<=1000000):AC 118 [imgA x] (.d (.int .i64 (128*x.geom.guest))):=by refine' EP;refine fbod func118 ntmps118 (λbase=>?_);have hw:IntKind.i64.wrap (128*x.geom.guest)=128*x.geom.guest:=zf fT fT;refine' zc hw
@[go_sem] def zpA:Ent Tryz.prog 118:= .m1 za9 zve
def zrG (x:Img) (h:ImgF x):AC 123 [imgA x] (.tup [imgA (zew x).1,.d (.int .i64 (zew x).2)]):=by
 refine fbod func123 ntmps123 (λbase=>?_);have ni:=h.disk.ok;have iZ:=h.disk.puts;cases J:x.broken with
 |true=>
  refine' walkW J (za zbq <| zb _);rw [zew,aa J,J]
 |false=>
  obtain ⟨F,hF⟩:∃F,F=dflush x.disk:=⟨_,rfl⟩
  refine' walkW (zg J hF.symm) (za zbq <| zb _);rw [zew,U (by rw [J];decide),<-hF]
@[go_sem] def zbn:Ent Tryz.prog 123:= .m1 za9 zrG
def zvf (x:Img) (a n:Int) (hp:ImgF x/\0<=x.geom.guest):AC 196 [imgA x,.d (.int .i64 a),.d (.int .i64 n)] (.tup [.d (.str (iread x a n).1),.d (.int .i64 (iread x a n).2)]):=by
 obtain ⟨h,h0⟩:=hp;refine fbod func196 ntmps196 (λbase=>?_);have l4:=h.guest;have rO:=h.disk;refine' FH;obtain ⟨Z,hZ⟩:∃Z,Z=iread x a n:=⟨_,rfl⟩
 rw [<-hZ];rw [iread] at hZ;cases hb:inB x.geom.guest a n with
 |false=>
  rw [hb,aa rfl] at hZ;refine' walkW hb (za zU <| za zJ <| za zaj <| za zal <| zb _);rw [hZ]
 | true=>
  refine' Es;refine' walkW (zp hb hR.symm hl.symm) (za zU <| za zJ <| za zaj <| za zal <| zb _)
  .rw [hZ,aa (bneP hc)]
  .rw [U (bneN hc)] at hZ;refine zk (λq: { q:Nat×Txt // q.1<=l.length/\q.2.length<=128*q.1/\Z=zgy x.disk R.1.l1 (l.drop q.1) q.2 } =>⟨[(3,true,.vp 0 0),(8,true,.vp 1 0),(10,true,.d (.str q.1.2)),(11,true,.d (.sl 3 (l.map cutD))),(12,true,.d (.int .i64 q.1.1))],[(1,.var [.d (.int .i64 R.1.l1),.d (.int .u32 R.1.next)]),(0,.var (imgV x))],some []⟩) (λq=>l.length - q.1.1) ⟨(0,[]),ad _,aj _,hZ⟩ le1 (λq=>?_);refine' Ey;rcases zw cutD l i hi with ⟨⟨c0,c1,c2⟩,hq,b3,J,ab,b4,a7⟩|⟨ao,J⟩
   .simp only [cutD] at ab;refine' CO;have kE:=ir _ (ay hq);simp only at kE;rw [b4,zgy] at hf;obtain ⟨C,hC⟩:∃C,C=cread x.disk R.1.l1 c0:=⟨_,rfl⟩
    have tM:IntKind.i64.wrap ((c1:Int)+(c2:Int))=((c1+c2:Nat):Int):=gP;have c6:C.2=0->C.1.length=128:=by rw [hC];exact zgQ h.disk.puts
    simp only at hf;rw [<-hC] at hf;cases he:(C.2 !=0) with
    |true=>
     rw [aa gp] at hf;refine' walkW (zB J ab hC.symm he) (za zU <| za zJ <| za zaj <| za zal <| zb _);rw [hf]
    |false=>
     rw [U gp] at hf;have yf:=c6 gp;have iv:(List.drop c1 (List.take (c1+c2) C.1)).length<=128:=by rw [ak,az];omega
     refine' walkW (zr J ab hC.symm he tM natC) (za zU <| za zJ <| za zaj <| za zal <| zb _);all_goals first|omega|skip
     exact ⟨⟨(i+1,s++List.drop c1 (List.take (c1+c2) C.1)),fT,w9,hf⟩,lev,gh⟩
   .refine' walkW J (za zU <| za zJ <| za zaj <| za zal <| zb _);rw [hf,ao,aP];rfl
@[go_sem] def zb3:Ent Tryz.prog 196:= .m3 za9 (intT .i64) (intT .i64) zvf
def ztB {f:Int->Int×Int} {Z:List Ext×Int} {q:Nat×Nat×Nat} {r:List (Nat×Nat×Nat)} {o:List Ext} (h:Z=spL f (q::r) o):Z=if (f q.1).2≠0 then ([],(f q.1).2) else spL f r (o++ [⟨q.2.2,(f q.1).1⟩]):=by rw [h,spL]
def zDe {d:Disk} {l1:Int} {Z:List Ext×Int} {c0 c1 c2:Nat} {r:List (Nat×Nat×Nat)} {o:List Ext} (h:Z=spL (elkF d l1) ((c0,c1,c2)::r) o):Z=if (elook d p0 l1 c0).2≠0 then ([],(elook d p0 l1 c0).2) else spL (elkF d l1) r (o++ [⟨c2,zjv (elook d p0 l1 c0).1⟩]):=by rw [h,spL];rfl
def zpB (x:Img) (l1 a n:Int) (hp:ImgF x∧0≤x.geom.guest):AC 199 [imgA x,.d (.int .i64 l1),.d (.int .i64 a),.d (.int .i64 n)] (.tup [.d (.sl 2 ((zcy x l1 a n).1.map extD)),.d (.int .i64 (zcy x l1 a n).2)]):=by
 obtain ⟨h,h0⟩:=hp
 refine fbod func199 ntmps199 (fun base=>?_)
 have hgu:=h.guest
 have hdf:=h.disk
 have hdp:DP x.disk p0:=⟨h.disk,zch⟩
 refine' GC
 ·rw [aa hr] at hZ
  have hdec:(decide (n<1)|| !inB x.geom.guest a n)=true:=jX
  refine' walkW hdec (za zU <| za zaj <| za zW <| za zdE <| za zaR <| zb _)
  rw [hZ]
  rfl
 ·rw [U hr] at hZ
  have hdec:(decide (n<1)|| !inB x.geom.guest a n)=false:=jX
  refine' EG
  have hll:l.length≤65536:=mF
  have hrg:∀q∈l,1≤q.2.2∧q.2.2≤128:=tG
  rw [← hl] at hZ
  refine' walkW (zg hdec hl.symm) (za zU <| za zaj <| za zW <| za zdE <| za zaR <| zb _)
  refine zaI 10 2 rfl ?_
  refine' Ev
  refine zk (fun q: { q:Nat×List Ext // q.1≤l.length∧q.2.length=q.1∧(∀y∈q.2,1≤y.len∧y.len≤128)∧Z=spL (elkF x.disk l1) (l.drop q.1) q.2 } =>⟨[(1,true,.d (.int .i64 l1)),(4,true,.vp 0 0),(10,true,.osl 1 2 q.1.2.length 0 q.1.2.length),(11,true,.d (.sl 3 (l.map cutD))),(12,true,.d (.int .i64 q.1.1))],[(1,.arr 2 (q.1.2.map extD)),(0,.var (imgV x))],some []⟩) (fun q=>l.length - q.1.1) ⟨(0,[]),ad _,rfl,fZ,hZ⟩ le1 (fun q=>?_)
  obtain ⟨⟨i,o⟩,hi,hol,ho,hf⟩:=q
  simp only at hi hol ho hf ⊢
  rcases zw cutD l i hi with ⟨⟨c0,c1,c2⟩,hq,hlt,hcmp,hrow,hdr,htk⟩|⟨hend,hcmp⟩
  ·simp only [cutD] at hrow
   refine' CO
   have hcr:=hrg _ (ay hq)
   rw [hdr] at hf
   have hf:=zDe hf
   simp only at hcr
   obtain ⟨C,hC⟩:∃C,C=elook x.disk p0 l1 c0:=⟨_,rfl⟩
   rw [← hC] at hf
   cases he:(C.2 !=0) with
   |true=>
    rw [aa gp] at hf
    refine' HZ
    rw [hf]
    rfl
   | false=>
    rw [U gp] at hf
    refine' HZ
    all_goals first|omega|skip
    exact ⟨⟨(i+1,o++ [⟨c2,zjv C.1⟩]),fT,by simp [hol],fun y hy=>by
     rcases aS.1 hy with hy|hy
     ·exact ho y hy
     ·rw [bp] at hy
      subst hy
      simp only
      omega,hf⟩,uN,gh⟩
  ·rw [hend,aP,spL] at hf
   refine' H8
   refine' walkW hcmp (za zU <| za zaj <| za zW <| za zdE <| za zaR <| zb _)
   all_goals first|omega|exact ho|skip
   rw [hf]
@[go_sem] def zcl:Ent Tryz.prog 199:= .m4 za9 (intT .i64) (intT .i64) (intT .i64) zpB
def zrH (k:Int) (ch:Bool) (_:True):AC 194 [.d (.int .i64 k),.d (.bool ch)] (.d (.int .i64 (zcS k ch))):=by
 refine fbod func194 ntmps194 (λbase=>?_);obtain ⟨Z,J⟩:∃Z,Z=zcS k ch:=⟨_,rfl⟩
 rw [<-J];unfold zcS at J;by_cases h:k=0\/k=1\/k=4\/k=6\/k=3\/k=2\/k=7
 .rcases h with rfl|rfl|rfl|rfl|rfl|rfl|rfl
  .cases ch with
   |true=>
    refine' Ds;rw [J];rfl
   |false=>
    refine' Ds;rw [J];rfl
  all_goals
   refine' Ds;rw [J];rfl
 .have e0:(k==0)=false:=by rw [bb];omega
  have e1:(k==1)=false:=iN;have e4:(k==4)=false:=iN;have e6:(k==6)=false:=iN;have e3:(k==3)=false:=iN;have e2:(k==2)=false:=iN;have e7:(k==7)=false:=iN;rw [U fT,U fT,U fT,U fT,U fT] at J;refine' zc (zr e0 e1 e4 e6 e3 (zg e2 e7));rw [J]
@[go_sem] def zam:Ent Tryz.prog 194:= .m2 (intT .i64) boolT zrH
def zpC (x:Img) (hp:ImgOk x/\0<=x.geom.guest/\x.geom.guest<=1000000/\x.maps.length<=1000000):AC 59 [imgA x] (.agg [.d (.int .u64 (128*x.geom.guest)),.d (.sl 1 ((x.maps.map (λm=>m.name)).map strD))]):=by
 obtain ⟨h,h0,h1,hm⟩:=hp;refine fbod func59 ntmps59 (λbase=>?_);have hw:IntKind.u64.wrap (128*x.geom.guest)=128*x.geom.guest:=zA fT fT;refine' walkW hw (za zpA <| zb _);refine zeX 2 1 1 (cs:= [.d (.int .u64 (128*x.geom.guest)),.nils 1]) rfl rfl ?_;refine' Cl;refine zk (λq: { i:Nat // i<=x.maps.length } =>⟨[(1,true,.vp 0 0),(2,true,.vp 1 0),(3,true,.vp 2 0),(4,true,.d (.int .i64 q.1))],[(3,.arr 1 (((x.maps.take q.1).map (λm=>m.name)).map strD)),(2,.var [.d (.int .u64 (128*x.geom.guest)),.osl 3 1 q.1 0 q.1]),(1,.var [.d (.int .u64 0),.nils 1]),(0,.var (imgV x))],some []⟩) (λq=>x.maps.length - q.1) ⟨0,ad _⟩ le1 (λq=>?_);refine' Dl;have iv:(((x.maps.take i).map (λm=>m.name)).map strD).length=i:=gh;rcases zw dmapD x.maps i hi with ⟨m,hq,an,J,ab,b4,a7⟩|⟨ao,J⟩
 .simp only [dmapD] at ab;refine' CO;refine' zc (zp J ab iv);all_goals first|omega|skip
  exact ⟨⟨i+1,fT⟩,yH,gh⟩
 .refine' zc (zg J iv);rw [ao,aL,aA fZ]
@[go_sem] def zcm:Ent Tryz.prog 59:= .m1 za9 zpC
def zpD (k:Int) (_:True):AC 114 [.d (.int .i64 k)] (.d (.bool (isPc k))):=by refine fbod func114 ntmps114 (λbase=>?_);refine' Ds;rfl
@[go_sem] def zhD:Ent Tryz.prog 114:= .m1 (intT .i64) zpD
def ztC {q:Rq} (h:(isPc q.kind&&decide (q.frm<1073741824))=true):tnew q=⟨q,cutsL q.frm q.len,0,0,[],[],false⟩:=by rw [aq,ax] at h;rw [tnew,aa h]
def znB {q:Rq} (h:(isPc q.kind&&decide (q.frm<1073741824))=false):tnew q=⟨q,[],0,0,[],[],false⟩:=by rw [<-cb,aq,ax] at h;rw [tnew,U h]
def zyp (q:Rq) (h:RqOk q):AC 53 [rqA q] (tskA (tnew q)):=by
 refine fbod func53 ntmps53 (λbase=>?_);refine' HR;cases J:(isPc q.kind&&decide (q.frm<1073741824)) with
 |true=>
  have b3:q.frm<1073741824:=by simp only [aq,ax] at J;exact J.2
  refine' Io;refine' walkW (zp J ab a6) (za zhD <| za zaj <| zb _);rw [ztC J];rfl
 |false=>
  refine' walkW J (za zhD <| za zaj <| zb _);rw [znB J];rfl
@[go_sem] def ze7:Ent Tryz.prog 53:= .m1 rqA_T zyp
def zA5 (q:Rq):(tnew q).cuts.length<=65536:=by
 unfold tnew;simp only;split
 .exact zc6 _ _
 .exact ad _
def zpE (t:Tsk) (e:Int) (_:True):AC 124 [tskA t,.d (.int .i64 e)] (tskA (tfail t e)):=by
 refine fbod func124 ntmps124 (λbase=>?_);refine' Ds
 .rw [tfail,aa (beqP hc)];rfl
 .rw [tfail,U (beqN hc)];rfl
@[go_sem] def z6:Ent Tryz.prog 124:= .m2 zii (intT .i64) zpE
end
end Go.Aw
