/- Lemmas. -/
import Derived.Test.YtgldbfelccddbaaGreatApa23
set_option linter.all false
set_option maxRecDepth 100000
set_option maxHeartbeats 2000000
namespace Go.Aw
noncomputable section
open Go Go.Proofs Go.Proofs.Tryz
def zAI (x:Img) (guest:Int) (k4:Bool) (hp:ImgF x/\x.maps.length<=5000):AC 254 [imgA x,.d (.int .i64 guest),.d (.bool k4)] (.tup [imgA (wipe x guest k4).1,.d (.int .i64 (wipe x guest k4).2)]):=by
 obtain ⟨h,hm⟩:=hp;refine fbod func254 ntmps254 (λbase=>?_);refine' Il;refine' El;obtain ⟨k,hk⟩:∃k:Int,k=if k4 then 0 else 2:=⟨_,rfl⟩
 rw [<-hk] at iC;refine' GM;obtain ⟨P,hP⟩:∃P,P=ppoint X.disk p0 X.geom guest ⟨k,0⟩:=⟨_,rfl⟩
 refine' EC
 .refine' HT;refine' walkW (zg J hZ.symm) (za zb0 <| za zq <| za zN <| za zag <| za zO <| zb _)
  .rw [iC,aa hc]
  .rw [iC,U kU]
 have J:(decide (guest<0)||decide (x.geom.guest<=guest))=false:=jX;rw [U hr] at iC;refine' zfh (zL 5) (zg J hZ.symm) (za zb0 <| za zq <| za zN <| za zag <| za zO <| zb _)
 .rw [iC,aa hc]
 rw [U kU] at iC;clear hc;cases k4 with
 |true=>
  have gk:k=0:=hk;refine' Gb;all_goals first|omega|skip
  all_goals rw [iC]
  all_goals (refine (show (_:AV)=_ from ?_));(repeat (first|(rewrite [aa];rotate_left;(first|exact bneP gr|exact beqP gr|exact bd gr|assumption))|(rewrite [U];rotate_left;(first|exact bneN gr|exact beqN gr|exact aQ gr|assumption))))
  all_goals rfl
 |false=>
  have gk:k=2:=hk;refine' Gb;all_goals first|omega|skip
  all_goals rw [iC]
  all_goals (refine (show (_:AV)=_ from ?_));(repeat (first|(rewrite [aa];rotate_left;(first|exact bneP gr|exact beqP gr|exact bd gr|assumption))|(rewrite [U];rotate_left;(first|exact bneN gr|exact beqN gr|exact aQ gr|assumption))))
  all_goals rfl
@[go_sem] def zcL:Ent Tryz.prog 254:= .m3 za9 (intT .i64) boolT zAI
def zC4 (n:Nat):∀a,∀q∈cuts a n,q.2.2<=128:=by
 induction n using Nat.strongRecOn with
 | _ n ih=>
  intro a q J;rcases cy n with rfl|h
  .simp [zgU] at J
  .rw [zgf a n h,bg] at J;rcases J with rfl|J
   .simp only;omega
   .exact ih _ fT _ q J
def zhn (a n:Int):∀q∈cutsL a n,q.2.2<=128:=by
 unfold cutsL;split
 .intro q J;cases J
 .exact zC4 _ _
def zc6 (a n:Int):(cutsL a n).length<=65536:=by
 unfold cutsL;split
 .exact ad _
 .have:=znl n.toNat a.toNat;omega
def zco (hole:Bool) (q:Nat×Nat×Nat) (x:Img):Img×Int:=if q.2.2=128 then wipe x q.1 hole else zbX x q.1 q.2.1 (List.replicate q.2.2 0)
def IF.clear1 {x:Img} (h:ImgF x) (hole:Bool) (q:Nat×Nat×Nat):IF x (zco hole q x).1:=by
 unfold zco;split
 .exact IF.wipe h _ _
 .exact IF.write h _ _ _
def ImgF.wipe {x:Img} (h:ImgF x) (g:Int) (hole:Bool):ImgF (wipe x g hole).1:=by
 have hm:=h.mark g;unfold Aw.wipe;split
 .exact h
 split
 .exact h
 obtain ⟨J,tx⟩:∃J:Int,J=if hole then 0 else 2:=⟨_,rfl⟩
 rw [<-tx];unfold wipe2;repeat (split;exact hm)
 exact hm.done _
def ImgF.clear1 {x:Img} (h:ImgF x) (hole:Bool) (q:Nat×Nat×Nat):ImgF (zco hole q x).1:=by
 unfold zco;split
 .exact h.wipe _ _
 .exact h.write _ _ _
def zte:∀a b,cutD a=cutD b->a=b:=by rintro ⟨a,b,c⟩ ⟨a',b',c'⟩ h;simp only [cutD,aX,D.int.injEq,bt,bW] at h;obtain ⟨h1,h2,J⟩:=h;obtain rfl:a=a':=fT;obtain rfl:b=b':=fT;obtain rfl:c=c':=fT;rfl
def u32D (n:Int):List D:= [.int .u32 n]
def zjS:∀a b,u32D a=u32D b->a=b:=by intro a b h;simpa only [u32D,aX,D.int.injEq,bt,bW] using h
structure Ext where
 len:Int
 flags:Int
 deriving DecidableEq
def extD (e:Ext):List D:= [.int .i64 e.len,.int .i64 e.flags]
def zeG:∀a b,extD a=extD b->a=b:=by rintro ⟨a,b⟩ ⟨J,b'⟩ h;simp only [extD,aX,D.int.injEq,bt,bW] at h;rw [h.1,h.2]
structure Spn where
 ctx:Int
 list:List Ext
 deriving DecidableEq
def spnD (s:Spn):List D:= [.int .u32 s.ctx,.sl 2 (s.list.map extD)]
def ztf:∀a b,spnD a=spnD b->a=b:=by rintro ⟨a,b⟩ ⟨J,b'⟩ h;simp only [spnD,aX,D.int.injEq,D.sl.injEq,bt,bW] at h;rw [h.1,(zkf zeG).mp h.2]
structure Rq where
 flags:Int
 kind:Int
 cookie:Int
 frm:Int
 len:Int
 data:Txt
 deriving DecidableEq
def rqA (q:Rq):AV:= .agg [.d (.int .i64 q.flags),.d (.int .i64 q.kind),.d (.int .u64 q.cookie),.d (.int .u64 q.frm),.d (.int .u32 q.len),.d (.str q.data)]
attribute [go_sem] rqA
def zD6 (q:Rq):Rq.mk q.flags q.kind q.cookie q.frm q.len q.data=q:=rfl
def rqA_T:PT Rq:=aggT (consL (intT .i64) (consL (intT .i64) (consL (intT .u64) (consL (intT .u64) (consL (intT .u32) (consL strT nilL)))))) (λp=>⟨p.1,p.2.1,p.2.2.1,p.2.2.2.1,p.2.2.2.2.1,p.2.2.2.2.2.1⟩) (λx=>(x.flags,x.kind,x.cookie,x.frm,x.len,x.data,())) (λ_=>rfl)
attribute [go_sem] rqA_T
attribute [go_sem] zD6
structure Tsk where
 q:Rq
 cuts:List (Nat×Nat×Nat)
 loc:Int
 err:Int
 data:Txt
 spans:List Spn
 done:Bool
 deriving DecidableEq
def tskA (t:Tsk):AV:= .agg [.d (.int .i64 t.q.flags),.d (.int .i64 t.q.kind),.d (.int .u64 t.q.cookie),.d (.int .u64 t.q.frm),.d (.int .u32 t.q.len),.d (.str t.q.data),.d (.sl 3 (t.cuts.map cutD)),.d (.int .i64 t.loc),.d (.int .u32 t.err),.d (.str t.data),.d (.sl 2 (t.spans.map spnD)),.d (.bool t.done)]
attribute [go_sem] tskA
def zC5 (t:Tsk):Tsk.mk t.q t.cuts t.loc t.err t.data t.spans t.done=t:=rfl
def zii:PT Tsk:=aggT (consL (intT .i64) (consL (intT .i64) (consL (intT .u64) (consL (intT .u64) (consL (intT .u32) (consL strT (consL (slT 3 cutD zte) (consL (intT .i64) (consL (intT .u32) (consL strT (consL (slT 2 spnD ztf) (consL boolT nilL)))))))))))) (λp=>⟨⟨p.1,p.2.1,p.2.2.1,p.2.2.2.1,p.2.2.2.2.1,p.2.2.2.2.2.1⟩,p.2.2.2.2.2.2.1,p.2.2.2.2.2.2.2.1,p.2.2.2.2.2.2.2.2.1,p.2.2.2.2.2.2.2.2.2.1,p.2.2.2.2.2.2.2.2.2.2.1,p.2.2.2.2.2.2.2.2.2.2.2.1⟩) (λx=>(x.q.flags,x.q.kind,x.q.cookie,x.q.frm,x.q.len,x.q.data,x.cuts,x.loc,x.err,x.data,x.spans,x.done,())) (λ_=>rfl)
attribute [go_sem] zii
attribute [go_sem] zC5
def inB (g a n:Int):Bool:=decide (0<=a)&&decide (0<=n)&&decide (n<=128*g)&&decide (a<=128*g - n)
def inB_iff {g a n:Int} :inB g a n=true↔0<=a/\0<=n/\n<=128*g/\a<=128*g - n:=by unfold inB;simp only [aq,ax,and_assoc]
def zgy (d:Disk) (l1:Int):List (Nat×Nat×Nat)->Txt->Txt×Int
 | [],s=>(s,0)
 |q::r,s=>if (cread d l1 q.1).2≠0 then ([],(cread d l1 q.1).2) else zgy d l1 r (s++((cread d l1 q.1).1.take (q.2.1+q.2.2)).drop q.2.1)
def iread (x:Img) (a n:Int):Txt×Int:=
 if inB x.geom.guest a n=false then ([],10) else if (zF x.disk p0).2≠0 then ([],(zF x.disk p0).2) else zgy x.disk (zF x.disk p0).1.l1 (cutsL a n) []
def zew (x:Img):Img×Int:=
 if x.broken then (x,24) else ({ x with disk:=(dflush x.disk).1,broken:=(dflush x.disk).2 !=0 },(dflush x.disk).2)
def jst (o:List Ext) (x:Ext):List Ext:=match o.getLast? with
 |some y=>if y.flags=x.flags then o.dropLast++ [⟨y.len+x.len,x.flags⟩] else o++ [x]
 |none=> [x]
def ejoin (l:List Ext):List Ext:=l.foldl jst []
def zjv (y:Ent2):Int:=if y.kind=1 then 0 else if y.kind=2 then 2 else 3
def spL (f:Int->Int×Int):List (Nat×Nat×Nat)->List Ext->List Ext×Int
 | [],l=>(ejoin l,0)
 |q::r,l=>if (f q.1).2≠0 then ([],(f q.1).2) else spL f r (l++ [⟨q.2.2,(f q.1).1⟩])
def elkF (d:Disk) (l1:Int) (g:Int):Int×Int:=(zjv (elook d p0 l1 g).1,(elook d p0 l1 g).2)
def bitF (m:Dmap) (g:Int):Int×Int:=(if m.bits.getD g.toNat false then 1 else 0,0)
def zcy (x:Img) (l1 a n:Int):List Ext×Int:=
 if n<1\/inB x.geom.guest a n=false then ([],10) else spL (elkF x.disk l1) (cutsL a n) []
def zdD (x:Img) (name:Txt) (a n:Int):List Ext×Int:=
 if n<1\/inB x.geom.guest a n=false then ([],10) else match x.maps.find? λm=>m.name==name with
  |none=>([],21)
  |some m=>spL (bitF m) (cutsL a n) []
def hasF (f k:Int):Bool:=ibits .and .i64 f k !=0
def isPc (k:Int):Bool:=k==0||k==1||k==4||k==6
def tnew (q:Rq):Tsk:=⟨q,if isPc q.kind/\q.frm<1073741824 then cutsL q.frm q.len else [],0,0,[],[],false⟩
def tfail (t:Tsk) (e:Int):Tsk:= { t with done:=true,data:= [],spans:= [],err:=if e=17 then 28 else 5 }
def tpc (x:Img) (q:Rq) (c:Nat×Nat×Nat):Img×Txt×Int:=
 if q.kind=0 then (x,iread x (c.1*128+c.2.1) c.2.2)
 else if q.kind=1 then ((zbX x c.1 c.2.1 ((q.data.take (c.1*128+c.2.1 - q.frm+c.2.2).toNat).drop (c.1*128+c.2.1 - q.frm).toNat)).1,[],(zbX x c.1 c.2.1 ((q.data.take (c.1*128+c.2.1 - q.frm+c.2.2).toNat).drop (c.1*128+c.2.1 - q.frm).toNat)).2)
 else ((zco (q.kind==4|| !hasF q.flags 2) c x).1,[],(zco (q.kind==4|| !hasF q.flags 2) c x).2)
def tctx0 (x:Img) (q:Rq) (k:Int):List Ext×Int:=
 if k=1 then (if (zF x.disk p0).2≠0 then ([],(zF x.disk p0).2) else zcy x (zF x.disk p0).1.l1 q.frm q.len)
 else match (if k<2 then none else x.maps[(k - 2).toNat]?) with
  |none=>([],21)
  |some m=>zdD x m.name q.frm q.len
def tcut1 (q:Rq) (s:List Ext×Int):List Ext×Int:=if s.2=0/\hasF q.flags 8 then (s.1.take 1,0) else s
def tctx (x:Img) (q:Rq) (k:Int):List Ext×Int:=tcut1 q (tctx0 x q k)
def tctxL (x:Img) (q:Rq):List Int->List Spn->List Spn×Int
 | [],l=>(l,0)
 |k::r,l=>if (tctx x q k).2≠0 then ([],(tctx x q k).2) else tctxL x q r (l++ [⟨k,(tctx x q k).1⟩])
def tlast (x:Img) (q:Rq) (ms:List Int):Img×List Spn×Int:=
 if q.kind=7 then (x,tctxL x q ms []) else if q.kind=3\/hasF q.flags 1 then ((zew x).1,[],(zew x).2) else (x,[],0)
def tstep (x:Img) (t:Tsk) (ms:List Int):Img×Tsk:=
 if t.done then (x,t)
 else match t.cuts[t.loc.toNat]? with
  |some c=>((tpc x t.q c).1,if (tpc x t.q c).2.2≠0 then tfail { t with loc:=t.loc+1 } (tpc x t.q c).2.2 else { t with loc:=t.loc+1,data:=t.data++(tpc x t.q c).2.1,done:=(t.loc+1==(t.cuts.length:Int))&& !hasF t.q.flags 1 })
  |none=>((tlast x t.q ms).1,if (tlast x t.q ms).2.2≠0 then tfail t (tlast x t.q ms).2.2 else { t with spans:=(tlast x t.q ms).2.1,done:=true })
def ztg:Txt:= [103,68,102,152]
def zgg:Txt:= [102,142,51,239]
def zcW (err cookie:Int) (data:Txt):Txt×Int:=if 4096<(data.length:Int)\/err≠0/\data≠ [] then ([],11) else (ztg++putN err.toNat 4++putN cookie.toNat 8++data,0)
def zbx (done:Bool) (kind cookie:Int) (data:Txt):Txt×Int:=
 if kind<0\/65535<kind then ([],25) else if 4128<(data.length:Int) then ([],11) else (zgg++putN (if done then 1 else 0) 2++putN kind.toNat 2++putN cookie.toNat 8++putN data.length 4++data,0)
def rdata (frm:Int) (s:Txt):Txt:=putN frm.toNat 8++s
def rfail (e:Int):Txt:=putN e.toNat 4++ [0,0]
def extOk (e:Ext):Bool:=decide (1<=e.len)&&decide (e.len<=4294967295)&&decide (0<=e.flags)&&decide (e.flags<=4294967295)
def rrows:List Ext->Txt->Txt×Int
 | [],s=>(s,0)
 |e::r,s=>if extOk e then rrows r (s++putN e.len.toNat 4++putN e.flags.toNat 4) else ([],25)
def zdg (ctx:Int) (l:List Ext):Txt×Int:=if l.length=0\/500<l.length then ([],16) else rrows l (putN ctx.toNat 4)
def zcX (q:Rq) (e:Int) (chunks:Bool):Txt:=
 if e=0 then [] else if chunks then (zbx true 32769 q.cookie (rfail e)).1 else (zcW e q.cookie []).1
def zhB (q:Rq):List Spn->Txt->Txt
 | [],s=>s
 |p::r,s=>zhB q r (s++(zbx r.isEmpty 5 q.cookie (zdg p.ctx p.list).1).1)
def zgV (t:Tsk) (chunks:Bool):Txt:=
 if t.done=false then [] else if t.err≠0 then zcX t.q t.err chunks
 else if chunks=false then (zcW 0 t.q.cookie t.data).1
 else if t.q.kind=0 then (zbx true 1 t.q.cookie (rdata t.q.frm t.data)).1
 else if t.q.kind=7 then zhB t.q t.spans []
 else (zbx true 0 t.q.cookie []).1
def zcS (kind:Int) (chunks:Bool):Int:=if kind=0 then (if chunks then 4 else 0) else if kind=1\/kind=4 then 1 else if kind=6 then 3 else if kind=3\/kind=2 then 0 else if kind=7 then 8 else -1
def cbad1 (f may:Int) (i:Nat):Bool:=(ibits .and .i64 (ishr .i64 f i) 1==1)&&(ibits .and .i64 (ishr .i64 may i) 1==0)
def cbadL (f may:Int):Nat->Nat->Bool
 |_,0=>false
 |i,n+1=>cbad1 f may i||cbadL f may (i+1) n
def cbad (f may:Int):Bool:=cbadL f may 0 16
def zl4 (q:Rq) (size:Int) (ms:List Int):Int:=
 if zcS q.kind true<0 then 22 else if cbad q.flags (zcS q.kind true)=true then 22 else if q.kind=2 then 0
 else if q.kind=3 then (if q.frm≠0\/q.len≠0 then 22 else 0)
 else if q.len=0 then 22 else if 1024<q.len then 75
 else if size<q.frm\/size - q.frm<q.len then (if q.kind=1 then 28 else 22)
 else if q.kind=7/\ms.length=0 then 22 else 0
structure RqOk (q:Rq):Prop where
 c0:0<=q.cookie
 c1:q.cookie<18446744073709551616
 f0:0<=q.frm
 f1:q.frm<18446744073709551616
 l0:0<=q.len
 l1:q.len<4294967296
 d:q.data.length<=9223372036854775807
structure RqF (x:Img) (q:Rq) (ms:List Int):Prop where
 ok:RqOk q
 img:ImgF x
 fit:ifit x=true
 maps:x.maps.length<=2
 g0:1<=x.geom.guest
 g1:x.geom.guest<=64
 kind:q.kind=0\/q.kind=1\/q.kind=3\/q.kind=4\/q.kind=6\/q.kind=7
 len:q.len<=1024
 rng:q.frm+q.len<=128*x.geom.guest
 data:q.kind=1->(q.data.length:Int)=q.len
 one:q.kind≠3->1<=q.len
 lms:ms.length<=3
 mr:∀m∈ms,1<=m/\m<=3
 m0:q.kind=7->ms≠ []
def zkN {q:Rq} {size:Int} {ms:List Int} (h:zl4 q size ms=0) (hk:q.kind≠2):(q.kind=3/\q.frm=0/\q.len=0)\/((q.kind=0\/q.kind=1\/q.kind=4\/q.kind=6\/q.kind=7)/\q.len≠0/\q.len<=1024/\q.frm<=size/\q.len<=size - q.frm/\(q.kind=7->ms≠ [])):=by
 unfold zl4 at h;split at h
 .cases h
 rename_i h1;split at h
 .cases h
 split at h
 .rename_i h2;split at h
  .cases h
  .rename_i J;exact .inl ⟨h2,fT,fT⟩
 rename_i h2;split at h
 .cases h
 rename_i J;split at h
 .cases h
 rename_i h4;split at h
 .split at h<;>cases h
 rename_i h5;split at h
 .cases h
 rename_i h6;refine .inr ⟨?_,J,fT,fT,fT,λh7 hm=>h6 ⟨h7,by rw [hm];rfl⟩⟩;unfold zcS at h1;by_cases k0:q.kind=0
 .exact .inl k0
 by_cases k1:q.kind=1
 .exact .inr (.inl k1)
 by_cases k4:q.kind=4
 .exact .inr (.inr (.inl k4))
 by_cases k6:q.kind=6
 .exact .inr (.inr (.inr (.inl k6)))
 by_cases k7:q.kind=7
 .exact .inr (.inr (.inr (.inr k7)))
 rw [U k0,U fT,U k6,U fT,U k7] at h1;exact absurd gb h1
def RqF.step {x:Img} {q:Rq} {ms:List Int} (h:RqF x q ms) {y:Img} (J:ImgF y) (hi:IF x y):RqF y q ms:=
 ⟨h.ok,J,hi.fit J h.fit,by rw [hi.len];exact h.maps,by rw [hi.geom];exact h.g0,by rw [hi.geom];exact h.g1,h.kind,h.len,by rw [hi.geom];exact h.rng,h.data,h.one,h.lms,h.mr,h.m0⟩
structure Ng where
 phase:Int
 buf:Txt
 brief:Bool
 chunks:Bool
 metas:List Int
 deriving DecidableEq
def ngA (n:Ng):AV:= .agg [.d (.int .i64 n.phase),.d (.str n.buf),.d (.bool n.brief),.d (.bool n.chunks),.d (.sl 1 (n.metas.map u32D))]
attribute [go_sem] ngA
def zD7 (n:Ng):Ng.mk n.phase n.buf n.brief n.chunks n.metas=n:=rfl
def ngA_T:PT Ng:=aggT (consL (intT .i64) (consL strT (consL boolT (consL boolT (consL (slT 1 u32D zjS) nilL))))) (λp=>⟨p.1,p.2.1,p.2.2.1,p.2.2.2.1,p.2.2.2.2.1⟩) (λx=>(x.phase,x.buf,x.brief,x.chunks,x.metas,())) (λ_=>rfl)
attribute [go_sem] ngA_T
attribute [go_sem] zD7
structure Xp where
 size:Int
 names:List Txt
 deriving DecidableEq
def xpA (x:Xp):AV:= .agg [.d (.int .u64 x.size),.d (.sl 1 (x.names.map strD))]
attribute [go_sem] xpA
def zD8 (x:Xp):Xp.mk x.size x.names=x:=rfl
def xpA_T:PT Xp:=aggT (consL (intT .u64) (consL (slT 1 strD zd7) nilL)) (λp=>⟨p.1,p.2.1⟩) (λx=>(x.size,x.names,())) (λ_=>rfl)
attribute [go_sem] xpA_T
attribute [go_sem] zD8
def tskD (t:Tsk):List D:= [.int .i64 t.q.flags,.int .i64 t.q.kind,.int .u64 t.q.cookie,.int .u64 t.q.frm,.int .u32 t.q.len,.str t.q.data,.sl 3 (t.cuts.map cutD),.int .i64 t.loc,.int .u32 t.err,.str t.data,.sl 2 (t.spans.map spnD),.bool t.done]
def zAM:∀a b,tskD a=tskD b->a=b:=by rintro ⟨⟨a1,a2,a3,a4,a5,a6⟩,a7,a8,a9,B6,B7,a12⟩ ⟨⟨b1,b2,b3,b4,b5,b6⟩,b7,b8,b9,vS,B8,B9⟩ h;simp only [tskD,aX,D.int.injEq,D.str.injEq,D.bool.injEq,D.sl.injEq,bt,bW] at h;obtain ⟨rfl,rfl,rfl,rfl,rfl,rfl,J,rfl,rfl,rfl,tH,rfl⟩:=h;rw [(zkf zte).mp J,(zkf ztf).mp tH]
structure Cn where
 n:Ng
 tasks:List Tsk
 out:Txt
 gone:Bool
 deriving DecidableEq
def cnD (c:Cn):List D:= [.int .i64 c.n.phase,.str c.n.buf,.bool c.n.brief,.bool c.n.chunks,.sl 1 (c.n.metas.map u32D),.sl 12 (c.tasks.map tskD),.str c.out,.bool c.gone]
def zrp:∀a b,cnD a=cnD b->a=b:=by rintro ⟨⟨a1,a2,a3,a4,a5⟩,a6,a7,a8⟩ ⟨⟨b1,b2,b3,b4,b5⟩,b6,b7,b8⟩ h;simp only [cnD,aX,D.int.injEq,D.str.injEq,D.bool.injEq,D.sl.injEq,bt,bW] at h;obtain ⟨rfl,rfl,rfl,rfl,J,h6,rfl,rfl⟩:=h;rw [(zkf zjS).mp J,(zkf zAM).mp h6]
structure Srv where
 x:Img
 conns:List Cn
def srvA (v:Srv):AV:= .agg [.d (.str v.x.disk.data),.d (.sl 2 (v.x.disk.cache.map putD)),.d (.int .i64 v.x.disk.fuse),.d (.bool v.x.disk.off),.d (.sl 1 (v.x.disk.bad.map intD)),.d (.int .i64 v.x.geom.guest),.d (.int .i64 v.x.geom.host),.d (.int .u64 v.x.jour.seq),.d (.int .i64 v.x.jour.pos),.d (.sl 66 (v.x.maps.map dmapD)),.d (.bool v.x.broken),.d (.sl 8 (v.conns.map cnD))]
attribute [go_sem] srvA
def zC6 (v:Srv):Srv.mk v.x v.conns=v:=rfl
def zjw:PT Srv:=aggT (consL strT (consL (slT 2 putD zib) (consL (intT .i64) (consL boolT (consL (slT 1 intD zdu) (consL (intT .i64) (consL (intT .i64) (consL (intT .u64) (consL (intT .i64) (consL (slT 66 dmapD zfM) (consL boolT (consL (slT 8 cnD zrp) nilL)))))))))))) (λp=>⟨⟨⟨p.1,p.2.1,p.2.2.1,p.2.2.2.1,p.2.2.2.2.1⟩,⟨p.2.2.2.2.2.1,p.2.2.2.2.2.2.1⟩,⟨p.2.2.2.2.2.2.2.1,p.2.2.2.2.2.2.2.2.1⟩,p.2.2.2.2.2.2.2.2.2.1,p.2.2.2.2.2.2.2.2.2.2.1⟩,p.2.2.2.2.2.2.2.2.2.2.2.1⟩) (λx=>(x.x.disk.data,x.x.disk.cache,x.x.disk.fuse,x.x.disk.off,x.x.disk.bad,x.x.geom.guest,x.x.geom.host,x.x.jour.seq,x.x.jour.pos,x.x.maps,x.x.broken,x.conns,())) (λ_=>rfl)
attribute [go_sem] zjw
attribute [go_sem] zC6
def optHd:Txt:= [73,72,65,86,69,79,80,84]
def ansHd:Txt:= [0,3,232,137,4,85,101,169]
def zl5:Txt:= [78,66,68,77,65,71,73,67,73,72,65,86,69,79,80,84,0,3]
def zfP (s:Txt):Txt:=putS8 s.length 4++s
def sayS (opt kind:Int) (data:Txt):Txt:=if 4096<data.length then [] else ansHd++putS8 opt 4++putS8 kind 4++putS8 data.length 4++data
def numAt (s:Txt) (i k:Nat):Nat:=takeN ((s.drop i).take k)
def optRd (s:Txt):(Int×Txt)×Txt×Int:=
 if s.take 8≠optHd.take s.length then ((0,[]),[],14)
 else if s.length<16 then ((0,[]),[],22)
 else if 4096<numAt s 12 4 then ((0,[]),[],11)
 else if s.length<16+numAt s 12 4 then ((0,[]),[],22)
 else ((numAt s 8 4,(s.drop 16).take (numAt s 12 4)),s.drop (16+numAt s 12 4),0)
def toBeg (s:Txt):Txt×Txt×Int:=
 if s.length<4 then ([],[],22) else if s.length<4+numAt s 0 4 then ([],[],22) else ((s.drop 4).take (numAt s 0 4),s.drop (4+numAt s 0 4),0)
def zex:Nat->List Txt->Txt->Option (List Txt×Txt)
 |0,l,s=>some (l,s)
 |k+1,l,s=>if (toBeg s).2.2≠0 then none else zex k (l++ [(toBeg s).1]) (toBeg s).2.1
def zb2 (s:Txt):Txt×List Txt×Int:=
 if (toBeg s).2.2≠0\/(toBeg s).2.1.length<4\/1000<numAt (toBeg s).2.1 0 4 then ([],[],14)
 else match zex (numAt (toBeg s).2.1 0 4) [] ((toBeg s).2.1.drop 4) with
  |none=>([],[],14)
  |some (l,r)=>if r≠ [] then ([],[],14) else ((toBeg s).1,l,0)
def duos:Txt->List (UInt8×UInt8)
 |a::b::r=>(a,b)::duos r
 |_=> []
def duoN (p:UInt8×UInt8):Int:=((p.1.toNat*256+p.2.toNat:Nat):Int)
def zey (s:Txt):Txt×List Int×Int:=
 if (toBeg s).2.2≠0\/(takeS (toBeg s).2.1 2).2.2≠0\/((takeS (toBeg s).2.1 2).2.1.length:Int)≠2*(takeS (toBeg s).2.1 2).1 then ([],[],14)
 else ((toBeg s).1,(duos (takeS (toBeg s).2.1 2).2.1).map duoN,0)
def oursS (s:Txt):Bool:=s== []||s== [100,105,115,107]
def sizeS (n:Int):Txt:=putS8 n 8++ [0,5]
def baseC:Txt:= [98,97,115,101,58]
def qemuC:Txt:= [113,101,109,117,58]
def zD9:Txt:= [98,97,115,101,58,97,108,108,111,99,97,116,105,111,110]
def zl6:Txt:= [113,101,109,117,58,100,105,114,116,121,45,98,105,116,109,97,112,58]
def ctxs (names:List Txt):List Txt:=zD9::names.map (zl6++ ·)
def zjx (c:Txt) (all:Bool) (q:Txt):Bool:=q==c||all&&(q==baseC||q==qemuC)&&q.isPrefixOf c
def zez (c:Txt) (l:List Txt) (all:Bool):Bool:=(all&&l.isEmpty)||l.any (zjx c all)
def zaK (k:Int) (l:List Txt):Nat->List Txt->Txt->List Int->Txt×List Int
 |_,[],s,ids=>(s,ids)
 |i,c::r,s,ids=>if zez c l (k !=10) then zaK k l (i+1) r (s++sayS k 4 (putS8 ((i+1:Nat):Int) 4++c)) (ids++ [((i+1:Nat):Int)]) else zaK k l (i+1) r s ids
def zbE (n:Ng) (x:Xp) (k:Int) (d:Txt):Ng×Txt:=
 if (zb2 d).2.2≠0\/n.chunks=false then ({ n with metas:=if k=10 then [] else n.metas },sayS k 2147483651 [])
 else if 8<(zb2 d).2.1.length then ({ n with metas:=if k=10 then [] else n.metas },sayS k 2147483657 [])
 else if oursS (zb2 d).1=false then ({ n with metas:=if k=10 then [] else n.metas },sayS k 2147483654 [])
 else ({ n with metas:=if k=10 then (zaK k (zb2 d).2.1 0 (ctxs x.names) [] []).2 else n.metas },(zaK k (zb2 d).2.1 0 (ctxs x.names) [] []).1++sayS k 1 [])
def ngOpt (n:Ng) (x:Xp) (k:Int) (d:Txt):Ng×Txt:=
 if k=1 then (if oursS d=false then ({ n with phase:=3 },[]) else ({ n with phase:=2 },sizeS x.size++if n.brief then [] else List.replicate 124 0))
 else if k=2 then ({ n with phase:=3 },sayS k 1 [])
 else if k=3 then (if d≠ [] then (n,sayS k 2147483651 []) else (n,sayS k 2 (zfP [100,105,115,107])++sayS k 1 []))
 else if k=6\/k=7 then
  (if (zey d).2.2≠0 then (n,sayS k 2147483651 []) else if oursS (zey d).1=false then (n,sayS k 2147483654 [])
  else ({ n with phase:=if k=7 then 2 else n.phase },sayS k 3 ([0,0]++sizeS x.size)++sayS k 1 []))
 else if k=8 then (if d≠ [] then (n,sayS k 2147483651 []) else ({ n with chunks:=true },sayS k 1 []))
 else if k=9\/k=10 then zbE n x k d
 else (n,sayS k 2147483649 [])
def ngStep (n:Ng) (x:Xp):Ng×Txt×Bool:=
 if n.phase=0 then
  (if n.buf.length<4 then (n,[],false)
  else ({ n with buf:=n.buf.drop 4,phase:=if numAt n.buf 0 4=1\/numAt n.buf 0 4=3 then 1 else 3,brief:=numAt n.buf 0 4==3 },[],true))
 else if (optRd n.buf).2.2=22 then (n,[],false)
 else if (optRd n.buf).2.2≠0 then ({ n with phase:=3 },[],true)
 else ((ngOpt { n with buf:=(optRd n.buf).2.1 } x (optRd n.buf).1.1 (optRd n.buf).1.2).1,(ngOpt { n with buf:=(optRd n.buf).2.1 } x (optRd n.buf).1.1 (optRd n.buf).1.2).2,true)
def ngClr (n:Ng):Ng:=if n.phase=3 then { n with buf:= [] } else n
def zbd (x:Xp):Nat->Ng->Txt->Ng×Txt
 |0,n,out=>(ngClr n,out)
 |k+1,n,out=>if n.phase=0\/n.phase=1 then (if (ngStep n x).2.2 then zbd x k (ngStep n x).1 (out++(ngStep n x).2.1) else (n,out)) else (ngClr n,out)
def zba (n:Ng) (x:Xp) (s:Txt):Ng×Txt:=
 if n.phase=3 then (n,[]) else zbd x (n.buf.length+s.length+2) { n with buf:=n.buf++s } []
def reqHd:Txt:= [37,96,149,19]
def rq0:Rq:=⟨0,0,0,0,0,[]⟩
def reqQ (s:Txt) (d:Txt):Rq:=⟨numAt s 4 2,numAt s 6 2,numAt s 8 8,numAt s 16 8,numAt s 24 4,d⟩
def reqRd (s:Txt):Rq×Txt×Int:=
 if s.take 4≠reqHd.take s.length then (rq0,[],14)
 else if s.length<28 then (rq0,[],22)
 else if numAt s 6 2≠1 then (reqQ s [],s.drop 28,0)
 else if 4096<numAt s 24 4 then (rq0,[],11)
 else if s.length<28+numAt s 24 4 then (rq0,[],22)
 else (reqQ s ((s.drop 28).take (numAt s 24 4)),s.drop (28+numAt s 24 4),0)
def za2 (q:Rq) (size:Int) (ch:Bool) (ms:List Int):Int:=
 if zcS q.kind ch<0 then 22 else if cbad q.flags (zcS q.kind ch)=true then 22 else if q.kind=2 then 0
 else if q.kind=3 then (if q.frm≠0\/q.len≠0 then 22 else 0)
 else if q.len=0 then 22 else if 1024<q.len then 75
 else if size<q.frm\/size - q.frm<q.len then (if q.kind=1 then 28 else 22)
 else if q.kind=7/\(ch=false\/ms.length=0) then 22 else 0
def ze4 (c:Cn):Cn:= { c with gone:=true,tasks:= [],n:= { c.n with buf:= [] } }
def zcz (size:Int):Nat→Cn→Cn
 |0,c=>c
 | k+1,c=>
  if c.n.phase=2∧c.gone=false∧c.tasks.length<8 then
   (if (reqRd c.n.buf).2.2=22 then c
   else if (reqRd c.n.buf).2.2≠0∨(reqRd c.n.buf).1.kind=2∧za2 (reqRd c.n.buf).1 size c.n.chunks c.n.metas=0 then ze4 c
   else if za2 (reqRd c.n.buf).1 size c.n.chunks c.n.metas≠0 then
    zcz size k { c with n:= { c.n with buf:=(reqRd c.n.buf).2.1 },out:=c.out++zcX (reqRd c.n.buf).1 (za2 (reqRd c.n.buf).1 size c.n.chunks c.n.metas) c.n.chunks }
   else zcz size k { c with n:= { c.n with buf:=(reqRd c.n.buf).2.1 },tasks:=c.tasks++ [tnew (reqRd c.n.buf).1] })
  else c
def zbO (size:Int) (c:Cn):Cn:=zcz size (c.n.buf.length+1) c
def xpOf (x:Img):Xp:=⟨128*x.geom.guest,x.maps.map (λm=>m.name)⟩
def zfQ (c:Cn):Cn:=if c.n.phase=3 then ze4 c else c
def zph (x:Img) (c:Cn) (s:Txt):Cn:=
 zbO (128*x.geom.guest) (zfQ { c with n:=(zba c.n (xpOf x) s).1,out:=c.out++(zba c.n (xpOf x) s).2 })
def zfq (v:Srv) (c:Int) (s:Txt):Srv:=
 match (if c<0 then none else v.conns[c.toNat]?) with
 |none=>v
 |some o=>if o.gone then v else { v with conns:=v.conns.set c.toNat (zph v.x o s) }
def zij (x:Img) (c:Cn) (i:Nat) (t:Tsk):Cn:=
 if t.done then zbO (128*x.geom.guest) { c with tasks:=c.tasks.eraseIdx i,out:=c.out++zgV t c.n.chunks } else { c with tasks:=c.tasks.set i t }
def ze5 (v:Srv) (c:Int) (i:Int):Srv:=
 match (if c<0 then none else v.conns[c.toNat]?) with
 |none=>v
 |some o=>match (if i<0 then none else o.tasks[i.toNat]?) with
  |none=>v
  |some t=> { x:=(tstep v.x t o.n.metas).1,conns:=v.conns.set c.toNat (zij (tstep v.x t o.n.metas).1 o i.toNat (tstep v.x t o.n.metas).2) }
def zbY (v:Srv) (c:Int):Srv×Txt:=
 match (if c<0 then none else v.conns[c.toNat]?) with
 |none=>(v,[])
 |some o=>({ v with conns:=v.conns.set c.toNat { o with out:= [] } },o.out)
def zkO (v:Srv):Nat:=(v.conns.map λc=>c.tasks.length).sum
def cn0:Cn:=⟨⟨0,[],false,false,[]⟩,[],zl5,false⟩
def svNew (x:Img) (n:Int):Srv×Int:=if n<1\/4<n then (⟨⟨⟨[],[],0,false,[]⟩,⟨0,0⟩,⟨0,0⟩,[],false⟩,[]⟩,25) else (⟨x,List.replicate n.toNat cn0⟩,0)
structure Deed where
 kind:Int
 conn:Int
 loc:Int
 text:Txt
 deriving DecidableEq
def deedD (d:Deed):List D:= [.int .i64 d.kind,.int .i64 d.conn,.int .i64 d.loc,.str d.text]
def zkP:∀a b,deedD a=deedD b->a=b:=by rintro ⟨a1,a2,a3,a4⟩ ⟨b1,b2,J,b4⟩ h;simp only [deedD,aX,D.int.injEq,D.str.injEq,bt,bW] at h;obtain ⟨rfl,rfl,rfl,rfl⟩:=h;rfl
def svDo (v:Srv) (d:Deed):Srv×Txt:=if d.kind=0 then (zfq v d.conn d.text,[]) else if d.kind=1 then (ze5 v d.conn d.loc,[]) else zbY v d.conn
def ze6 (v:Srv) (l:List Deed):Srv:=l.foldl (λv d=>(svDo v d).1) v
def zbA (s:Txt) (i k:Nat):numAt s i k<256 ^ k:=zdw gh
def zyk (s:Txt) (i k:Nat) (hs:s.length<=9223372036854775807) (h:i+k<=s.length) (h1:1<=k) (h8:k<=8):ACall Tryz.prog 245 0 [.d (.str s),.d (.int .i64 i),.d (.int .i64 k)] [] (λr _=>r= .d (.int .u64 (numAt s i k))):=by
 have J:takeS (s.drop i) k=(((numAt s i k:Nat):Int),(s.drop i).drop k,0):=by rw [takeS,U fT,U gG];rfl
 refine fbod func245 ntmps245 (λbase=>?_);refine' walkW J (za zaN <| zb _);rw [ak];omega
def zvc (s:Txt) (i k:Int) (hp:s.length<=9223372036854775807/\0<=i/\i+k<=s.length/\1<=k/\k<=8):AC 245 [.d (.str s),.d (.int .i64 i),.d (.int .i64 k)] (.d (.int .u64 (numAt s i.toNat k.toNat))):=by obtain ⟨J,h0,h,h1,h8⟩:=hp;have:=zyk s i.toNat k.toNat J fT fT fT;rw [eY h0,eY fT] at this;exact this
@[go_sem] def zgZ:Ent Tryz.prog 245:= .m3 strT (intT .i64) (intT .i64) zvc
def zyl (s:Txt):s.take (min 4 s.length)=s.take 4:=by
 rcases dE 4 s.length with h|h
 .rw [ca h]
 .rw [dc h,aL,aA h]
def zA2 (s:Txt):reqHd.take (min 4 s.length)=reqHd.take s.length:=by
 rcases dE 4 s.length with h|h
 .rw [ca h,aA (l:=reqHd) h];rfl
 .rw [dc h]
def zvd (s:Txt) (hs:s.length<=9223372036854775807):AC 178 [.d (.str s)] (.tup [rqA (reqRd s).1,.d (.str (reqRd s).2.1),.d (.int .i64 (reqRd s).2.2)]):=by
 refine' Hg;have l6:imin (s.length:Int) 4=(n:Int):=jQ;have e1:s.take n=s.take 4:=by rw [hn,zyl]
 have e2:([37,96,149,19]:Txt).take n=reqHd.take s.length:=by rw [hn];exact zA2 s
 by_cases hh:s.take 4=reqHd.take s.length
 .have hc:(s.take 4 !=reqHd.take s.length)=false:=by simpa using hh
  rw [reqRd,U (λe=>e hh)] at J;by_cases qA:s.length<28
  .rw [aa qA] at J;have tI:decide ((s.length:Int)<28)=true:=af fT;refine fbod func178 ntmps178 (λbase=>?_);refine' walkW (zr l6 e1 e2 hc @natC tI) (za zgZ <| zb _);rw [J];rfl
  .rw [U qA] at J;have tI:decide ((s.length:Int)<28)=false:=ag fT
   have hw:∀i k:Nat,k<=4->IntKind.i64.wrap (numAt s i k:Int)=numAt s i k:=λi k hk=>by have h1:=zbA s i k;have h2:256 ^ k<=256 ^ 4:=eN gb hk;exact zf fT fT
   have ab:=hw 4 2 gb;have a6:=hw 6 2 gb;have gO:=hw 24 4 gb
   have gX:IntKind.u32.wrap (numAt s 24 4:Int)=numAt s 24 4:=by have:=zbA s 24 4;exact zbT fT fT
   obtain ⟨D,hD⟩:∃D,D=s.drop 28:=⟨_,rfl⟩
   have oO:D.length+28=s.length:=sG;obtain ⟨N,hN⟩:∃N,N=numAt s 24 4:=⟨_,rfl⟩
   refine fbod func178 ntmps178 (λbase=>?_);refine' walkW (zr l6 e1 e2 hc @natC (zr tI ab a6 gO gX hD.symm)) (za zgZ <| zb _)
   .have h6:numAt s 6 2≠1:=by have:=bne_iff_ne.mp hc;omega
    rw [J,aa h6,hD];rfl
   all_goals
    rename_i Ca
    have h6:¬numAt s 6 2≠1:=by have:=bne_eq_false_iff_eq.mp (by assumption:((numAt s 6 2:Int) !=1)=false);omega
    rw [U h6] at J
   .rw [J,aa kR];rfl
   .refine' ER;rw [J,U fT,aa kR];rfl
   .have:=aQ hc;omega
   .have:=aQ hc;omega
   .refine' ER;have:=aQ hc;rw [J,U fT,U fT,hD,bc];rfl
 .have hc:(s.take 4 !=reqHd.take s.length)=true:=by simpa using hh
  rw [reqRd,aa hh] at J;refine fbod func178 ntmps178 (λbase=>?_);refine' walkW (zat l6 e1 e2 hc @natC) (za zgZ <| zb _);rw [J];rfl
@[go_sem] def zpx:Ent Tryz.prog 178:= .m1 strT zvd
def zBb (n:Int) (h:n=1\/n=2\/n=3\/n=4):ACall Tryz.prog 190 0 [.d (.int .u64 1),.d (.int .u64 n)] [] (λr _=>r= .tup [.d (.int .u64 0),.d (.int .u64 n)]):=by
 rcases h with rfl|rfl|rfl|rfl
 all_goals
  refine fbod func190 ntmps190 (λbase=>?_);refine' Ds;all_goals rfl
@[go_sem] def zvm:Ent Tryz.prog 190:= .ofL (consL (zav (.d (.int .u64 1))) (consL (intT .u64) nilL)) (λ(_,n,_)=>n=1\/n=2\/n=3\/n=4) (λ(_,n,_)=> .tup [.d (.int .u64 0),.d (.int .u64 n)]) (λ(_,n,_) hp=>⟨rfl,zBb n hp⟩)
def zEg (n:Int) (h:n=1\/n=2\/n=3\/n=4):ACall Tryz.prog 116 0 [.d (.int .u64 1),.d (.int .u64 n)] [] (λr _=>r= .tup [.d (.int .u64 0),.d (.int .u64 n)]):=by refine fbod func116 ntmps116 (λbase=>?_);refine' walkW fx (za zvm <| zb _)
@[go_sem] def zBc:Ent Tryz.prog 116:= .ofL (consL (zav (.d (.int .u64 1))) (consL (intT .u64) nilL)) (λ(_,n,_)=>n=1\/n=2\/n=3\/n=4) (λ(_,n,_)=> .tup [.d (.int .u64 0),.d (.int .u64 n)]) (λ(_,n,_) hp=>⟨rfl,zEg n hp⟩)
def zyC:ACall Tryz.prog 29 0 [] [] (λr _=>r= .d (.str zl5)):=by refine fbod func29 ntmps29 (λbase=>?_);refine' Ds;rfl
@[go_sem] def zrQ:Ent Tryz.prog 29:= .ofL nilL (λ_=>True) (λ_=> .d (.str zl5)) (λ_ hp=>⟨rfl,zyC⟩)
def zrR (r:List D):ACall Tryz.prog 54 40 [.osl 5 8 1 0 1,.d (.int .i64 1)] [(5,.arr 8 [r])] (λr' h'=>r'= .d (.sl 8 [r])/\h'= [(5,.arr 8 [r])]):=by refine' Ea;have ab:IntKind.u64.wrap 1=1:=rfl;have a6:IntKind.i64.wrap 1=1:=rfl;refine bod func54 ntmps54 (λbase=>?_);refine' walkW (zg ab a6) (za zBc <| zb _);refine za0 40 rfl ?_;refine' Cl;refine zk (λ_:Unit=>⟨[(7,true,.d (.sl 8 [r])),(8,true,.d (.int .i64 1))],[(5,.arr 8 [r])],some []⟩) (λ_=>0) () le1 (λq=>?_);refine' Ds
def aw1l:List Cn:= [cn0]
def zyD (x:Img):ACall Tryz.prog 22 0 [imgA x,.d (.int .i64 1)] [] (λr _=>r= .tup [srvA ⟨x,aw1l⟩,.d (.int .i64 0)]):=by refine fbod func22 ntmps22 (λbase=>?_);refine' zgu (ownsL [1000054]) fx (za zrQ <| zb _);refine ⟨5,40,_,_,_,rfl,gb,by simp [AObj.ids],gD,zrR _,?_⟩;refine' Cl;refine' Ds;all_goals rfl
@[go_sem] def zk0:Ent Tryz.prog 22:= .ofL (consL za9 (consL (zav (.d (.int .i64 1))) nilL)) (λ(x,_,_)=>True) (λ(x,_,_)=> .tup [srvA ⟨x,aw1l⟩,.d (.int .i64 0)]) (λ(x,_,_) hp=>⟨rfl,zyD x⟩)
def zvr {s:Txt} (h:(optRd s).2.2=0):(optRd s).2.1.length+16<=s.length:=by
 unfold optRd at*;split at h
 .cases h
 rename_i g1;split at h
 .cases h
 rename_i g2;split at h
 .cases h
 rename_i g3;split at h
 .cases h
 rename_i g4;rw [U g1,U g2,U g3,U g4];simp only [ak];omega
def zr1 (n:Ng) (x:Xp) (k:Int) (d:Txt) (b:Txt):zbE { n with buf:=b } x k d=({ (zbE n x k d).1 with buf:=b },(zbE n x k d).2):=by
 unfold zbE;by_cases h1:(zb2 d).2.2≠0\/n.chunks=false
 .simp only [aa h1]
 by_cases h2:8<(zb2 d).2.1.length
 .simp only [U h1,aa h2]
 by_cases J:oursS (zb2 d).1=false
 .simp only [U h1,U h2,aa J]
 .simp only [U h1,U h2,U J]
def zBe (n:Ng) (x:Xp) (k:Int) (d:Txt) (b:Txt):ngOpt { n with buf:=b } x k d=({ (ngOpt n x k d).1 with buf:=b },(ngOpt n x k d).2):=by
 unfold ngOpt;by_cases h1:k=1
 .simp only [aa h1];split<;>rfl
 by_cases h2:k=2
 .simp only [U h1,aa h2]
 by_cases h3:k=3
 .simp only [U h1,U h2,aa h3];split<;>rfl
 by_cases h4:k=6\/k=7
 .simp only [U h1,U h2,U h3,aa h4];by_cases J:(zey d).2.2≠0
  .simp only [aa J]
  by_cases h6:oursS (zey d).1=false
  .simp only [U J,aa h6]
  .simp only [U J,U h6]
 by_cases J:k=8
 .simp only [U h1,U h2,U h3,U h4,aa J];split<;>rfl
 by_cases h6:k=9\/k=10
 .simp only [U h1,U h2,U h3,U h4,U J,aa h6];exact zr1 n x k d b
 .simp only [U h1,U h2,U h3,U h4,U J,U h6]
def zr2 {n:Ng} {x:Xp} (hp:n.phase=0\/n.phase=1) (h:(ngStep n x).2.2=true):(ngStep n x).1.buf.length<n.buf.length\/(ngStep n x).1.phase=3/\(ngStep n x).1.buf=n.buf:=by
 unfold ngStep at*;split at h
 .rename_i h0;split at h
  .simp at h
  rename_i h1;rw [aa h0,U h1];exact .inl mz
 rename_i h0;split at h
 .simp at h
 rename_i h1;split at h
 .rename_i h2;rw [U h0,U h1,aa h2];exact .inr ⟨rfl,rfl⟩
 rename_i h2;rw [U h0,U h1,U h2,zBe];have:=zvr (df.1 h2);exact .inl gH
def zvs {x:Xp} {k:Nat} {n:Ng} {out:Txt} (hp:¬(n.phase=0\/n.phase=1)):zbd x k n out=(ngClr n,out):=by
 cases k with
 |zero=>rfl
 |succ k=>rw [zbd,U hp]
def zi2 {s:Txt} (h:(reqRd s).2.2=0):(reqRd s).2.1.length+28<=s.length:=by
 unfold reqRd at*;split at h
 .cases h
 rename_i g1;split at h
 .cases h
 rename_i g2;rw [U g1,U g2];split at h
 .rename_i g3;rw [aa g3];simp only [ak];omega
 rename_i g3;rw [U g3];split at h
 .cases h
 rename_i g4;split at h
 .cases h
 rename_i g5;rw [U g4,U g5];simp only [ak];omega
def zfa {size:Int} {k:Nat} {c:Cn} (h:¬(c.n.phase=2/\c.gone=false/\c.tasks.length<8)):zcz size k c=c:=by
 cases k with
 |zero=>rfl
 |succ k=>rw [zcz,U h]
def cnOne (size:Int) (c:Cn):Cn:=
 if za2 (reqRd c.n.buf).1 size c.n.chunks c.n.metas≠0 then { c with n:= { c.n with buf:=(reqRd c.n.buf).2.1 },out:=c.out++zcX (reqRd c.n.buf).1 (za2 (reqRd c.n.buf).1 size c.n.chunks c.n.metas) c.n.chunks }
 else { c with n:= { c.n with buf:=(reqRd c.n.buf).2.1 },tasks:=c.tasks++ [tnew (reqRd c.n.buf).1] }
def zmg {size:Int} {k:Nat} {c:Cn} (h:c.n.phase=2/\c.gone=false/\c.tasks.length<8):zcz size (k+1) c=if (reqRd c.n.buf).2.2=22 then c else if (reqRd c.n.buf).2.2≠0\/(reqRd c.n.buf).1.kind=2/\za2 (reqRd c.n.buf).1 size c.n.chunks c.n.metas=0 then ze4 c else zcz size k (cnOne size c):=by
 rw [zcz,aa h];unfold cnOne;split
 .rfl
 split
 .rfl
 split<;>rfl
def zyF {size:Int} {c:Cn} :(cnOne size c).n.buf=(reqRd c.n.buf).2.1:=by unfold cnOne;split<;>rfl
def zhr {size:Int} {c:Cn} :(cnOne size c).gone=c.gone:=by unfold cnOne;split<;>rfl
def zcC {size:Int} {k:Nat} {c:Cn} (h:c.gone=true):zcz size k c=c:=zfa (by rw [h];simp)
def znL {n:Ng} {x:Xp} {k:Int} {d:Txt} :(zbE n x k d).1.phase=n.phase:=by
 unfold zbE;repeat' split
 all_goals rfl
def zpN {n:Ng} {x:Xp} (hp:n.phase=0\/n.phase=1):(ngStep n x).1.phase=0\/(ngStep n x).1.phase=1\/(ngStep n x).1.phase=2\/(ngStep n x).1.phase=3:=by
 unfold ngStep;split
 .split
  .simp only;omega
  .simp only;split<;>simp
 split
 .simp only;omega
 split
 .simp
 unfold ngOpt;repeat' split
 all_goals first|(rw [znL];simp only;omega)|(simp only;omega)|simp
def zjA {x:Xp} :∀ (k:Nat) (n:Ng) (out:Txt),(n.phase=0\/n.phase=1\/n.phase=2\/n.phase=3)->((zbd x k n out).1.phase=0\/(zbd x k n out).1.phase=1\/(zbd x k n out).1.phase=2\/(zbd x k n out).1.phase=3)
 |0,n,out,h=>by rw [zbd,ngClr];split<;>exact h
 | k+1,n,out,h=>by
  rw [zbd];split
  .rename_i hp;split
   .exact zjA k _ _ (zpN hp)
   .exact h
  .rw [ngClr];split<;>exact h
def zjB {n:Ng} {x:Xp} (h:n.phase=0\/n.phase=1\/n.phase=2\/n.phase=3) (s:Txt):(zba n x s).1.phase=0\/(zba n x s).1.phase=1\/(zba n x s).1.phase=2\/(zba n x s).1.phase=3:=by
 unfold zba;split
 .exact h
 .exact zjA _ _ _ h
def MsOk (l:List Int):Prop:=l.length<=3/\∀m∈l,1<=m/\m<=3
def MsOk.nil:MsOk []:=⟨ad _,λm hm=>kO⟩
def zh1 {k:Int} {l:List Txt} :∀ (cs:List Txt) (i:Nat) (s:Txt) (ids:List Int),i+cs.length<=3->ids.length<=i->(∀m∈ids,1<=m/\m<=3)->MsOk (zaK k l i cs s ids).2
 | [],i,s,ids,h1,h2,J=>⟨by simp only [zaK];omega,J⟩
 | c::r,i,s,ids,h1,h2,J=>by
  rw [aC] at h1;rw [zaK];split
  .refine zh1 r (i+1) _ _ fT gh (λm hm=>?_);rcases aS.1 hm with hm|hm
   .exact J m hm
   .rw [bp] at hm;omega
  .exact zh1 r (i+1) _ _ fT fT J
def zBf {n:Ng} {x:Xp} {k:Int} {d:Txt} (J:x.names.length<=2) (h:MsOk n.metas):MsOk (ngOpt n x k d).1.metas:=by
 have hc:0+(ctxs x.names).length<=3:=by simp [ctxs];omega
 have h1:MsOk (if k=10 then [] else n.metas):=by
  split
  .exact MsOk.nil
  .exact h
 unfold ngOpt;split
 .split<;>exact h
 split
 .exact h
 split
 .split<;>exact h
 split
 .split
  .exact h
  split<;>exact h
 split
 .split<;>exact h
 split
 .unfold zbE;split
  .exact h1
  split
  .exact h1
  split
  .exact h1
  .simp only;split
   .exact zh1 _ 0 _ _ hc (aj _) (λm hm=>kO)
   .exact h
 .exact h
def zyI {n:Ng} {x:Xp} (J:x.names.length<=2) (h:MsOk n.metas):MsOk (ngStep n x).1.metas:=by
 unfold ngStep;split
 .split<;>exact h
 split
 .exact h
 split
 .exact h
 .exact zBf (n:= { n with buf:=(optRd n.buf).2.1 }) J h
def zyJ {n:Ng} {x:Xp} (hp:n.phase=0\/n.phase=1):(ngStep n x).1.buf.length<=n.buf.length:=by
 cases h:(ngStep n x).2.2 with
 |true=>
  rcases zr2 hp h with h1|⟨_,h1⟩
  .omega
  .rw [h1];exact aj _
 | false=>
  unfold ngStep at h |-;split at h
  .rename_i h0;split at h
   .rename_i h1;rw [aa h0,aa h1];exact aj _
   .simp at h
  rename_i h0;split at h
  .rename_i h1;rw [U h0,aa h1];exact aj _
  split at h<;>simp at h
def ztH {n:Ng} :(ngClr n).metas=n.metas:=by unfold ngClr;split<;>rfl
def ztI {n:Ng} :(ngClr n).buf.length<=n.buf.length:=by
 unfold ngClr;split
 .exact ad _
 .exact aj _
def zpO {x:Xp} (J:x.names.length<=2):∀ (k:Nat) (n:Ng) (out:Txt),MsOk n.metas->MsOk (zbd x k n out).1.metas/\(zbd x k n out).1.buf.length<=n.buf.length
 |0,n,out,h=>by rw [zbd];exact ⟨by rw [ztH];exact h,ztI⟩
 | k+1,n,out,h=>by
  rw [zbd];split
  .rename_i hp;split
   .have h1:=zpO J k (ngStep n x).1 (out++(ngStep n x).2.1) (zyI J h);have h2:=zyJ (x:=x) hp;exact ⟨h1.1,fT⟩
   .exact ⟨h,aj _⟩
  .exact ⟨by rw [ztH];exact h,ztI⟩
def zg1 {n:Ng} {x:Xp} (J:x.names.length<=2) (h:MsOk n.metas) (s:Txt):MsOk (zba n x s).1.metas/\(zba n x s).1.buf.length<=n.buf.length+s.length:=by
 unfold zba;split
 .exact ⟨h,bH _ _⟩
 .have:=zpO J (n.buf.length+s.length+2) { n with buf:=n.buf++s } [] h;rw [ae] at this;exact this
def zgn {n:Ng} {x:Xp} (h:n.phase=2) (s:Txt):zba n x s=({ n with buf:=n.buf++s },[]):=by
 rw [zba,U fT,zvs gH,ngClr,U gH]
def zd4 (v:Srv) (c:Int) (h:v.conns.length<=1000000):ACall Tryz.prog 56 0 [srvA v,.d (.int .i64 c)] [] (λr _=>r= .d (.bool (decide (0<=c)&&decide (c<(v.conns.length:Int))))):=by refine fbod func56 ntmps56 (λbase=>?_);refine' Ds
def zyX (v:Srv) (hp:v.conns.length<=1000/\(∀c∈v.conns,c.tasks.length<=1000000)):AC 21 [srvA v] (.d (.int .i64 (zkO v))):=by
 obtain ⟨h,ht⟩:=hp
 have yc:∀l:List Cn,(∀c∈l,c.tasks.length<=1000000)->(l.map λc=>c.tasks.length).sum<=l.length*1000000:=by
  intro l;induction l with
  |nil=>intro _;exact aj _
  |cons c l ih=>
   intro hl;have h1:=ih (λc hc=>hl c (cY _ hc));have h2:=hl c cW;simp only [au,List.sum_cons,aC];omega
 have iy:=yc v.conns ht;obtain ⟨V,hV⟩:∃V,V=zkO v:=⟨_,rfl⟩
 rw [<-hV];unfold zkO at hV;have yd:V<=1000000000:=by rw [hV];omega
 refine fbod func21 ntmps21 (λbase=>?_);refine' Ds;refine zk (λq: { q:Nat×Nat // q.1<=v.conns.length/\V=q.2+((v.conns.drop q.1).map λc=>c.tasks.length).sum } =>⟨[(3,true,.d (.int .i64 q.1.2)),(7,true,.d (.sl 8 (v.conns.map cnD))),(8,true,.d (.int .i64 v.conns.length)),(9,true,.d (.int .i64 q.1.1))],[],some []⟩) (λq=>v.conns.length - q.1.1) ⟨(0,0),ad _,by rw [hV];simp⟩ le1 (λq=>?_);obtain ⟨⟨i,a⟩,hi,ha⟩:=q;simp only at hi ha |-;rcases zw cnD v.conns i hi with ⟨m,hq,br,J,ab,b4,a7⟩|⟨ao,J⟩
 .simp only [cnD] at ab;refine' CO;rw [b4,au,List.sum_cons] at ha;have hw:IntKind.i64.wrap ((a:Int)+(m.tasks.length:Int))=((a+m.tasks.length:Nat):Int):=gP;refine' zc (zg J ab);all_goals first|omega|skip
  exact ⟨⟨(i+1,a+m.tasks.length),fT,by show V=a+m.tasks.length+((v.conns.drop (i+1)).map λc=>c.tasks.length).sum;omega⟩,lxb (lan hwi hw),gh⟩
 .subst ao;rw [aP] at ha;simp only [bM,List.sum_nil,cJ] at ha;refine' zc J;rw [ha]
@[go_sem] def zk7:Ent Tryz.prog 21:= .m1 zjw zyX
def zvK (m n:Ng) (hp:m.metas.length<=1000000/\n.metas.length<=1000000):AC 46 [ngA m,ngA n] (.d (.bool (decide (m=n)))):=by
 obtain ⟨hm,hn⟩:=hp;obtain ⟨V,hV⟩:∃V,V=decide (m=n):=⟨_,rfl⟩
 rw [<-hV];by_cases hb:m.phase=n.phase/\m.buf=n.buf/\m.brief=n.brief/\m.chunks=n.chunks/\m.metas.length=n.metas.length
 .have hc:((((m.phase !=n.phase||m.buf !=n.buf)||m.brief !=n.brief)||m.chunks !=n.chunks)||((m.metas.length:Int) !=(n.metas.length:Int)))=false:=by obtain ⟨a,b,c,d,e⟩:=hb;rw [a,b,c,d,e];simp
  have pS:V=decide (m.metas=n.metas):=by rw [hV];obtain ⟨a,b,c,d,e⟩:=hb;cases m;cases n;simp only at a b c d;subst a;subst b;subst c;subst d;simp
  refine fbod func46 ntmps46 (λbase=>?_);refine' zc hc;refine zk (λq: { i:Nat // i<=m.metas.length/\m.metas.take i=n.metas.take i } =>⟨[(2,true,.vp 0 0),(3,true,.vp 1 0),(5,true,.d (.int .i64 q.1))],[(1,.var [.d (.int .i64 n.phase),.d (.str n.buf),.d (.bool n.brief),.d (.bool n.chunks),.d (.sl 1 (n.metas.map u32D))]),(0,.var [.d (.int .i64 m.phase),.d (.str m.buf),.d (.bool m.brief),.d (.bool m.chunks),.d (.sl 1 (m.metas.map u32D))])],some []⟩) (λq=>m.metas.length - q.1) ⟨0,ad _,rfl⟩ le1 (λq=>?_);obtain ⟨i,hi,ht⟩:=q;simp only at hi ht |-;rcases zw u32D m.metas i hi with ⟨a,hq,bo,J,ab,b4,a7⟩|⟨ao,J⟩
  .rcases zw u32D n.metas i fT with ⟨b,jZ,qg,l7,km,vT,tL⟩|⟨rS,l7⟩
   .simp only [u32D] at ab km;refine' CO;by_cases iP:a=b
    .have mC:(a !=b)=false:=by simpa using iP
     refine' zc (zB J ab km mC);all_goals first|omega|skip
     exact ⟨⟨i+1,fT,by rw [a7,tL,ht,iP]⟩,lev,gh⟩
    .have mC:(a !=b)=true:=by simpa using iP
     refine' zc (zB J ab km mC);all_goals first|omega|skip
     rw [pS,ag (λe=>iP (by rw [e,jZ] at hq;exact (Option.some.inj hq).symm))]
   .omega
  .subst ao;refine' zc J;rw [aL,hb.2.2.2.2,aL] at ht;rw [pS,af ht]
 .have hc:((((m.phase !=n.phase||m.buf !=n.buf)||m.brief !=n.brief)||m.chunks !=n.chunks)||((m.metas.length:Int) !=(n.metas.length:Int)))=true:=by apply cN;intro e;apply hb;simp only [cb,bn,bJ] at e;obtain ⟨⟨⟨⟨a,b⟩,c⟩,d⟩,f⟩:=e;exact ⟨a,b,c,d,fT⟩
  have pS:V=false:=by rw [hV];exact ag (λe=>hb (by rw [e];exact ⟨rfl,rfl,rfl,rfl,rfl⟩))
  refine fbod func46 ntmps46 (λbase=>?_);refine' zc hc;rw [pS]
@[go_sem] def zb5:Ent Tryz.prog 46:= .m2 ngA_T ngA_T zvK
def tskZ:List D:= [.int .i64 0,.int .i64 0,.int .u64 0,.int .u64 0,.int .u32 0,.str [],.sl 3 [],.int .i64 0,.int .u32 0,.str [],.sl 2 [],.bool false]
def zBr (ts:List Tsk) (i:Nat) (hi:i<ts.length) (hl:ts.length<=1000):ACall Tryz.prog 52 40 [.osl 34 12 ts.length 0 ts.length,.d (.int .i64 i),.d (.int .i64 (i+1:Nat))] [(34,.arr 12 (ts.map tskD))] (λr h'=>r= .osl 34 12 ts.length 0 (ts.length - 1)/\h'= [(34,.arr 12 ((ts.eraseIdx i).map tskD++ [tskZ]))]):=by
 refine' Ea;obtain ⟨X,hX⟩:∃X,X=ts.map tskD:=⟨_,rfl⟩
 have mG:X.length=ts.length:=by rw [hX,al]
 rw [<-hX];refine bod func52 ntmps52 (λbase=>?_);have he:((i:Int)==((i+1:Nat):Int))=false:=gh;have b5:(i=ts.length)=False:=eq_false fT;have b4:(List.drop (i+1) X).take (ts.length - (i+1))=X.drop (i+1):=aA gG;have gw:(X.drop (i+1)).length=ts.length - (i+1):=by rw [ak,mG]
 have iX:i+(ts.length - (i+1))=ts.length - 1:=fT;have ia:(i+1+(ts.length - (i+1))<=ts.length)=True:=da fT;have J:i - 0=i:=rfl;have jw:(rput X i (X.drop (i+1))).length=ts.length:=by unfold rput;simp;omega
 refine' zc (zr he b5 b4 gw iX (zat mG @natC ia J jw));rw [<-mG,show X.length - (X.length - 1)=1 by omega,List.replicate_one,zBq fT,hX,dC,dC];simp only [aG,cE,dy,tskZ]
def zBv {n:Nat} {x:List D} (h:DTy Tryz.prog (n+1) 9 x):∃s:Txt,x= [.str s]/\s.length<=140737488355328:=by unfold DTy at h;simp only [ty9] at h;exact h
def znZ {n:Nat} {x:List D} (h:DTy Tryz.prog (n+2) 54 x):∃d:Deed,d.text.length<=140737488355328/\x=deedD d:=by unfold DTy at h;simp only [ty54,DTy.fields] at h;obtain ⟨a1,b1,rfl,g1,a2,b2,rfl,g2,a3,J,rfl,g3,a4,b4,rfl,g4,rfl⟩:=h;obtain ⟨k,rfl,_⟩:=zfy g1;obtain ⟨c,rfl,_⟩:=zfy g2;obtain ⟨i,rfl,_⟩:=zfy g3;obtain ⟨s,rfl,q⟩:=zBv g4;exact ⟨⟨k,c,i,s⟩,q,rfl⟩
def zy9 {n:Nat} {x:List D} (h:DTy Tryz.prog (n+3) 43 x):∃l:List Deed,l.length<=9223372036854775807/\(∀d∈l,d.text.length<=9223372036854000000)/\x= [.sl 4 (l.map deedD)]:=by unfold DTy at h;simp only [ty43] at h;obtain ⟨rows,rfl,hl,J⟩:=h;obtain ⟨l,rfl⟩:=zh9 (e:=deedD) (λr h'=>(znZ (J r h')).imp λs h=>h.2);refine ⟨l,s6,λd hd=>?_,by rw [ty54]⟩;obtain ⟨d',h1,h2⟩:=znZ (J (deedD d) (List.mem_map_of_mem hd));rw [zkP _ _ h2];omega
def zza (rows:List (List D)):argAV Tryz.prog 43 [.sl 4 rows]= .d (.sl 4 rows):=by simp only [argAV,ty43]
def zBw (d:Deed):argAV Tryz.prog 54 (deedD d)= .agg [.d (.int .i64 d.kind),.d (.int .i64 d.conn),.d (.int .i64 d.loc),.d (.str d.text)]:=by simp only [argAV,ty54];rfl
end
end Go.Aw
