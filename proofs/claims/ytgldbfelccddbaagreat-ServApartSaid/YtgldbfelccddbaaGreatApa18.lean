/- Lemmas. -/
import Derived.Test.YtgldbfelccddbaaGreatApa15
set_option linter.all false
set_option maxRecDepth 100000
set_option maxHeartbeats 2000000
namespace Go.Aw
noncomputable section
open Go Go.Proofs Go.Proofs.Tryz
structure Ent2 where
 kind:Int
 loc:Int
 deriving DecidableEq
def entA (x:Ent2):AV:= .agg [.d (.int .i64 x.kind),.d (.int .i64 x.loc)]
attribute [go_sem] entA
def zCM (x:Ent2):Ent2.mk x.kind x.loc=x:=rfl
def zhA:PT Ent2:=aggT (consL (intT .i64) (consL (intT .i64) nilL)) (λp=>⟨p.1,p.2.1⟩) (λx=>(x.kind,x.loc,())) (λ_=>rfl)
attribute [go_sem] zhA
attribute [go_sem] zCM
def entOk (x:Ent2):Bool:=if x.kind=1 then zac x.loc else (x.kind==0||x.kind==2)&&x.loc==0
def zfo (x:Ent2):Txt:= [UInt8.ofNat x.kind.toNat,0,0,0]++putN x.loc.toNat 4
def entOf (s:Txt):Ent2:=⟨((s.getD 0 0).toNat:Int),((takeN ((s.drop 4).take 4):Nat):Int)⟩
def entT (s:Txt):Ent2×Int:=if entOk (entOf s)=false\/zfo (entOf s)≠s then (⟨0,0⟩,14) else (entOf s,0)
def eRef (table i:Int):Bool:= !zac table||decide (i<0)||decide (16<=i)
def eget (d:Disk) (p:Plan) (table i:Int):Ent2×Int:=
 if eRef table i then (⟨0,0⟩,10) else if (plook d p (96+2*table+i / 8)).2≠0 then (⟨0,0⟩,(plook d p (96+2*table+i / 8)).2)
 else entT (((plook d p (96+2*table+i / 8)).1.take (i % 8*8+8).toNat).drop (i % 8*8).toNat)
def eset (d:Disk) (p:Plan) (table i:Int) (x:Ent2):Plan×Int:=
 if eRef table i then (p,10) else if entOk x=false then (p,23) else zhy d p (96+2*table+i / 8) (i % 8*8) (zfo x)
def zct (p:Plan) (J:Int) (f:Plan->Int->Txt×Int):Nat->Int->Plan->Plan×Int
 |0,_,q=>(q,0)
 |m+1,i,q=>if (f q i).2≠0 then (p,(f q i).2) else if (pset q (96+2*J+i) (f q i).1).2≠0 then (p,(pset q (96+2*J+i) (f q i).1).2)
  else zct p J f m (i+1) (pset q (96+2*J+i) (f q i).1).1
def z64:Txt:=List.replicate 64 0
def zAb:bytesOf [[D.int .u8 0],[D.int .u8 0],[D.int .u8 0],[D.int .u8 0],[D.int .u8 0],[D.int .u8 0],[D.int .u8 0],[D.int .u8 0],[D.int .u8 0],[D.int .u8 0],[D.int .u8 0],[D.int .u8 0],[D.int .u8 0],[D.int .u8 0],[D.int .u8 0],[D.int .u8 0],[D.int .u8 0],[D.int .u8 0],[D.int .u8 0],[D.int .u8 0],[D.int .u8 0],[D.int .u8 0],[D.int .u8 0],[D.int .u8 0],[D.int .u8 0],[D.int .u8 0],[D.int .u8 0],[D.int .u8 0],[D.int .u8 0],[D.int .u8 0],[D.int .u8 0],[D.int .u8 0],[D.int .u8 0],[D.int .u8 0],[D.int .u8 0],[D.int .u8 0],[D.int .u8 0],[D.int .u8 0],[D.int .u8 0],[D.int .u8 0],[D.int .u8 0],[D.int .u8 0],[D.int .u8 0],[D.int .u8 0],[D.int .u8 0],[D.int .u8 0],[D.int .u8 0],[D.int .u8 0],[D.int .u8 0],[D.int .u8 0],[D.int .u8 0],[D.int .u8 0],[D.int .u8 0],[D.int .u8 0],[D.int .u8 0],[D.int .u8 0],[D.int .u8 0],[D.int .u8 0],[D.int .u8 0],[D.int .u8 0],[D.int .u8 0],[D.int .u8 0],[D.int .u8 0],[D.int .u8 0]]=z64:=rfl
def eblank (p:Plan) (table:Int):Plan×Int:=if zac table=false then (p,10) else zct p table (λ_ _=>(z64,0)) 2 0 p
def ecopy (d:Disk) (p:Plan) (fr J:Int):Plan×Int:=if zac fr=false\/zac J=false then (p,10) else zct p J (λq i=>plook d q (96+2*fr+i)) 2 0 p
def elook (d:Disk) (p:Plan) (l1 guest:Int):Ent2×Int:=
 if guest<0\/64<=guest then (⟨0,0⟩,10) else if (eget d p l1 (guest / 16)).2≠0 then (⟨0,0⟩,(eget d p l1 (guest / 16)).2)
 else if (eget d p l1 (guest / 16)).1.kind=2 then (⟨0,0⟩,14) else if (eget d p l1 (guest / 16)).1.kind=0 then (⟨0,0⟩,0)
 else eget d p (eget d p l1 (guest / 16)).1.loc (guest % 16)
def zfL {x:Ent2} (h:entOk x=true):(x.kind=0\/x.kind=1\/x.kind=2)/\0<=x.loc/\x.loc<256:=by
 unfold entOk at h;split at h
 .rename_i J;have:=hostOk_iff.1 h;omega
 .simp only [aq,aH,aF] at h;omega
def znf {d:Disk} {p:Plan} {t i:Int} (h:(eget d p t i).2=0):entOk (eget d p t i).1=true/\zac t=true/\0<=i/\i<16:=by
 unfold eget at h |-;split at h
 .cases h
 rename_i h0;rw [U h0];split at h
 .rename_i h1;exact absurd h h1
 rename_i h1;rw [U h1];unfold entT at h |-;split at h
 .cases h
 rename_i h2;rw [U h2];simp only [cr,dF] at h2;refine ⟨h2.1,?_⟩;simp only [eRef,aH,ax,cr,bI,dF] at h0;exact ⟨h0.1.1,fT,fT⟩
def zjt (x:Ent2):(zfo x).length=8:=by rw [zfo,ae,zu];rfl
def zAc {d:Disk} {p:Plan} {t i:Int} {x:Ent2} (h:pfit p=true):pfit (eset d p t i x).1=true:=by
 unfold eset;split
 .exact h
 split
 .exact h
 .exact zlR h
def ziS {p:Plan} {tt:Int} {f:Plan->Int->Txt×Int} (h:pfit p=true):∀ (m:Nat) (i:Int) (q:Plan),pfit q=true->pfit (zct p tt f m i q).1=true
 |0,_,_,J=>J
 |m+1,i,q,J=>by
  rw [zct];split
  .exact h
  split
  .exact h
  .exact ziS h m _ _ (zfm J)
def DP.eset {d:Disk} {p:Plan} (h:DP d p) (t i:Int) (x:Ent2):DP d (eset d p t i x).1:=⟨h.d,zAc h.p⟩
def DP.eblank {d:Disk} {p:Plan} (h:DP d p) (t:Int):DP d (eblank p t).1:=⟨h.d,by unfold Aw.eblank;split;exact h.p;exact ziS h.p _ _ _ h.p⟩
def DP.ecopy {d:Disk} {p:Plan} (h:DP d p) (a b:Int):DP d (ecopy d p a b).1:=⟨h.d,by unfold Aw.ecopy;split;exact h.p;exact ziS h.p _ _ _ h.p⟩
def zng (k:Int) (_:True):AC 425 [.d (.int .i64 k)] (.d (.bool (zac k))):=by refine bod func425 ntmps425 (λbase=>?_);refine' Ds;rfl
@[go_sem] def zaO:Ent Tryz.prog 425:= .m1 (intT .i64) zng
def zqY (x:Ent2) (_:True):AC 385 [entA x] (.d (.bool (entOk x))):=by
 refine bod func385 ntmps385 (λbase=>?_);refine' walkW fx (za zaO <| zb _)
 .have hc:x.kind=1:=by simpa using hc
  rw [entOk,aa hc]
 .have hc:¬x.kind=1:=by simpa using hc
  rw [entOk,U hc]
@[go_sem] def zcI:Ent Tryz.prog 385:= .m1 zhA zqY
def znh (t i:Int) (_:True):AC 383 [.d (.int .i64 t),.d (.int .i64 i)] (.d (.bool (eRef t i))):=by refine bod func383 ntmps383 (λbase=>?_);refine' walkW fx (za zaO <| zb _);rfl
@[go_sem] def zbW:Ent Tryz.prog 383:= .m2 (intT .i64) (intT .i64) znh
def zkA {t i:Int} (h:eRef t i=false):(0<=t/\t<256)/\0<=i/\i<16:=by simp only [eRef,bn,bK,bG] at h;exact ⟨hostOk_iff.1 h.1.1,fT,fT⟩
def zqZ (t i:Int) (hp:0<=t/\t<256/\0<=i/\i<16):AC 384 [.d (.int .i64 t),.d (.int .i64 i)] (.tup [.d (.int .i64 (96+2*t+i / 8)),.d (.int .i64 (i % 8*8))]):=by
 obtain ⟨h0,h1,h2,J⟩:=hp;refine bod func384 ntmps384 (λbase=>?_);have ab:IntKind.i64.wrap (i.tdiv 8)=i / 8:=by rw [ct h2,zf fT fT]
 have a6:IntKind.i64.wrap (96+2*t+i / 8)=96+2*t+i / 8:=zf fT fT;have gO:i.tmod 8=i % 8:=bX h2;have gX:IntKind.i64.wrap (i % 8*8)=i % 8*8:=zf fT fT;refine' walkW (zB ab a6 gO gX) (za zak <| zb _)
@[go_sem] def zcJ:Ent Tryz.prog 384:= .m2 (intT .i64) (intT .i64) zqZ
def zq0 (x:Ent2) (h:entOk x=true):AC 386 [entA x] (.d (.str (zfo x))):=by
 refine fbod func386 ntmps386 (λbase=>?_);obtain ⟨J,qk,ql⟩:=zfL h
 have ab:IntKind.u8.wrap x.kind=((UInt8.ofNat x.kind.toNat).toNat:Int):=by rw [<-u8_of,show (x.kind.toNat:Int)=x.kind by omega]
 have a6:IntKind.u64.wrap x.loc=x.loc:=zA fT fT;have hl:=zu x.loc.toNat 4;have xM:bytesOf [[D.int .u8 ((UInt8.ofNat x.kind.toNat).toNat:Int)],[D.int .u8 0],[D.int .u8 0],[D.int .u8 0]]= [UInt8.ofNat x.kind.toNat,0,0,0]:=by rcases J with hh|hh|hh<;>(rw [hh];rfl)
 refine' walkW (zat ab a6 @zgv hl xM) (za zH <| zb _)
 .rfl
 .rfl
@[go_sem] def zcK:Ent Tryz.prog 386:= .m1 zhA zq0
def zxf (s:Txt):0<=(entOf s).kind/\(entOf s).kind<=255/\0<=(entOf s).loc/\(entOf s).loc<=4294967295:=by have h1:=zdw (l:=(s.drop 4).take 4) (i:=4) hU;have h2:=(s.getD 0 0).toNat_lt;simp only [entOf];omega
def zxg (d:Disk) (p:Plan) (t i:Int) (h:DP d p):AC 338 [diskA d,planA p,.d (.int .i64 t),.d (.int .i64 i)] (.tup [entA (eget d p t i).1,.d (.int .i64 (eget d p t i).2)]):=by
 refine fbod func338 ntmps338 (λbase=>?_);refine' EN;by_cases J:eRef t i=true
 .refine' Iq;rw [eget,aa J]
 have J:eRef t i=false:=gQ;obtain ⟨⟨j3,iG⟩,mA,ia⟩:=zkA J;obtain ⟨A,hA⟩:∃A,A=96+2*t+i / 8:=⟨_,rfl⟩
 have kG:eget d p t i=if (plook d p A).2≠0 then (⟨0,0⟩,(plook d p A).2) else entT (((plook d p A).1.take (i % 8*8+8).toNat).drop (i % 8*8).toNat):=by rw [eget,U jH,hA]
 by_cases he:(plook d p A).2=0
 .refine' IM;have hw:IntKind.i64.wrap (i % 8*8+8)=i % 8*8+8:=zf fT fT;obtain ⟨S,hS⟩:∃S,S=((plook d p A).1.take (i % 8*8+8).toNat).drop (i % 8*8).toNat:=⟨_,rfl⟩
  rw [<-hS] at kG;have nS:S.length=8:=by rw [hS,ak,az];omega
  have nT:=zxf S;have a7:List.take S.length S=S:=aL;have lD:=zga (s:=S.drop 4) (z:=4) 4 rfl fT fT gG;have fW:IntKind.i64.wrap (entOf S).kind=(entOf S).kind:=zf fT fT;have iu:IntKind.i64.wrap (entOf S).loc=(entOf S).loc:=zf fT fT;simp only [entOf] at fW iu nT;have vq:(List.drop 4 S).length<=8:=gG;refine' walkW (zr J hA.symm hb hw hS.symm (zB a7 lD fW iu)) (za zbW <| za zcJ <| za zae <| za zx <| za zcI <| za zcK <| za zbI <| zb _);all_goals (rw [kG,entT];clear lD fW iu a7;simp_all [entOf];done)
 .have hb:((plook d p A).2 !=0)=true:=by simpa using he
  rw [aa he] at kG;refine' walkW (zp J hA.symm hb) (za zbW <| za zcJ <| za zae <| za zx <| za zcI <| za zcK <| za zbI <| zb _);rw [kG]
@[go_sem] def zdU:Ent Tryz.prog 338:= .m4 zC z7 (intT .i64) (intT .i64) zxg
def zxh (d:Disk) (p:Plan) (t i:Int) (x:Ent2) (h:DP d p):AC 341 [diskA d,planA p,.d (.int .i64 t),.d (.int .i64 i),entA x] (.tup [planA (eset d p t i x).1,.d (.int .i64 (eset d p t i x).2)]):=by
 refine fbod func341 ntmps341 (λbase=>?_);refine' Hk;by_cases J:eRef t i=true
 .refine' Iq;rw [eset,aa J]
 have J:eRef t i=false:=gQ;obtain ⟨⟨j3,iG⟩,mA,ia⟩:=zkA J;by_cases hx:entOk x=true
 .have hl:=zjt x;refine' walkW (zp J hx hl) (za zbW <| za zcJ <| za zae <| za zx <| za zcI <| za zcK <| za zbI <| zb _);rw [eset,U jH,U Cj]
 .have hx:entOk x=false:=by simpa using hx
  refine' walkW (zg J hx) (za zbW <| za zcJ <| za zae <| za zx <| za zcI <| za zcK <| za zbI <| zb _);rw [eset,U jH,aa hx]
@[go_sem] def zgc:Ent Tryz.prog 341:= .m5 zC z7 (intT .i64) (intT .i64) zhA zxh
def zhk (p:Plan) (J:Int) (f:Plan->Int->Txt×Int) (i:Nat) (q:Plan) (hi:i<2):zct p J f (2 - i) i q=if (f q i).2≠0 then (p,(f q i).2) else if (pset q (96+2*J+i) (f q i).1).2≠0 then (p,(pset q (96+2*J+i) (f q i).1).2)
  else zct p J f (2 - (i+1)) (i+1:Nat) (pset q (96+2*J+i) (f q i).1).1:=by rw [show 2 - i=(2 - (i+1))+1 by omega,zct];rfl
def PlanOk.of {p:Plan} (h:pfit p=true):PlanOk p:=by obtain ⟨J,iQ,_⟩:=zbk h;exact ⟨fT,fT⟩
def zq1 (p:Plan) (t:Int) (hp:pfit p=true):AC 426 [planA p,.d (.int .i64 t)] (.tup [planA (eblank p t).1,.d (.int .i64 (eblank p t).2)]):=by
 refine fbod func426 ntmps426 (λbase=>?_);by_cases hk:zac t=true
 .obtain ⟨j3,iG⟩:=hostOk_iff.1 hk;have c8:eblank p t=zct p t (λ_ _=>(z64,0)) 2 0 p:=by rw [eblank,U (by rw [hk];exact λh=>gS)]
  obtain ⟨f,hf⟩:∃f:Plan->Int->Txt×Int,f=λ_ _=>(z64,0):=⟨_,rfl⟩
  rw [<-hf] at c8;refine' walkW hk (za zaO <| za zak <| za zbF <| za zae <| zb _);refine zk (λq: { q:Nat×Plan // q.1<=2/\pfit q.2=true/\eblank p t=zct p t f (2 - q.1) q.1 q.2 } =>⟨[(1,true,.d (.int .i64 t)),(2,true,.vp 0 0),(4,true,.vp 1 0),(6,true,.vp 2 0),(7,true,.d (.int .i64 q.1.1))],[(2,(.var [.d (.sl 1 (q.1.2.targets.map intD)),.d (.sl 1 (q.1.2.texts.map strD))])),(1,.var [.nils 1,.nils 1]),(0,(.var [.d (.sl 1 (p.targets.map intD)),.d (.sl 1 (p.texts.map strD))]))],some []⟩) (λq=>2 - q.1.1) ⟨(0,p),ad 2,hp,c8⟩ le1 (λq=>?_);refine' DO;rcases aO i 2 with aZ|gU
  .refine' GP;refine' CO;refine' Fm;rw [zhk p t f i q aZ] at gq;refine' HS;refine' walkW (zp J ab @zAb) (za zaO <| za zak <| za zbF <| za zae <| zb _)
   .rfl
   .have hc:(pset q (96+2*t+i) z64).2≠0:=by simpa using hc
    rw [gq,aa hc]
   .refine' FJ
  .have J:decide ((i:Int)<2)=false:=ag fT;refine' GS;rw [gq,show 2 - i=0 by omega];rfl
 .have hk:zac t=false:=by simpa using hk
  refine' walkW hk (za zaO <| za zak <| za zbF <| za zae <| zb _);rw [eblank,aa hk]
@[go_sem] def zif:Ent Tryz.prog 426:= .m2 z7 (intT .i64) zq1
def zuz (d:Disk) (p:Plan) (a t:Int) (h:DP d p):AC 427 [diskA d,planA p,.d (.int .i64 a),.d (.int .i64 t)] (.tup [planA (ecopy d p a t).1,.d (.int .i64 (ecopy d p a t).2)]):=by
 refine fbod func427 ntmps427 (λbase=>?_);have hp:=h.p;have ni:=h.dok;by_cases hk:zac a=false\/zac t=false
 .have J:(!zac a|| !zac t)=true:=by simpa using hk
  refine' GS;rw [ecopy,aa hk]
 .have J:(!zac a|| !zac t)=false:=by simpa using hk
  refine' HL;have rA:ecopy d p a t=zct p t (λq i=>plook d q (96+2*a+i)) 2 0 p:=by rw [ecopy,U];simp [hk]
  refine' Iz;rw [<-hf] at rA;refine' GS;refine zk (λq: { q:Nat×Plan // q.1<=2/\pfit q.2=true/\ecopy d p a t=zct p t f (2 - q.1) q.1 q.2 } =>⟨[(2,true,.d (.int .i64 a)),(3,true,.d (.int .i64 t)),(4,true,.vp 0 0),(5,true,.vp 1 0),(8,true,.vp 2 0),(10,true,.vp 3 0),(11,true,.d (.int .i64 q.1.1))],[(3,(.var [.d (.sl 1 (q.1.2.targets.map intD)),.d (.sl 1 (q.1.2.texts.map strD))])),(2,.var [.nils 1,.nils 1]),(1,(.var [.d (.sl 1 (p.targets.map intD)),.d (.sl 1 (p.texts.map strD))])),(0,(.var [.d (.str d.data),.d (.sl 2 (d.cache.map putD)),.d (.int .i64 d.fuse),.d (.bool d.off),.d (.sl 1 (d.bad.map intD))]))],some []⟩) (λq=>2 - q.1.1) ⟨(0,p),ad 2,hp,rA⟩ le1 (λq=>?_);refine' DO;rcases aO i 2 with a7|gU
  .have an:decide ((i:Int)<2)=true:=af fT;refine' CO;refine' Fm;have a6:IntKind.i64.wrap (96+2*a+(i:Int))=96+2*a+i:=zf fT fT;rw [zhk p t f i q a7] at gq;have jJ:f q i=plook d q (96+2*a+i):=by rw [hf]
   simp only [jJ] at gq;refine' walkW (zp an ab a6) (za zaO <| za zak <| za zbF <| za zae <| zb _)
   .have hc:(plook d q (96+2*a+i)).2≠0:=by simpa using hc
    rw [gq,aa hc]
   .rename_i c0;have c0:¬(plook d q (96+2*a+i)).2≠0:=by simpa using c0
    have hc:(pset q (96+2*t+i) (plook d q (96+2*a+i)).1).2≠0:=gA;rw [gq,U c0,aa hc]
   .rename_i c0;have c0:¬(plook d q (96+2*a+i)).2≠0:=by simpa using c0
    have hc:¬(pset q (96+2*t+i) (plook d q (96+2*a+i)).1).2≠0:=gA;rw [U c0,U hc] at gq;refine' Iv
  .have an:decide ((i:Int)<2)=false:=ag fT;refine' walkW an (za zaO <| za zak <| za zbF <| za zae <| zb _);rw [gq,show 2 - i=0 by omega];rfl
@[go_sem] def zju:Ent Tryz.prog 427:= .m4 zC z7 (intT .i64) (intT .i64) zuz
def zuA (d:Disk) (p:Plan) (l1 g:Int) (h:DP d p):AC 268 [diskA d,planA p,.d (.int .i64 l1),.d (.int .i64 g)] (.tup [entA (elook d p l1 g).1,.d (.int .i64 (elook d p l1 g).2)]):=by
 refine fbod func268 ntmps268 (λbase=>?_);by_cases hg:g<0\/64<=g
 .have J:(decide (g<0)||decide (64<=g))=true:=by simpa using hg
  refine' walkW J (za zdU <| zb _);rw [elook,aa hg]
 .refine' FO;refine' walkW (zp J ab a6) (za zdU <| zb _);all_goals (rw [elook,U hg];simp_all;done)
@[go_sem] def zW:Ent Tryz.prog 268:= .m4 zC z7 (intT .i64) (intT .i64) zuA
def zCN (k:Int) (_:True):AC 432 [.d (.int .i64 k)] (.d (.bool (!zac k))):=by refine bod func432 ntmps432 (λbase=>?_);refine' zc @zdm
@[go_sem] def zee:Ent Tryz.prog 432:= .m1 (intT .i64) zCN
def zxm (x:Ent2) (_:True):AC 397 [entA x] (.d (.bool (entOk x))):=by refine bod func397 ntmps397 (λbase=>?_);refine' walkW fx (za zee <| za zde <| zb _);all_goals simp_all [entOk]
@[go_sem] def zdV:Ent Tryz.prog 397:= .m1 zhA zxm
def zxn (t i:Int) (_:True):AC 396 [.d (.int .i64 t),.d (.int .i64 i)] (.tup [.d (.int .i64 (if eRef t i then 0 else 96+2*t+i / 8)),.d (.int .i64 (if eRef t i then 0 else i % 8*8)),.d (.int .i64 (if eRef t i then 10 else 0))]):=by
 refine bod func396 ntmps396 (λbase=>?_);cases hr:eRef t i with
 |true=>
  have J:(!zac t||decide (i<0)||decide (16<=i))=true:=hr;refine' walkW J (za zee <| za zde <| zb _)
 |false=>
  have J:(!zac t||decide (i<0)||decide (16<=i))=false:=hr;obtain ⟨⟨j3,iG⟩,mA,ia⟩:=zkA hr;have jS:IntKind.i64.wrap (i*8)=i*8:=zf fT fT;have ab:IntKind.i64.wrap ((i*8).tdiv 64)=i / 8:=by rw [ct fT,zf fT fT];omega
  have a6:IntKind.i64.wrap (96+2*t+i / 8)=96+2*t+i / 8:=zf fT fT;have gO:(i*8).tmod 64=i % 8*8:=by rw [bX fT];omega
  refine' walkW (zat J jS ab a6 gO) (za zee <| za zde <| zb _)
@[go_sem] def zdW:Ent Tryz.prog 396:= .m2 (intT .i64) (intT .i64) zxn
def zo5:∀k<3,∀l<256,putN (k*72057594037927936+l) 8= [UInt8.ofNat k,0,0,0]++putN l 4:=iD
def zxo:∀k<3,∀l<256,ibits .or .u64 (ishl .u64 ((k:Nat):Int) 56) ((l:Nat):Int)=((k*72057594037927936+l:Nat):Int):=iD
def zuC (x:Ent2) (h:entOk x=true):AC 443 [entA x] (.d (.str (zfo x))):=by
 refine fbod func443 ntmps443 (λbase=>?_);obtain ⟨J,qk,ql⟩:=zfL h;obtain ⟨kind,loc⟩:=x;simp only at J qk ql;obtain ⟨k,rfl⟩:∃k:Nat,kind=k:=⟨kind.toNat,fT⟩
 obtain ⟨l,rfl⟩:∃l:Nat,loc=l:=⟨loc.toNat,fT⟩
 have h1:=zo5 k fT l fT;have h2:=zxo k fT l fT;have ab:IntKind.u64.wrap (k:Int)=k:=zA fT fT;have a6:IntKind.u64.wrap (l:Int)=l:=zA fT fT;refine' walkW (zr ab a6 h2 @zgw natC h1) (za zaJ <| zb _);rfl
@[go_sem] def zdo:Ent Tryz.prog 443:= .m1 zhA zuC
def zAg (n:Nat):ishr .u64 (n:Int) 56=((n / 72057594037927936:Nat):Int):=by unfold ishr;rw [show min ((56:Int).toNat) IntKind.u64.bits=56 from rfl];rw [eP _ gb];norm_cast
def zAh (n:Nat) (J:n<18446744073709551616):ibits .and .u64 (n:Int) 72057594037927935=((n % 72057594037927936:Nat):Int):=by show IntKind.u64.wrap (((BitVec.ofInt 64 (n:Int)&&& BitVec.ofInt 64 72057594037927935).toNat:Nat):Int)=_;have h2:BitVec.ofInt 64 72057594037927935=BitVec.ofNat 64 72057594037927935:=gb;rw [h2,cL,dx,bR,bR];rw [bC fT,show 72057594037927935 % 2 ^ 64=2 ^ 56 - 1 by decide,dX,zA fT fT]
def zq5 (e f g h:UInt8):putN (takeN [e,f,g,h]) 4= [e,f,g,h]:=by
 simp only [takeN,putN,List.foldl,bh,bf];have:=e.toNat_lt;have:=f.toNat_lt;have:=g.toNat_lt;have:=h.toNat_lt
 have key:∀ (n:Nat) (c:UInt8),n % 256=c.toNat->UInt8.ofNat n=c:=λn c hh=>by apply eW.1;rw [UInt8.toNat_ofNat'];simpa using hh
 rw [key _ e fT,key _ f fT,key _ g fT,key _ h fT]
def zAi (s:Txt) (hs:s.length=8):entT s=if entOk ⟨((takeN s / 72057594037927936:Nat):Int),((takeN s % 72057594037927936:Nat):Int)⟩=true then (⟨((takeN s / 72057594037927936:Nat):Int),((takeN s % 72057594037927936:Nat):Int)⟩,0) else (⟨0,0⟩,14):=by
 match s,hs with
 | [a,b,c,d,e,f,g,h],_=>
  obtain ⟨L,hL⟩:∃L,L=takeN [e,f,g,h]:=⟨_,rfl⟩
  have hL4:L<4294967296:=by
   have h1:=zdw (l:= [e,f,g,h]) (i:=4) fZ
   have h2:256 ^ 4=4294967296:=gb
   omega
  have hpt:putN L 4= [e,f,g,h]:=by rw [hL];exact zq5 e f g h
  have ha:=a.toNat_lt;have hb:=b.toNat_lt;have hc:=c.toNat_lt;have hd:=d.toNat_lt
  have hn:takeN [a,b,c,d,e,f,g,h]=((a.toNat*256+b.toNat)*256+c.toNat)*256*4294967296+d.toNat*4294967296+L:=by
   rw [hL]
   simp only [takeN,List.foldl]
   omega
  rw [hn]
  have h1:(((a.toNat*256+b.toNat)*256+c.toNat)*256*4294967296+d.toNat*4294967296+L) / 72057594037927936=a.toNat:=fT
  have h2:(((a.toNat*256+b.toNat)*256+c.toNat)*256*4294967296+d.toNat*4294967296+L) % 72057594037927936=(b.toNat*256+c.toNat)*256*4294967296+d.toNat*4294967296+L:=fT
  rw [h1,h2]
  have he:entOf [a,b,c,d,e,f,g,h]=⟨(a.toNat:Int),(L:Int)⟩:=by rw [hL];rfl
  have hby:zfo ⟨(a.toNat:Int),(L:Int)⟩= [a,0,0,0,e,f,g,h]:=by
   rw [zfo]
   simp only [aw,hpt]
   rw [show UInt8.ofNat a.toNat=a by simp]
   rfl
  rw [entT,he,hby]
  by_cases hz:b=0∧c=0∧d=0
  ·obtain ⟨rfl,rfl,rfl⟩:=hz
   simp only [UInt8.toNat_zero,dj,bL]
   cases hk:entOk ⟨(a.toNat:Int),(L:Int)⟩<;>simp
  ·have hne:([a,0,0,0,e,f,g,h]:Txt)≠ [a,b,c,d,e,f,g,h]:=by
    intro hh
    simp only [aX,bt] at hh
    exact hz ⟨hh.1.symm,hh.2.1.symm,hh.2.2.1.symm⟩
   rw [aa (.inr hne),U]
   intro hk
   obtain ⟨_,_,hlt⟩:=zfL hk
   simp only at hlt
   apply hz
   have hb0:b.toNat=0∧c.toNat=0∧d.toNat=0:=fT
   exact ⟨eW.1 hb0.1,eW.1 hb0.2.1,eW.1 hb0.2.2⟩
def zCO (d:Disk) (p:Plan) (t i:Int) (h:DP d p):AC 358 [diskA d,planA p,.d (.int .i64 t),.d (.int .i64 i)] (.tup [entA (eget d p t i).1,.d (.int .i64 (eget d p t i).2)]):=by
 refine fbod func358 ntmps358 (λbase=>?_);refine' EN;by_cases J:eRef t i=true
 .refine' HA;rw [eget,aa J]
 refine' FN;obtain ⟨A,hA⟩:∃A,A=96+2*t+i / 8:=⟨_,rfl⟩
 have kG:eget d p t i=if (plook d p A).2≠0 then (⟨0,0⟩,(plook d p A).2) else entT (((plook d p A).1.take (i % 8*8+8).toNat).drop (i % 8*8).toNat):=by rw [eget,U jH,hA]
 by_cases he:(plook d p A).2=0
 .refine' IM;obtain ⟨S,hS⟩:∃S,S=((plook d p A).1.drop (i % 8*8).toNat).take 8:=⟨_,rfl⟩
  have xN:((plook d p A).1.take (i % 8*8+8).toNat).drop (i % 8*8).toNat=S:=by rw [cw,hS,show (i % 8*8+8).toNat - (i % 8*8).toNat=8 by omega]
  rw [xN] at kG;have nS:S.length=8:=by rw [hS,az,ak];omega
  rw [zAi S nS] at kG;have nU:=zdw (l:=S) (i:=8) fT;have rB:=zga (s:=(plook d p A).1.drop (i % 8*8).toNat) (z:=8) 8 rfl fT fT gG;rw [<-hS] at rB;obtain ⟨n,hn⟩:∃n,n=takeN S:=⟨_,rfl⟩
  rw [<-hn] at rB kG nU;have ly:=zAg n;have pE:=zAh n fT;have ab:IntKind.i64.wrap ((n / 72057594037927936:Nat):Int)=((n / 72057594037927936:Nat):Int):=zf fT fT;have a6:IntKind.i64.wrap ((n % 72057594037927936:Nat):Int)=((n % 72057594037927936:Nat):Int):=zf fT fT;have ru:((plook d p A).1.drop (i % 8*8).toNat).length<=64:=gG;have a7:List.take (plook d p A).1.length (plook d p A).1=(plook d p A).1:=aL;obtain ⟨x,hx⟩:∃x:Ent2,x=⟨((n / 72057594037927936:Nat):Int),((n % 72057594037927936:Nat):Int)⟩:=⟨_,rfl⟩
  rw [<-hx] at kG;have mB:((n / 72057594037927936:Nat):Int)=x.kind:=by rw [hx]
  have kZ:((n % 72057594037927936:Nat):Int)=x.loc:=by rw [hx]
  rw [mB] at ab ly;rw [kZ] at a6 pE;refine' walkW (zr j9 hA.symm hb rB a7 (zB ly pE ab a6)) (za zdW <| za zbc <| za zaN <| za zdV <| za zdo <| za zcb <| zb _);all_goals (rw [kG];simp_all;done)
 .have hb:((plook d p A).2 !=0)=true:=by simpa using he
  rw [aa he] at kG;refine' walkW (zp j9 hA.symm hb) (za zdW <| za zbc <| za zaN <| za zdV <| za zdo <| za zcb <| zb _);rw [kG]
@[go_sem] def zc2:Ent Tryz.prog 358:= .m4 zC z7 (intT .i64) (intT .i64) zCO
def zCP (d:Disk) (p:Plan) (t i:Int) (x:Ent2) (h:DP d p):AC 417 [diskA d,planA p,.d (.int .i64 t),.d (.int .i64 i),entA x] (.tup [planA (eset d p t i x).1,.d (.int .i64 (eset d p t i x).2)]):=by
 refine fbod func417 ntmps417 (λbase=>?_);refine' Hk;by_cases J:eRef t i=true
 .refine' HA;rw [eset,aa J]
 refine' FN;by_cases hx:entOk x=true
 .have hl:=zjt x;refine' walkW (zp j9 hx hl) (za zdW <| za zbc <| za zaN <| za zdV <| za zdo <| za zcb <| zb _);rw [eset,U jH,U Cj]
 .have hx:entOk x=false:=by simpa using hx
  refine' walkW (zg j9 hx) (za zdW <| za zbc <| za zaN <| za zdV <| za zdo <| za zcb <| zb _);rw [eset,U jH,aa hx]
@[go_sem] def zef:Ent Tryz.prog 417:= .m5 zC z7 (intT .i64) (intT .i64) zhA zCP
def zAj (d:Disk) (p:Plan) (l1 g:Int) (h:DP d p):AC 312 [diskA d,planA p,.d (.int .i64 l1),.d (.int .i64 g)] (.tup [entA (elook d p l1 g).1,.d (.int .i64 (elook d p l1 g).2)]):=by
 refine fbod func312 ntmps312 (λbase=>?_);by_cases hg:g<0\/64<=g
 .have J:(decide (g<0)||decide (64<=g))=true:=by simpa using hg
  refine' walkW J (za zc2 <| zb _);rw [elook,aa hg]
 .refine' FO;refine' walkW (zp J ab a6) (za zc2 <| zb _);all_goals (rw [elook,U hg];by_cases e1:(eget d p l1 (g / 16)).2=0<;>by_cases e2:(eget d p l1 (g / 16)).1.kind=2<;>by_cases e3:(eget d p l1 (g / 16)).1.kind=0<;>simp_all;done)
@[go_sem] def zN:Ent Tryz.prog 312:= .m4 zC z7 (intT .i64) (intT .i64) zAj
def zuD (p:Plan) (i:Int) (_:True):AC 440 [planA p,.d (.int .i64 i)] (.tup [.d (.str z64),.d (.int .i64 0)]):=by refine bod func440 ntmps440 (λbase=>?_);refine' walkW fx (za zaz <| za zde <| za zbc <| zb _);rfl
@[go_sem] def zcw:Ent Tryz.prog 440:= .m2 z7 (intT .i64) zuD
def zxp (q:Plan) (i:Int) (d:Disk) (a:Int) (J:DiskOk d) (hq:PlanOk q) (hl:q.targets.length=q.texts.length) (h0:0<=a) (h1:a<256) (h2:0<=i) (h3:i<2):ACall Tryz.prog 442 0 [planA q,.d (.int .i64 i),.dp (diskC d),.dp [.d (.int .i64 a)]] [] (λr _=>r= .tup [.d (.str (plook d q (96+2*a+i)).1),.d (.int .i64 (plook d q (96+2*a+i)).2)]):=by refine bod func442 ntmps442 (λbase=>?_);have ab:IntKind.i64.wrap (96+2*a+i)=96+2*a+i:=zf fT fT;refine' walkW ab (za zaz <| za zde <| za zbc <| zb _)
@[go_sem] def zdf:Ent Tryz.prog 442:= .ofL (consL z7 (consL (intT .i64) (consL zwB (consL (dpT (consL (intT .i64) nilL) (λp=>p) (λp=>p) (λ_=>rfl)) nilL)))) (λ(q,i,d,(a,_),_)=>(DiskOk d)/\(PlanOk q)/\(q.targets.length=q.texts.length)/\(0<=a)/\(a<256)/\(0<=i)/\(i<2)) (λ(q,i,d,(a,_),_)=> .tup [.d (.str (plook d q (96+2*a+i)).1),.d (.int .i64 (plook d q (96+2*a+i)).2)]) (λ(q,i,d,(a,_),_) hp=>⟨rfl,zxp q i d a hp.1 hp.2.1 hp.2.2.1 hp.2.2.2.1 hp.2.2.2.2.1 hp.2.2.2.2.2.1 hp.2.2.2.2.2.2⟩)
def zxq (p:Plan) (t:Int) (hp:pfit p=true) (j3:0<=t) (iG:t<256):ACall Tryz.prog 439 0 [planA p,.d (.int .i64 t),.fn (.func 440) [] []] [] (λr _=>r= .tup [planA (zct p t (λ_ _=>(z64,0)) 2 0 p).1,.d (.int .i64 (zct p t (λ_ _=>(z64,0)) 2 0 p).2)]):=by
 refine fbod func439 ntmps439 (λbase=>?_);obtain ⟨f,hf⟩:∃f:Plan->Int->Txt×Int,f=λ_ _=>(z64,0):=⟨_,rfl⟩
 rw [<-hf];refine' walkW fx (za zcw <| za zdf <| za zde <| za zec <| zb _);refine zk (λq: { q:Nat×Plan // q.1<=2/\pfit q.2=true/\zct p t f 2 0 p=zct p t f (2 - q.1) q.1 q.2 } =>⟨[(1,true,.d (.int .i64 t)),(2,true,.fn (.func 440) [] []),(3,true,.vp 0 0),(6,true,.vp 1 0),(8,true,.vp 2 0),(13,true,.d (.int .i64 q.1.1))],[(2,(.var [.d (.sl 1 (q.1.2.targets.map intD)),.d (.sl 1 (q.1.2.texts.map strD))])),(1,.var [.nils 1,.nils 1]),(0,(.var [.d (.sl 1 (p.targets.map intD)),.d (.sl 1 (p.texts.map strD))]))],some []⟩) (λq=>2 - q.1.1) ⟨(0,p),ad 2,hp,rfl⟩ le1 (λq=>?_);refine' DO;rcases aO i 2 with ao|gU
 .refine' GP;refine' CO;refine' Fm;rw [zhk p t f i q ao] at gq;refine' HS;refine' walkW (zg J ab) (za zcw <| za zdf <| za zde <| za zec <| zb _)
  .have hc:(pset q (96+2*t+i) z64).2≠0:=by simpa using hc
   rw [gq,aa hc]
  .refine' FJ
 .refine' F6
@[go_sem] def zkD:Ent Tryz.prog 439:= .ofL (consL z7 (consL (intT .i64) (consL (fnT 440 nilL) nilL))) (λ(p,t,_,_)=>(pfit p=true)/\(0<=t)/\(t<256)) (λ(p,t,_,_)=> .tup [planA (zct p t (λ_ _=>(z64,0)) 2 0 p).1,.d (.int .i64 (zct p t (λ_ _=>(z64,0)) 2 0 p).2)]) (λ(p,t,_,_) hp=>⟨rfl,zxq p t hp.1 hp.2.1 hp.2.2⟩)
def zxr (p:Plan) (t:Int) (d:Disk) (a:Int) (h:DP d p) (j3:0<=t) (iG:t<256) (h0:0<=a) (h1:a<256):ACall Tryz.prog 439 4 [planA p,.d (.int .i64 t),.fn (.func 442) [] [.vp 0 0,.vp 2 0]] [(3,.var [.nils 1,.nils 1]),(2,.var [.d (.int .i64 a)]),(1,(.var [.d (.sl 1 (p.targets.map intD)),.d (.sl 1 (p.texts.map strD))])),(0,(.var [.d (.str d.data),.d (.sl 2 (d.cache.map putD)),.d (.int .i64 d.fuse),.d (.bool d.off),.d (.sl 1 (d.bad.map intD))]))] (λr h'=>r= .tup [planA (zct p t (λq i=>plook d q (96+2*a+i)) 2 0 p).1,.d (.int .i64 (zct p t (λq i=>plook d q (96+2*a+i)) 2 0 p).2)]/\h'= [(3,.var [.nils 1,.nils 1]),(2,.var [.d (.int .i64 a)]),(1,(.var [.d (.sl 1 (p.targets.map intD)),.d (.sl 1 (p.texts.map strD))])),(0,(.var [.d (.str d.data),.d (.sl 2 (d.cache.map putD)),.d (.int .i64 d.fuse),.d (.bool d.off),.d (.sl 1 (d.bad.map intD))]))]):=by
 refine zD (λi=>decide (i<4)) ?_;refine bod func439 ntmps439 (λbase=>?_);have hp:=h.p;have ni:=h.dok;refine' Iz;rw [<-hf];refine' walkW fx (za zcw <| za zdf <| za zde <| za zec <| zb _);refine zk (λq: { q:Nat×Plan // q.1<=2/\pfit q.2=true/\zct p t f 2 0 p=zct p t f (2 - q.1) q.1 q.2 } =>⟨[(1,true,.d (.int .i64 t)),(2,true,.fn (.func 442) [] [.vp 0 0,.vp 2 0]),(3,true,.vp 4 0),(6,true,.vp 5 0),(8,true,.vp 6 0),(13,true,.d (.int .i64 q.1.1))],[(6,(.var [.d (.sl 1 (q.1.2.targets.map intD)),.d (.sl 1 (q.1.2.texts.map strD))])),(5,.var [.nils 1,.nils 1]),(4,(.var [.d (.sl 1 (p.targets.map intD)),.d (.sl 1 (p.texts.map strD))])),(3,.var [.nils 1,.nils 1]),(2,.var [.d (.int .i64 a)]),(1,(.var [.d (.sl 1 (p.targets.map intD)),.d (.sl 1 (p.texts.map strD))])),(0,(.var [.d (.str d.data),.d (.sl 2 (d.cache.map putD)),.d (.int .i64 d.fuse),.d (.bool d.off),.d (.sl 1 (d.bad.map intD))]))],some []⟩) (λq=>2 - q.1.1) ⟨(0,p),ad 2,hp,rfl⟩ le1 (λq=>?_);refine' DO;have pF:DP d q:=⟨h.d,hq⟩
 rcases aO i 2 with ao|gU
 .refine' GP;refine' CO;refine' Fm;rw [zhk p t f i q ao] at gq;have jJ:f q i=plook d q (96+2*a+i):=by rw [hf]
  simp only [jJ] at gq;by_cases he:(plook d q (96+2*a+i)).2=0
  .have hb:((plook d q (96+2*a+i)).2 !=0)=false:=by simpa using he
   have gV:=zf9 pF he;rw [U gp] at gq;refine' walkW (zp J ab hb) (za zcw <| za zdf <| za zde <| za zec <| zb _)
   .have hc:(pset q (96+2*t+i) (plook d q (96+2*a+i)).1).2≠0:=by simpa using hc
    rw [aa hc] at gq;rw [gq]
   .have hc:¬(pset q (96+2*t+i) (plook d q (96+2*a+i)).1).2≠0:=by simpa using hc
    rw [U hc] at gq;refine' Iv
  .have hb:((plook d q (96+2*a+i)).2 !=0)=true:=by simpa using he
   rw [aa gp] at gq;refine' walkW (zg J hb) (za zcw <| za zdf <| za zde <| za zec <| zb _);rw [gq]
 .refine' F6
def zxs (p:Plan) (t:Int) (hp:pfit p=true):AC 410 [planA p,.d (.int .i64 t)] (.tup [planA (eblank p t).1,.d (.int .i64 (eblank p t).2)]):=by
 refine fbod func410 ntmps410 (λbase=>?_);by_cases J:zac t=true
 .obtain ⟨j3,iG⟩:=hostOk_iff.1 J;have c8:eblank p t=zct p t (λ_ _=>(z64,0)) 2 0 p:=by rw [eblank,U Ck]
  refine' walkW J (za zee <| za zkD <| zb _);rw [c8]
 .have J:zac t=false:=by simpa using J
  refine' walkW J (za zee <| za zkD <| zb _);rw [eblank,aa J]
@[go_sem] def zcx:Ent Tryz.prog 410:= .m2 z7 (intT .i64) zxs
def zAk (d:Disk) (p:Plan) (a t:Int) (h:DP d p):AC 413 [diskA d,planA p,.d (.int .i64 a),.d (.int .i64 t)] (.tup [planA (ecopy d p a t).1,.d (.int .i64 (ecopy d p a t).2)]):=by
 refine fbod func413 ntmps413 (λbase=>?_);by_cases hk:zac a=false\/zac t=false
 .have J:(!zac a|| !zac t)=true:=by simpa using hk
  refine' walkW J (za zee <| zb _);rw [ecopy,aa hk]
 .have J:(!zac a|| !zac t)=false:=by simpa using hk
  have rA:ecopy d p a t=zct p t (λq i=>plook d q (96+2*a+i)) 2 0 p:=by rw [ecopy,U hk]
  refine' HL;refine' walkW (zp J hk.1 hk.2) (za zee <| zb _);refine ((zxr p t d a h j3 iG qk ql).whole (zV rfl) fT uz).mono ?_;refine' Cp;refine' Cl;refine' walkW fx (za zee <| zb _);rw [rA]
@[go_sem] def zdp:Ent Tryz.prog 413:= .m4 zC z7 (intT .i64) (intT .i64) zAk
end
end Go.Aw
