/-
 Parts of the proof: lemmas.
-/
import Derived.Test.YtgldbfelccddbaaGreatPart13
set_option maxRecDepth 100000
set_option maxHeartbeats 2000000
set_option linter.unusedSimpArgs false
set_option linter.unusedVariables false
namespace Go.Aw
open Go Go.Proofs
structure Ent2 where
 kind:Int
 loc:Int
 deriving DecidableEq
def entA (x:Ent2):AV:= .agg [.d (.int .i64 x.kind),.d (.int .i64 x.loc)]
attribute [go_sem] entA
theorem zxN (x:Ent2):Ent2.mk x.kind x.loc=x:=rfl
noncomputable def zjJ:PT Ent2:=aggT (consL (intT .i64) (consL (intT .i64) nilL)) (fun p=>⟨p.1,p.2.1⟩) (fun x=>(x.kind,x.loc,())) (fun _=>rfl)
attribute [go_sem] zjJ
attribute [go_sem] zxN
def entOk (x:Ent2):Bool:=if x.kind=1 then zaA x.loc else (x.kind==0||x.kind==2)&&x.loc==0
def zgk (x:Ent2):Txt:= [UInt8.ofNat x.kind.toNat,0,0,0]++putN x.loc.toNat 4
def entOf (s:Txt):Ent2:=⟨((s.getD 0 0).toNat:Int),((takeN ((s.drop 4).take 4):Nat):Int)⟩
def entT (s:Txt):Ent2×Int:=if entOk (entOf s)=false∨zgk (entOf s)≠s then (⟨0,0⟩,14) else (entOf s,0)
def eRef (table i:Int):Bool:= !zaA table||decide (i<0)||decide (16≤i)
def eget (d:Disk) (p:Plan) (table i:Int):Ent2×Int:=
 if eRef table i then (⟨0,0⟩,10) else if (plook d p (96+2*table+i / 8)).2≠0 then (⟨0,0⟩,(plook d p (96+2*table+i / 8)).2)
 else entT (((plook d p (96+2*table+i / 8)).1.take (i % 8*8+8).toNat).drop (i % 8*8).toNat)
def eset (d:Disk) (p:Plan) (table i:Int) (x:Ent2):Plan×Int:=
 if eRef table i then (p,10) else if entOk x=false then (p,23) else zil d p (96+2*table+i / 8) (i % 8*8) (zgk x)
def zeF (p:Plan) (tt:Int) (f:Plan→Int→Txt×Int):Nat→Int→Plan→Plan×Int
 |0,_,q=>(q,0)
 |m+1,i,q=>if (f q i).2≠0 then (p,(f q i).2) else if (pset q (96+2*tt+i) (f q i).1).2≠0 then (p,(pset q (96+2*tt+i) (f q i).1).2)
  else zeF p tt f m (i+1) (pset q (96+2*tt+i) (f q i).1).1
def z64:Txt:=List.replicate 64 0
theorem zvV:bytesOf [[D.int .u8 0],[D.int .u8 0],[D.int .u8 0],[D.int .u8 0],[D.int .u8 0],[D.int .u8 0],[D.int .u8 0],[D.int .u8 0],[D.int .u8 0],[D.int .u8 0],[D.int .u8 0],[D.int .u8 0],[D.int .u8 0],[D.int .u8 0],[D.int .u8 0],[D.int .u8 0],[D.int .u8 0],[D.int .u8 0],[D.int .u8 0],[D.int .u8 0],[D.int .u8 0],[D.int .u8 0],[D.int .u8 0],[D.int .u8 0],[D.int .u8 0],[D.int .u8 0],[D.int .u8 0],[D.int .u8 0],[D.int .u8 0],[D.int .u8 0],[D.int .u8 0],[D.int .u8 0],[D.int .u8 0],[D.int .u8 0],[D.int .u8 0],[D.int .u8 0],[D.int .u8 0],[D.int .u8 0],[D.int .u8 0],[D.int .u8 0],[D.int .u8 0],[D.int .u8 0],[D.int .u8 0],[D.int .u8 0],[D.int .u8 0],[D.int .u8 0],[D.int .u8 0],[D.int .u8 0],[D.int .u8 0],[D.int .u8 0],[D.int .u8 0],[D.int .u8 0],[D.int .u8 0],[D.int .u8 0],[D.int .u8 0],[D.int .u8 0],[D.int .u8 0],[D.int .u8 0],[D.int .u8 0],[D.int .u8 0],[D.int .u8 0],[D.int .u8 0],[D.int .u8 0],[D.int .u8 0]]=z64:=rfl
def eblank (p:Plan) (table:Int):Plan×Int:=if zaA table=false then (p,10) else zeF p table (fun _ _=>(z64,0)) 2 0 p
def ecopy (d:Disk) (p:Plan) (fr tt:Int):Plan×Int:=if zaA fr=false∨zaA tt=false then (p,10) else zeF p tt (fun q i=>plook d q (96+2*fr+i)) 2 0 p
def elook (d:Disk) (p:Plan) (l1 guest:Int):Ent2×Int:=
 if guest<0∨64≤guest then (⟨0,0⟩,10) else if (eget d p l1 (guest / 16)).2≠0 then (⟨0,0⟩,(eget d p l1 (guest / 16)).2)
 else if (eget d p l1 (guest / 16)).1.kind=2 then (⟨0,0⟩,14) else if (eget d p l1 (guest / 16)).1.kind=0 then (⟨0,0⟩,0)
 else eget d p (eget d p l1 (guest / 16)).1.loc (guest % 16)
theorem ztq {x:Ent2} (h:entOk x=true):(x.kind=0∨x.kind=1∨x.kind=2)∧0≤x.loc∧x.loc<256:=by
 unfold entOk at h
 split at h
 ·rename_i hk
  have:=hostOk_iff.1 h
  omega
 ·simp only [Bool.and_eq_true,Bool.or_eq_true,beq_iff_eq] at h
  omega
theorem ztr {d:Disk} {p:Plan} {t i:Int} (h:(eget d p t i).2=0):entOk (eget d p t i).1=true∧zaA t=true∧0≤i∧i<16:=by
 unfold eget at h ⊢
 split at h
 ·cases h
 rename_i h0
 rw [if_neg h0]
 split at h
 ·rename_i h1;exact absurd h h1
 rename_i h1
 rw [if_neg h1]
 unfold entT at h ⊢
 split at h
 ·cases h
 rename_i h2
 rw [if_neg h2]
 simp only [not_or,Bool.not_eq_false] at h2
 refine ⟨h2.1,?_⟩
 simp only [eRef,Bool.or_eq_true,decide_eq_true_eq,not_or,Bool.not_eq_true',Bool.not_eq_false] at h0
 exact ⟨h0.1.1,U,U⟩
theorem zmu (x:Ent2):(zgk x).length=8:=by rw [zgk,List.length_append,zu];rfl
theorem zvW {d:Disk} {p:Plan} {t i:Int} {x:Ent2} (h:pfit p=true):pfit (eset d p t i x).1=true:=by
 unfold eset
 split
 ·exact h
 split
 ·exact h
 ·exact zjC h
theorem zg2 {p:Plan} {tt:Int} {f:Plan→Int→Txt×Int} (h:pfit p=true):∀ (m:Nat) (i:Int) (q:Plan),pfit q=true→pfit (zeF p tt f m i q).1=true
 |0,_,_,hq=>hq
 |m+1,i,q,hq=>by
  rw [zeF]
  split
  ·exact h
  split
  ·exact h
  ·exact zg2 h m _ _ (zfn hq)
theorem DP.eset {d:Disk} {p:Plan} (h:DP d p) (t i:Int) (x:Ent2):DP d (eset d p t i x).1:=⟨h.d,zvW h.p⟩
theorem DP.eblank {d:Disk} {p:Plan} (h:DP d p) (t:Int):DP d (eblank p t).1:=⟨h.d,by unfold Aw.eblank;split;exact h.p;exact zg2 h.p _ _ _ h.p⟩
theorem DP.ecopy {d:Disk} {p:Plan} (h:DP d p) (a b:Int):DP d (ecopy d p a b).1:=⟨h.d,by unfold Aw.ecopy;split;exact h.p;exact zg2 h.p _ _ _ h.p⟩
theorem zkU (k:Int) (_:True):AC 425 [.d (.int .i64 k)] (.d (.bool (zaA k))):=by
 refine bod Tryz.func425 Tryz.ntmps425 (fun base=>?_)
 refine' zc fx
 rfl
@[go_sem] noncomputable def zaq:Ent Tryz.prog 425:= .m1 (intT .i64) zkU
theorem zn8 (x:Ent2) (_:True):AC 385 [entA x] (.d (.bool (entOk x))):=by
 refine bod Tryz.func385 Tryz.ntmps385 (fun base=>?_)
 refine' walkW fx (za zaq <| zb _)
 ·have hc:x.kind=1:=by simpa using hc
  rw [entOk,if_pos hc]
 ·have hc:¬x.kind=1:=by simpa using hc
  rw [entOk,if_neg hc]
@[go_sem] noncomputable def zbU:Ent Tryz.prog 385:= .m1 zjJ zn8
theorem zkV (t i:Int) (_:True):AC 383 [.d (.int .i64 t),.d (.int .i64 i)] (.d (.bool (eRef t i))):=by
 refine bod Tryz.func383 Tryz.ntmps383 (fun base=>?_)
 refine' walkW fx (za zaq <| zb _)
 rfl
@[go_sem] noncomputable def zbj:Ent Tryz.prog 383:= .m2 (intT .i64) (intT .i64) zkV
theorem zts {t i:Int} (h:eRef t i=false):(0≤t∧t<256)∧0≤i∧i<16:=by
 simp only [eRef,Bool.or_eq_false_iff,Bool.not_eq_false',decide_eq_false_iff_not] at h
 exact ⟨hostOk_iff.1 h.1.1,U,U⟩
theorem zn9 (t i:Int) (hp:0≤t∧t<256∧0≤i∧i<16):AC 384 [.d (.int .i64 t),.d (.int .i64 i)] (.tup [.d (.int .i64 (96+2*t+i / 8)),.d (.int .i64 (i % 8*8))]):=by
 obtain ⟨h0,h1,h2,h3⟩:=hp
 refine bod Tryz.func384 Tryz.ntmps384 (fun base=>?_)
 have hw1:IntKind.i64.wrap (i.tdiv 8)=i / 8:=by rw [Int.tdiv_eq_ediv_of_nonneg h2,zi U U]
 have hw2:IntKind.i64.wrap (96+2*t+i / 8)=96+2*t+i / 8:=zi U U
 have hw3:i.tmod 8=i % 8:=Int.tmod_eq_emod_of_nonneg h2
 have hw4:IntKind.i64.wrap (i % 8*8)=i % 8*8:=zi U U
 refine' walkW (zE hw1 hw2 hw3 hw4) (za zX <| zb _)
@[go_sem] noncomputable def zbV:Ent Tryz.prog 384:= .m2 (intT .i64) (intT .i64) zn9
theorem zoa (x:Ent2) (h:entOk x=true):AC 386 [entA x] (.d (.str (zgk x))):=by
 refine fbod Tryz.func386 Tryz.ntmps386 (fun base=>?_)
 obtain ⟨hk,ha0,ha1⟩:=ztq h
 have hw1:IntKind.u8.wrap x.kind=((UInt8.ofNat x.kind.toNat).toNat:Int):=by
  rw [← u8_of,show (x.kind.toNat:Int)=x.kind by omega]
 have hw2:IntKind.u64.wrap x.loc=x.loc:=zA U U
 have hl:=zu x.loc.toNat 4
 have hbo:bytesOf [[D.int .u8 ((UInt8.ofNat x.kind.toNat).toNat:Int)],[D.int .u8 0],[D.int .u8 0],[D.int .u8 0]]= [UInt8.ofNat x.kind.toNat,0,0,0]:=by rcases hk with hh|hh|hh<;>(rw [hh];rfl)
 refine' walkW (zaB hw1 hw2 @zeR hl hbo) (za zt <| zb _)
 ·rfl
 ·rfl
@[go_sem] noncomputable def zbW:Ent Tryz.prog 386:= .m1 zjJ zoa
theorem ztt (s:Txt):0≤(entOf s).kind∧(entOf s).kind≤255∧0≤(entOf s).loc∧(entOf s).loc≤4294967295:=by
 have h1:=zdf (l:=(s.drop 4).take 4) (i:=4) ax
 have h2:=(s.getD 0 0).toNat_lt
 simp only [entOf]
 omega
theorem ztu (d:Disk) (p:Plan) (t i:Int) (h:DP d p):AC 338 [diskA d,planA p,.d (.int .i64 t),.d (.int .i64 i)] (.tup [entA (eget d p t i).1,.d (.int .i64 (eget d p t i).2)]):=by
 refine fbod Tryz.func338 Tryz.ntmps338 (fun base=>?_)
 have h1:=h.dok
 have h2:=h.pok
 have h3:=h.plen
 by_cases hr:eRef t i=true
 ·refine' walkW hr (za zbj <| za zbV <| za zQ <| za zp <| za zbU <| za zbW <| za za9 <| zb _)
  rw [eget,if_pos hr]
 have hr:eRef t i=false:=aA
 obtain ⟨⟨ht0,ht1⟩,hi0,hi1⟩:=zts hr
 obtain ⟨A,hA⟩:∃A,A=96+2*t+i / 8:=⟨_,rfl⟩
 have hrg0:eget d p t i=if (plook d p A).2≠0 then (⟨0,0⟩,(plook d p A).2) else entT (((plook d p A).1.take (i % 8*8+8).toNat).drop (i % 8*8).toNat):=by
  rw [eget,if_neg di,hA]
 by_cases he:(plook d p A).2=0
 ·have hb:((plook d p A).2 !=0)=false:=by simpa using he
  have h64:=zkS h he
  rw [if_neg aj] at hrg0
  have hw:IntKind.i64.wrap (i % 8*8+8)=i % 8*8+8:=zi U U
  obtain ⟨S,hS⟩:∃S,S=((plook d p A).1.take (i % 8*8+8).toNat).drop (i % 8*8).toNat:=⟨_,rfl⟩
  rw [← hS] at hrg0
  have hSl:S.length=8:=by rw [hS,List.length_drop,List.length_take];omega
  have hrr:=ztt S
  have htk:List.take S.length S=S:=List.take_length
  have ht4:=zin (s:=S.drop 4) (z:=4) 4 rfl U U ar
  have hwk:IntKind.i64.wrap (entOf S).kind=(entOf S).kind:=zi U U
  have hwl:IntKind.i64.wrap (entOf S).loc=(entOf S).loc:=zi U U
  simp only [entOf] at hwk hwl hrr
  have hL2:(List.drop 4 S).length≤8:=ar
  refine' walkW (zo hr hA.symm hb hw hS.symm (zE htk ht4 hwk hwl)) (za zbj <| za zbV <| za zQ <| za zp <| za zbU <| za zbW <| za za9 <| zb _)
  all_goals (rw [hrg0,entT];clear ht4 hwk hwl htk;simp_all [entOf];done)
 ·have hb:((plook d p A).2 !=0)=true:=by simpa using he
  rw [if_pos he] at hrg0
  refine' walkW (zq hr hA.symm hb) (za zbj <| za zbV <| za zQ <| za zp <| za zbU <| za zbW <| za za9 <| zb _)
  rw [hrg0]
@[go_sem] noncomputable def zcE:Ent Tryz.prog 338:= .m4 zV zaY (intT .i64) (intT .i64) ztu
theorem ztv (d:Disk) (p:Plan) (t i:Int) (x:Ent2) (h:DP d p):AC 341 [diskA d,planA p,.d (.int .i64 t),.d (.int .i64 i),entA x] (.tup [planA (eset d p t i x).1,.d (.int .i64 (eset d p t i x).2)]):=by
 refine fbod Tryz.func341 Tryz.ntmps341 (fun base=>?_)
 have h1:=h.dok
 have h2:=h.puts
 have h3:=h.p
 by_cases hr:eRef t i=true
 ·refine' walkW hr (za zbj <| za zbV <| za zQ <| za zp <| za zbU <| za zbW <| za za9 <| zb _)
  rw [eset,if_pos hr]
 have hr:eRef t i=false:=aA
 obtain ⟨⟨ht0,ht1⟩,hi0,hi1⟩:=zts hr
 by_cases hx:entOk x=true
 ·have hl:=zmu x
  refine' walkW (zq hr hx hl) (za zbj <| za zbV <| za zQ <| za zp <| za zbU <| za zbW <| za za9 <| zb _)
  rw [eset,if_neg di,if_neg (by rw [hx];exact fun h=>aB)]
 ·have hx:entOk x=false:=by simpa using hx
  refine' walkW (zj hr hx) (za zbj <| za zbV <| za zQ <| za zp <| za zbU <| za zbW <| za za9 <| zb _)
  rw [eset,if_neg di,if_pos hx]
@[go_sem] noncomputable def zep:Ent Tryz.prog 341:= .m5 zV zaY (intT .i64) (intT .i64) zjJ ztv
theorem zjK (p:Plan) (tt:Int) (f:Plan→Int→Txt×Int) (i:Nat) (q:Plan) (hi:i<2):zeF p tt f (2 - i) i q=if (f q i).2≠0 then (p,(f q i).2) else if (pset q (96+2*tt+i) (f q i).1).2≠0 then (p,(pset q (96+2*tt+i) (f q i).1).2)
  else zeF p tt f (2 - (i+1)) (i+1:Nat) (pset q (96+2*tt+i) (f q i).1).1:=by
 rw [show 2 - i=(2 - (i+1))+1 by omega,zeF]
 rfl
theorem PlanOk.of {p:Plan} (h:pfit p=true):PlanOk p:=by
 obtain ⟨hl,h24,_⟩:=zbH h
 exact ⟨U,U⟩
theorem zob (p:Plan) (t:Int) (hp:pfit p=true):AC 426 [planA p,.d (.int .i64 t)] (.tup [planA (eblank p t).1,.d (.int .i64 (eblank p t).2)]):=by
 refine fbod Tryz.func426 Tryz.ntmps426 (fun base=>?_)
 by_cases hk:zaA t=true
 ·obtain ⟨ht0,ht1⟩:=hostOk_iff.1 hk
  have hbl:eblank p t=zeF p t (fun _ _=>(z64,0)) 2 0 p:=by rw [eblank,if_neg (by rw [hk];exact fun h=>aB)]
  obtain ⟨f,hf⟩:∃f:Plan→Int→Txt×Int,f=fun _ _=>(z64,0):=⟨_,rfl⟩
  rw [← hf] at hbl
  refine' walkW hk (za zaq <| za zX <| za za7 <| za zQ <| zb _)
  refine zk (fun q: { q:Nat×Plan // q.1≤2∧pfit q.2=true∧eblank p t=zeF p t f (2 - q.1) q.1 q.2 } =>⟨[(1,true,.d (.int .i64 t)),(2,true,.vp 0 0),(4,true,.vp 1 0),(6,true,.vp 2 0),(7,true,.d (.int .i64 q.1.1))],[(2,(.var [.d (.sl 1 (q.1.2.targets.map intD)),.d (.sl 1 (q.1.2.texts.map strD))])),(1,.var [.nils 1,.nils 1]),(0,(.var [.d (.sl 1 (p.targets.map intD)),.d (.sl 1 (p.texts.map strD))]))],some []⟩) (fun q=>2 - q.1.1) ⟨(0,p),Nat.zero_le 2,hp,hbl⟩ le1 (fun q=>?_)
  obtain ⟨⟨i,q⟩,hi,hq,hf2⟩:=q
  simp only at hi hq hf2 ⊢
  have hqo:=PlanOk.of hq
  obtain ⟨hql,hq24,_⟩:=zbH hq
  rcases Nat.lt_or_ge i 2 with hlt|hge
  ·have hcmp:decide ((i:Int)<2)=true:=decide_eq_true U
   have hwi:=zn (i:=i) U
   have hw1:IntKind.i64.wrap (96+2*t+(i:Int))=96+2*t+i:=zi U U
   rw [zjK p t f i q hlt] at hf2
   have hf0:f q i=(z64,0):=by rw [hf]
   simp only [hf0] at hf2
   rw [if_neg (show ¬(0:Int)≠0 by decide)] at hf2
   refine' walkW (zq hcmp hw1 @zvV) (za zaq <| za zX <| za za7 <| za zQ <| zb _)
   ·rfl
   ·have hc:(pset q (96+2*t+i) z64).2≠0:=by simpa using hc
    rw [hf2,if_pos hc]
   ·have hc:¬(pset q (96+2*t+i) z64).2≠0:=by simpa using hc
    rw [if_neg hc] at hf2
    exact ⟨⟨(i+1,(pset q (96+2*t+i) z64).1),U,zfn hq,hf2⟩,lew,af⟩
  ·have hcmp:decide ((i:Int)<2)=false:=decide_eq_false U
   refine' walkW hcmp (za zaq <| za zX <| za za7 <| za zQ <| zb _)
   rw [hf2,show 2 - i=0 by omega]
   rfl
 ·have hk:zaA t=false:=by simpa using hk
  refine' walkW hk (za zaq <| za zX <| za za7 <| za zQ <| zb _)
  rw [eblank,if_pos hk]
@[go_sem] noncomputable def zgl:Ent Tryz.prog 426:= .m2 zaY (intT .i64) zob
theorem zqU (d:Disk) (p:Plan) (a t:Int) (h:DP d p):AC 427 [diskA d,planA p,.d (.int .i64 a),.d (.int .i64 t)] (.tup [planA (ecopy d p a t).1,.d (.int .i64 (ecopy d p a t).2)]):=by
 refine fbod Tryz.func427 Tryz.ntmps427 (fun base=>?_)
 have hp:=h.p
 have hdo:=h.dok
 by_cases hk:zaA a=false∨zaA t=false
 ·have hdec:(!zaA a|| !zaA t)=true:=by simpa using hk
  refine' walkW hdec (za zaq <| za zX <| za za7 <| za zQ <| zb _)
  rw [ecopy,if_pos hk]
 ·have hdec:(!zaA a|| !zaA t)=false:=by simpa using hk
  simp only [not_or,Bool.not_eq_false] at hk
  obtain ⟨ha0,ha1⟩:=hostOk_iff.1 hk.1
  obtain ⟨ht0,ht1⟩:=hostOk_iff.1 hk.2
  have hcp:ecopy d p a t=zeF p t (fun q i=>plook d q (96+2*a+i)) 2 0 p:=by rw [ecopy,if_neg];simp [hk]
  obtain ⟨f,hf⟩:∃f:Plan→Int→Txt×Int,f=fun q i=>plook d q (96+2*a+i):=⟨_,rfl⟩
  rw [← hf] at hcp
  refine' walkW hdec (za zaq <| za zX <| za za7 <| za zQ <| zb _)
  refine zk (fun q: { q:Nat×Plan // q.1≤2∧pfit q.2=true∧ecopy d p a t=zeF p t f (2 - q.1) q.1 q.2 } =>⟨[(2,true,.d (.int .i64 a)),(3,true,.d (.int .i64 t)),(4,true,.vp 0 0),(5,true,.vp 1 0),(8,true,.vp 2 0),(10,true,.vp 3 0),(11,true,.d (.int .i64 q.1.1))],[(3,(.var [.d (.sl 1 (q.1.2.targets.map intD)),.d (.sl 1 (q.1.2.texts.map strD))])),(2,.var [.nils 1,.nils 1]),(1,(.var [.d (.sl 1 (p.targets.map intD)),.d (.sl 1 (p.texts.map strD))])),(0,(.var [.d (.str d.data),.d (.sl 2 (d.cache.map putD)),.d (.int .i64 d.fuse),.d (.bool d.off),.d (.sl 1 (d.bad.map intD))]))],some []⟩) (fun q=>2 - q.1.1) ⟨(0,p),Nat.zero_le 2,hp,hcp⟩ le1 (fun q=>?_)
  obtain ⟨⟨i,q⟩,hi,hq,hf2⟩:=q
  simp only at hi hq hf2 ⊢
  have hqo:=PlanOk.of hq
  obtain ⟨hql,hq24,_⟩:=zbH hq
  rcases Nat.lt_or_ge i 2 with hlt|hge
  ·have hcmp:decide ((i:Int)<2)=true:=decide_eq_true U
   have hwi:=zn (i:=i) U
   have hw1:IntKind.i64.wrap (96+2*t+(i:Int))=96+2*t+i:=zi U U
   have hw2:IntKind.i64.wrap (96+2*a+(i:Int))=96+2*a+i:=zi U U
   rw [zjK p t f i q hlt] at hf2
   have hf0:f q i=plook d q (96+2*a+i):=by rw [hf]
   simp only [hf0] at hf2
   refine' walkW (zq hcmp hw1 hw2) (za zaq <| za zX <| za za7 <| za zQ <| zb _)
   ·have hc:(plook d q (96+2*a+i)).2≠0:=by simpa using hc
    rw [hf2,if_pos hc]
   ·rename_i c0
    have c0:¬(plook d q (96+2*a+i)).2≠0:=by simpa using c0
    have hc:(pset q (96+2*t+i) (plook d q (96+2*a+i)).1).2≠0:=ak
    rw [hf2,if_neg c0,if_pos hc]
   ·rename_i c0
    have c0:¬(plook d q (96+2*a+i)).2≠0:=by simpa using c0
    have hc:¬(pset q (96+2*t+i) (plook d q (96+2*a+i)).1).2≠0:=ak
    rw [if_neg c0,if_neg hc] at hf2
    exact ⟨⟨(i+1,(pset q (96+2*t+i) (plook d q (96+2*a+i)).1).1),U,zfn hq,hf2⟩,lew,af⟩
  ·have hcmp:decide ((i:Int)<2)=false:=decide_eq_false U
   refine' walkW hcmp (za zaq <| za zX <| za za7 <| za zQ <| zb _)
   rw [hf2,show 2 - i=0 by omega]
   rfl
@[go_sem] noncomputable def zhv:Ent Tryz.prog 427:= .m4 zV zaY (intT .i64) (intT .i64) zqU
theorem zqV (d:Disk) (p:Plan) (l1 g:Int) (h:DP d p):AC 268 [diskA d,planA p,.d (.int .i64 l1),.d (.int .i64 g)] (.tup [entA (elook d p l1 g).1,.d (.int .i64 (elook d p l1 g).2)]):=by
 refine fbod Tryz.func268 Tryz.ntmps268 (fun base=>?_)
 by_cases hg:g<0∨64≤g
 ·have hdec:(decide (g<0)||decide (64≤g))=true:=by simpa using hg
  refine' walkW hdec (za zcE <| zb _)
  rw [elook,if_pos hg]
 ·have hdec:(decide (g<0)||decide (64≤g))=false:=by simpa using hg
  have hw1:IntKind.i64.wrap (g.tdiv 16)=g / 16:=ea
  have hw2:g.tmod 16=g % 16:=Int.tmod_eq_emod_of_nonneg U
  refine' walkW (zq hdec hw1 hw2) (za zcE <| zb _)
  all_goals (rw [elook,if_neg hg];simp_all;done)
@[go_sem] noncomputable def zF:Ent Tryz.prog 268:= .m4 zV zaY (intT .i64) (intT .i64) zqV
open Go Go.Proofs
def zpL (d:Disk) (p:Plan) (t:Int):Nat→Int→List Int→List Int×Int
 |0,_,l=>(l,0)
 |m+1,k,l=>if (eget d p t k).2≠0 then ([],(eget d p t k).2) else zpL d p t m (k+1) (if (eget d p t k).1.kind=1 then l++ [(eget d p t k).1.loc] else l)
def ztx (d:Disk) (p:Plan) (l1:Int):Nat→Int→List Int→List Int×Int
 |0,_,l=>(l,0)
 |m+1,i,l=>if (eget d p l1 i).2≠0 then ([],(eget d p l1 i).2) else if (eget d p l1 i).1.kind=2 then ([],14)
  else if (eget d p l1 i).1.kind=0 then ztx d p l1 m (i+1) l
  else if (zpL d p (eget d p l1 i).1.loc 16 0 (l++ [(eget d p l1 i).1.loc])).2≠0 then ([],(zpL d p (eget d p l1 i).1.loc 16 0 (l++ [(eget d p l1 i).1.loc])).2)
  else ztx d p l1 m (i+1) (zpL d p (eget d p l1 i).1.loc 16 0 (l++ [(eget d p l1 i).1.loc])).1
def reach (d:Disk) (p:Plan) (l1:Int):List Int×Int:=ztx d p l1 4 0 []
end Go.Aw
