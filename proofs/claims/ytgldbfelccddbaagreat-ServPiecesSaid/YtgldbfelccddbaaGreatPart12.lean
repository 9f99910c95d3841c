/-
 Parts of the proof: lemmas.
-/
import Derived.Test.YtgldbfelccddbaaGreatPart9
import Derived.Test.YtgldbfelccddbaaGreatPart11
set_option maxRecDepth 100000
set_option maxHeartbeats 2000000
set_option linter.unusedSimpArgs false
set_option linter.unusedVariables false
namespace Go.Aw
open Go Go.Proofs
structure Plan where
 targets:List Int
 texts:List Txt
 deriving DecidableEq
def planA (p:Plan):AV:= .agg [.d (.sl 1 (p.targets.map intD)),.d (.sl 1 (p.texts.map strD))]
def planC (p:Plan):List AV:= [.d (.sl 1 (p.targets.map intD)),.d (.sl 1 (p.texts.map strD))]
attribute [go_sem] planA planC
theorem zvy (p:Plan):Plan.mk p.targets p.texts=p:=rfl
noncomputable def zaY:PT Plan:=aggT (consL (slT 1 intD zf8) (consL (slT 1 strD zeh) nilL)) (fun p=>⟨p.1,p.2.1⟩) (fun x=>(x.targets,x.texts,())) (fun _=>rfl)
attribute [go_sem] zaY
attribute [go_sem] zvy
structure PlanOk (p:Plan):Prop where
 targets:p.targets.length≤9223372036854775807
 texts:p.texts.length≤9223372036854775807
def secOk (at_:Int):Bool:=decide (0≤at_)&&decide (at_<1024)
def pfind (l:List Int) (at_:Int):Int:=idxP (fun x=>x==at_) l 0
def pfitL:List Int→List Int→List Txt→Bool
 |_,[],_=>true
 |seen,t::r,s::q=>secOk t&& !seen.contains t&&((s.length:Int)==64)&&pfitL (seen++ [t]) r q
 |_,_::_,[]=>true
def pfit (p:Plan):Bool:=decide (p.targets.length=p.texts.length)&&decide (p.targets.length≤24)&&pfitL [] p.targets p.texts
def plook (d:Disk) (p:Plan) (at_:Int):Txt×Int:=
 if 0≤pfind p.targets at_ then (p.texts.getD (pfind p.targets at_).toNat [],0) else dread d at_
def pset (p:Plan) (at_:Int) (s:Txt):Plan×Int:=
 if !secOk at_ then (p,10) else if (s.length:Int)≠64 then (p,11)
 else if 0≤pfind p.targets at_ then (⟨p.targets,p.texts.set (pfind p.targets at_).toNat s⟩,0)
 else if 24≤(p.targets.length:Int) then (p,16) else (⟨p.targets++ [at_],p.texts++ [s]⟩,0)
def zil (d:Disk) (p:Plan) (at_:Int) (off:Int) (s:Txt):Plan×Int:=
 if (plook d p at_).2≠0 then (p,(plook d p at_).2)
 else if (overS (plook d p at_).1 off s).2≠0 then (p,(overS (plook d p at_).1 off s).2)
 else pset p at_ (overS (plook d p at_).1 off s).1
def layL (d:Disk):List (Int×Txt)→Disk×Int
 | []=>(d,0)
 |q::r=>if (zaT d q.1 q.2).2≠0 then zaT d q.1 q.2 else layL (zaT d q.1 q.2).1 r
def play (d:Disk) (p:Plan):Disk×Int:=layL d (p.targets.zip p.texts)
theorem zmc {d:Disk} (h:DiskOk d) (at_:Int) (s:Txt):DiskOk (zaT d at_ s).1:=by
 unfold zaT
 repeat' split
 all_goals first|exact h|skip
 ·exact ⟨h.data,h.cache,h.bad,h.fuse0,h.fuse1⟩
 ·rename_i h6
  exact zpB ⟨h.data,ei,h.bad,h.fuse0,h.fuse1⟩
theorem zpF {d:Disk} {at_:Int} (hf:d.cache.all (putOk d)=true) (ht:there d at_=true):(sees d at_).length=64:=by
 obtain ⟨h0,h1⟩:=there_iff.1 ht
 unfold sees
 split
 ·rename_i q hq
  have hm:=List.mem_of_find?_eq_some hq
  have:=List.all_eq_true.1 hf q (List.mem_reverse.1 hm)
  rw [putOk,Bool.and_eq_true] at this
  have:=eq_of_beq this.2
  omega
 ·rw [List.length_take,List.length_drop];omega
theorem zgf {d:Disk} {at_:Int} (hf:d.cache.all (putOk d)=true):(dread d at_).1.length≤64:=by
 unfold dread
 repeat' split
 all_goals first|(simp;done)|skip
 rw [zpF hf (by simp_all)]
 omega
theorem zmd:∀ (t:List Int) (s:List Txt) (seen:List Int),pfitL seen t s=true→t.length=s.length→∀x∈s,x.length=64
 | [],s,seen,_,hl=>by
  have:s= []:=List.length_eq_zero_iff.1 hl.symm
  subst this
  simp
 |t::r,[],seen,_,hl=>aW
 |t::r,s::q,seen,h,hl=>by
  rw [pfitL] at h
  simp only [Bool.and_eq_true] at h
  intro x hx
  rcases List.mem_cons.1 hx with rfl|hx
  ·have:=eq_of_beq h.1.2;omega
  ·exact zmd r q _ h.2 aH x hx
theorem zbH {p:Plan} (h:pfit p=true):p.targets.length=p.texts.length∧p.targets.length≤24∧∀x∈p.texts,x.length=64:=by
 simp only [pfit,Bool.and_eq_true,decide_eq_true_eq] at h
 exact ⟨h.1.1,h.1.2,zmd _ _ _ h.2 h.1.1⟩
theorem zvz {l:List Txt} {n k:Nat} (h:∀x∈l,x.length=n):(l.getD k []).length≤n:=by
 rw [List.getD_eq_getElem?_getD]
 rcases hk:l[k]? with _|x
 ·simp
 ·rw [Option.getD_some,h x (List.mem_of_getElem? hk)]
  exact Nat.le_refl _
theorem zs0 {d:Disk} {p:Plan} {at_:Int} (hf:d.cache.all (putOk d)=true) (hp:pfit p=true):(plook d p at_).1.length≤64:=by
 unfold plook
 split
 ·exact zvz (zbH hp).2.2
 ·exact zgf hf
theorem zme {α:Type} (p:α→Bool):∀ (l:List α) (k:Nat),idxP p l k= -1∨((k:Int)≤idxP p l k∧idxP p l k<((k+l.length:Nat):Int))
 | [],k=> .inl rfl
 | q::l,k=>by
  rw [idxP]
  split
  ·exact .inr ⟨Int.le_refl _,af⟩
  ·rcases zme p l (k+1) with h|⟨h1,h2⟩
   ·exact .inl h
   ·exact .inr ⟨U,dg⟩
theorem zei (l:List Int) (at_:Int):pfind l at_= -1∨∃k:Nat,pfind l at_=k∧k<l.length:=by
 rcases zme (fun x=>x==at_) l 0 with h|⟨h1,h2⟩
 ·exact .inl h
 ·exact .inr ⟨(pfind l at_).toNat,by unfold pfind;omega,by unfold pfind;omega⟩
theorem znY (at_:Int) (_:True):AC 157 [.d (.int .i64 at_)] (.d (.bool (secOk at_))):=by
 refine bod Tryz.func157 Tryz.ntmps157 (fun base=>?_)
 refine' zc fx
 rfl
@[go_sem] noncomputable def zej:Ent Tryz.prog 157:= .m1 (intT .i64) znY
theorem zs1 (p:Plan) (at_:Int) (hp:PlanOk p):AC 158 [planA p,.d (.int .i64 at_)] (.d (.int .i64 (pfind p.targets at_))):=by
 refine bod Tryz.func158 Tryz.ntmps158 (fun base=>?_)
 refine' zc fx
 have ht:=hp.targets
 refine zk (fun q:Idst (fun x=>x==at_) p.targets=>⟨[(1,true,.d (.int .i64 at_)),(2,true,.vp 0 0),(5,true,.d (.int .i64 q.1))],[(0,.var [.d (.sl 1 (p.targets.map intD)),.d (.sl 1 (p.texts.map strD))])],some []⟩) (fun q=>p.targets.length - q.1) ⟨0,Nat.zero_le _,rfl⟩ le1 (fun q=>?_)
 obtain ⟨i,hi,hf⟩:=q
 simp only at hi hf ⊢
 rcases zy intD p.targets i hi with ⟨m,hq,hlt,hcmp,hrow,hdr,htk⟩|⟨hend,hcmp⟩
 ·simp only [intD] at hrow
  have hwi:=zn (i:=i) U
  refine' zc (zj hcmp hrow)
  ·rw [pfind,hf,hdr,idxP,if_pos hc]
  ·exact ⟨⟨i+1,U,by rw [hf,hdr,idxP,if_neg (by rw [hc];exact Bool.false_ne_true)]⟩,lew,af⟩
 ·refine' zc hcmp
  rw [pfind,hf,hend,List.drop_length]
  rfl
@[go_sem] noncomputable def zdt:Ent Tryz.prog 158:= .m2 zaY (intT .i64) zs1
theorem zs2 (d:Disk) (p:Plan) (at_:Int) (hp:DiskOk d∧PlanOk p∧p.targets.length=p.texts.length):AC 222 [diskA d,planA p,.d (.int .i64 at_)] (.tup [.d (.str (plook d p at_).1),.d (.int .i64 (plook d p at_).2)]):=by
 obtain ⟨hd,hp,hl⟩:=hp
 refine bod Tryz.func222 Tryz.ntmps222 (fun base=>?_)
 rcases zei p.targets at_ with hk|⟨k,hk,hkl⟩
 ·refine' walkW hk (za zdt <| za zbe <| zb _)
  rw [plook,hk,if_neg U]
 ·obtain ⟨s,hq⟩:=zaH (l:=p.texts) (i:=k) U
  have hrow:=zbJ (g:=strD) hq
  simp only [strD] at hrow
  have h1:decide ((0:Int)≤(k:Int))=true:=decide_eq_true U
  have h2:decide ((k:Int)<(p.texts.length:Int))=true:=decide_eq_true U
  refine' walkW (zaB hk hrow natC h1 h2) (za zdt <| za zbe <| zb _)
  rw [plook,hk,if_pos U,Int.toNat_natCast,List.getD_eq_getElem?_getD,hq]
  rfl
@[go_sem] noncomputable def zQ:Ent Tryz.prog 222:= .m3 zV zaY (intT .i64) zs2
theorem zjz {α:Type} (g:α→List D) (l:List α) (x:α) (r:List D) (hr:r=g x) {k:Nat} :(if l.length+1=(l.map g++ [r]).length then AV.d (D.sl k (List.take (l.length+1) (l.map g++ [r]))) else AV.any)=AV.d (.sl k ((l++ [x]).map g)):=by
 have h1:l.length+1=(l.map g++ [r]).length:=aa
 rw [if_pos h1,List.take_of_length_le (Nat.le_of_eq h1.symm),hr,List.map_append]
 rfl
theorem zvA {k n:Nat} {X:List (List D)} (h:X.length=n):(if n=X.length then AV.d (D.sl k (List.take n X)) else AV.any)=AV.d (.sl k X):=by
 rw [if_pos h.symm,List.take_of_length_le (Nat.le_of_eq h)]
theorem zxH {l:List Txt} {k:Nat} {s:Txt} (hk:k<l.length):(l.map strD).set k (((l.map strD).getD k []).set 0 (D.str s))=(l.set k s).map strD:=by
 obtain ⟨x,hq⟩:=zaH hk
 rw [zbJ (g:=strD) hq,List.map_set]
 rfl
theorem zvB (p:Plan) (at_:Int) (s:Txt) (hp:PlanOk p∧p.targets.length=p.texts.length∧p.targets.length≤24):AC 87 [planA p,.d (.int .i64 at_),.d (.str s)] (.tup [planA (pset p at_ s).1,.d (.int .i64 (pset p at_ s).2)]):=by
 obtain ⟨hp,hl,h24⟩:=hp
 refine fbod Tryz.func87 Tryz.ntmps87 (fun base=>?_)
 rcases zei p.targets at_ with hk|⟨k,hk,hkl⟩
 ·refine' walkW hk (za zej <| za zdt <| zb _)
  all_goals first|(simp_all [pset];done)|skip
  rw [zjz intD p.targets at_ [D.int .i64 at_] rfl,zjz strD p.texts s [D.str s] rfl]
  by_cases h6:24≤(p.targets.length:Int)
  ·exfalso;simp_all;omega
  ·simp_all [pset]
   simp only [if_neg (show ¬(24:Int)≤p.texts.length by omega)]
   simp
 ·have h1:decide ((0:Int)≤(k:Int))=true:=decide_eq_true U
  refine' walkW (zq hk natC h1) (za zej <| za zdt <| zb _)
  all_goals first|(simp_all [pset];done)|skip
  rw [zxH U,zvA aa]
  simp_all [pset]
@[go_sem] noncomputable def za7:Ent Tryz.prog 87:= .m3 zaY (intT .i64) strT zvB
theorem zqH (d:Disk) (p:Plan) (at_ off:Int) (s:Txt) (hp:DiskOk d∧d.cache.all (putOk d)=true∧pfit p=true∧s.length≤9223372036854775807):AC 163 [diskA d,planA p,.d (.int .i64 at_),.d (.int .i64 off),.d (.str s)] (.tup [planA (zil d p at_ off s).1,.d (.int .i64 (zil d p at_ off s).2)]):=by
 obtain ⟨hd,hf,hp,hs⟩:=hp
 refine fbod Tryz.func163 Tryz.ntmps163 (fun base=>?_)
 obtain ⟨hl,h24,h64⟩:=zbH hp
 have hpo:PlanOk p:=⟨U,U⟩
 have hb:=zs0 (at_:=at_) hf hp
 refine' walkW fx (za zQ <| za zag <| za za7 <| zb _)
 all_goals first|(simp_all [zil];done)|skip
@[go_sem] noncomputable def za9:Ent Tryz.prog 163:= .m5 zV zaY (intT .i64) (intT .i64) strT zqH
open Go Go.Proofs
theorem zs3 {l:List Int} {i:Nat} {t:Int} :∀ {k:Nat},l[i]?=some t→(idxP (fun x=>x==t) l k==((k+i:Nat):Int))= !(l.take i).contains t:=by
 induction l generalizing i with
 |nil=>intro k h;simp at h
 | cons a l ih=>
  intro k h
  cases i with
  |zero=>
   simp only [List.getElem?_cons_zero,Option.some.injEq] at h
   subst h
   rw [idxP,if_pos aa]
   simp
  | succ i=>
   rw [List.getElem?_cons_succ] at h
   rw [idxP,List.take_succ_cons,List.contains_cons]
   by_cases ha:a=t
   ·rw [if_pos (by simpa using ha),ha,beq_self_eq_true,Bool.true_or]
    rw [beq_eq_false_iff_ne.2 U];rfl
   ·rw [if_neg (by simpa using ha),show k+(i+1)=k+1+i from U,ih h,beq_eq_false_iff_ne.2 (Ne.symm ha),Bool.false_or]
theorem zvC (p:Plan) (hp:PlanOk p):AC 388 [planA p] (.d (.bool (pfit p))):=by
 refine bod Tryz.func388 Tryz.ntmps388 (fun base=>?_)
 have h1:=hp.targets
 have h2:=hp.texts
 refine' zc fx
 ·have:pfit p=false:=by
   simp only [Bool.or_eq_true,bne_iff_ne,decide_eq_true_eq] at hc
   rw [pfit]
   rcases hc with hc|hc
   ·rw [decide_eq_false (p:=p.targets.length=p.texts.length) U];simp
   ·rw [decide_eq_false (p:=p.targets.length≤24) U];simp
  rw [this]
 obtain ⟨hl,h24⟩:p.targets.length=p.texts.length∧p.targets.length≤24:=by
  simp only [Bool.or_eq_false_iff,bne_eq_false_iff_eq,decide_eq_false_iff_not] at hc
  omega
 have hfit:pfit p=pfitL [] p.targets p.texts:=by
  rw [pfit,decide_eq_true hl,decide_eq_true h24];simp
 refine zk (fun q: { i:Nat // i≤p.targets.length∧pfitL [] p.targets p.texts=pfitL (p.targets.take i) (p.targets.drop i) (p.texts.drop i) } =>⟨[(1,true,.vp 0 0),(3,true,.d (.int .i64 q.1))],[(0,.var [.d (.sl 1 (p.targets.map intD)),.d (.sl 1 (p.texts.map strD))])],some []⟩) (fun q=>p.targets.length - q.1) ⟨0,Nat.zero_le _,rfl⟩ le1 (fun q=>?_)
 obtain ⟨i,hi,hf⟩:=q
 simp only at hi hf ⊢
 rcases zy intD p.targets i hi with ⟨m,hq,hlt,hcmp,hrow,hdr,htk⟩|⟨hend,hcmp⟩
 ·obtain ⟨s,hq'⟩:=zaH (l:=p.texts) (i:=i) U
  have hrow':=zbJ (g:=strD) hq'
  simp only [intD] at hrow
  simp only [strD] at hrow'
  have hwi:=zn (i:=i) U
  have hid:=zs3 (k:=0) hq
  rw [Nat.zero_add] at hid
  rw [hdr,zeg hq',pfitL] at hf
  have hall:(!secOk m||pfind p.targets m !=(i:Int)||((s.length:Int) !=64))= !(secOk m&& !(p.targets.take i).contains m&&((s.length:Int)==64)):=by
   rw [← hid,Bool.not_and,Bool.not_and];rfl
  refine' walkW (zq hcmp hrow hrow') (za zej <| za zdt <| zb _)
  ·rw [hall] at hc
   simp only [Bool.not_eq_true'] at hc
   rw [hfit,hf,hc,Bool.false_and]
  ·rw [hall] at hc
   simp only [Bool.not_eq_false'] at hc
   rw [hc,Bool.true_and,← htk] at hf
   exact ⟨⟨i+1,U,hf⟩,lew,af⟩
 ·refine' zc hcmp
  rw [hfit,hf,hend,List.drop_length]
  rfl
@[go_sem] noncomputable def zdh:Ent Tryz.prog 388:= .m1 zaY zvC
theorem zvD (d:Disk) (p:Plan) (hp:DiskOk d∧PlanOk p∧p.targets.length=p.texts.length):AC 90 [diskA d,planA p] (.tup [diskA (play d p).1,.d (.int .i64 (play d p).2)]):=by
 obtain ⟨hd,hp,hl⟩:=hp
 refine fbod Tryz.func90 Tryz.ntmps90 (fun base=>?_)
 have h1:=hp.targets
 have h2:=hp.texts
 refine' zc fx
 refine zk (fun q: { q:Nat×Disk // q.1≤p.targets.length∧DiskOk q.2∧play d p=layL q.2 ((p.targets.zip p.texts).drop q.1) } =>⟨[(2,true,.vp 0 0),(3,true,.vp 1 0),(4,true,.vp 2 0),(6,true,.d (.int .i64 q.1.1))],[(2,.var [.d (.str []),.nils 2,.d (.int .i64 0),.d (.bool false),.nils 1]),(1,.var [.d (.sl 1 (p.targets.map intD)),.d (.sl 1 (p.texts.map strD))]),(0,(.var [.d (.str q.1.2.data),.d (.sl 2 (q.1.2.cache.map putD)),.d (.int .i64 q.1.2.fuse),.d (.bool q.1.2.off),.d (.sl 1 (q.1.2.bad.map intD))]))],some []⟩) (fun q=>p.targets.length - q.1.1) ⟨(0,d),Nat.zero_le _,hd,rfl⟩ le1 (fun q=>?_)
 obtain ⟨⟨i,x⟩,hi,hx,hf⟩:=q
 simp only at hi hx hf ⊢
 rcases zy intD p.targets i hi with ⟨m,hq,hlt,hcmp,hrow,hdr,htk⟩|⟨hend,hcmp⟩
 ·obtain ⟨s,hq'⟩:=zaH (l:=p.texts) (i:=i) U
  have hrow':=zbJ (g:=strD) hq'
  simp only [intD] at hrow
  simp only [strD] at hrow'
  have hwi:=zn (i:=i) U
  have hcmp':decide ((i:Int)<(p.texts.length:Int))=true:=by rw [← hl];exact hcmp
  have hz:(p.targets.zip p.texts)[i]?=some (m,s):=List.getElem?_zip_eq_some.2 ⟨hq,hq'⟩
  rw [zeg hz,layL] at hf
  have hxo:=zmc hx m s
  refine' walkW (zE hcmp hcmp' hrow hrow') (za zC <| zb _)
  ·have hc:(zaT x m s).2≠0:=by simpa using hc
   rw [hf,if_pos hc]
  ·have hc:¬(zaT x m s).2≠0:=by simpa using hc
   rw [if_neg hc] at hf
   exact ⟨⟨(i+1,(zaT x m s).1),U,hxo,hf⟩,lew,af⟩
 ·refine' zc hcmp
  rw [hf,List.drop_of_length_le (by rw [List.length_zip];omega)]
  rfl
@[go_sem] noncomputable def zcD:Ent Tryz.prog 90:= .m2 zV zaY zvD
open Go Go.Proofs
def pfitZ:List Int→List (Int×Txt)→Bool
 |_,[]=>true
 |seen,q::r=>secOk q.1&& !seen.contains q.1&&((q.2.length:Int)==64)&&pfitZ (seen++ [q.1]) r
theorem zmk:∀ (t:List Int) (s:List Txt) (seen:List Int),pfitL seen t s=pfitZ seen (t.zip s)
 | [],s,seen=>by simp [pfitL,pfitZ]
 |t::r,[],seen=>by simp [pfitL,pfitZ]
 |t::r,s::q,seen=>by simp only [pfitL,pfitZ,List.zip_cons_cons,zmk r q]
theorem zjB:∀ (l:List (Int×Txt)) (seen:List Int) (q:Int×Txt),pfitZ seen (l++ [q])=(pfitZ seen l&&(secOk q.1&& !(seen++l.map (·.1)).contains q.1&&((q.2.length:Int)==64)))
 | [],seen,q=>by simp [pfitZ]
 |a::l,seen,q=>by
  rw [List.cons_append,pfitZ,pfitZ,zjB l,List.map_cons,List.append_assoc,List.singleton_append]
  simp only [Bool.and_assoc]
theorem zs6:∀ (t:List Int) (s:List Txt) (k:Nat) (x:Txt) (y:Int),t[k]?=some y→t.zip (s.set k x)=(t.zip s).set k (y,x)
 | [],s,k,x,y,h=>aY
 |t::r,[],k,x,y,h=>aa
 |t::r,a::s,0,x,y,h=>by
  have:t=y:=aM
  subst this
  simp
 |t::r,a::s,k+1,x,y,h=>by
  simp only [List.set_cons_succ,List.zip_cons_cons]
  rw [zs6 r s k x y aM]
theorem zml:∀ (l:List (Int×Txt)) (seen:List Int) (k:Nat) (y:Int) (x:Txt),(∃z,l[k]?=some (y,z))→(x.length:Int)=64→pfitZ seen l=true→pfitZ seen (l.set k (y,x))=true
 | [],seen,k,y,x,h,hx,hf=>by obtain ⟨z,h⟩:=h;simp at h
 |a::l,seen,0,y,x,h,hx,hf=>by
  obtain ⟨z,h⟩:=h
  have:a=(y,z):=aM
  subst this
  simp only [List.set_cons_zero,pfitZ,Bool.and_eq_true] at hf ⊢
  exact ⟨⟨hf.1.1,by simpa using hx⟩,hf.2⟩
 |a::l,seen,k+1,y,x,h,hx,hf=>by
  simp only [List.set_cons_succ,pfitZ,Bool.and_eq_true] at hf ⊢
  exact ⟨hf.1,zml l _ k y x aM hx hf.2⟩
theorem pfit_iff {p:Plan} :pfit p=true↔p.targets.length=p.texts.length∧p.targets.length≤24∧pfitZ [] (p.targets.zip p.texts)=true:=by
 simp only [pfit,Bool.and_eq_true,decide_eq_true_eq,zmk,and_assoc]
theorem zs7 {l:List Int} {a:Int} (h:pfind l a= -1):l.contains a=false:=by
 have:=znV (fun x=>x==a) l 0
 unfold pfind at h
 rw [h] at this
 rw [← List.any_beq']
 simpa using this.symm
theorem zfn {p:Plan} {at_:Int} {s:Txt} (hp:pfit p=true):pfit (pset p at_ s).1=true:=by
 obtain ⟨h1,h2,h3⟩:=pfit_iff.1 hp
 unfold pset
 split
 ·exact hp
 rename_i hs
 have hs:secOk at_=true:=cj
 split
 ·exact hp
 rename_i hl
 have hl:(s.length:Int)=64:=aH
 rcases zei p.targets at_ with hk|⟨k,hk,hkl⟩
 ·rw [if_neg U]
  split
  ·exact hp
  ·rename_i h24
   refine pfit_iff.2 ⟨bw,af,?_⟩
   rw [List.zip_append h1]
   show pfitZ [] (p.targets.zip p.texts++ [(at_,s)])=true
   rw [zjB,h3,hs]
   have:(p.targets.zip p.texts).map (·.1)=p.targets:=by rw [List.map_fst_zip U]
   rw [List.nil_append,this,zs7 hk,hl]
   rfl
 ·rw [if_pos U,hk,Int.toNat_natCast]
  obtain ⟨y,hy⟩:=zaH hkl
  obtain ⟨z,hz⟩:=zaH (l:=p.texts) (i:=k) U
  refine pfit_iff.2 ⟨bw,h2,?_⟩
  show pfitZ [] (p.targets.zip (p.texts.set k s))=true
  rw [zs6 _ _ _ _ y hy]
  exact zml _ _ _ _ _ ⟨z,List.getElem?_zip_eq_some.2 ⟨hy,hz⟩⟩ hl h3
theorem zjC {d:Disk} {p:Plan} {at_ off:Int} {s:Txt} (hp:pfit p=true):pfit (zil d p at_ off s).1=true:=by
 unfold zil
 split
 ·exact hp
 split
 ·exact hp
 ·exact zfn hp
open Go Go.Proofs
structure DiskF (d:Disk):Prop where
 ok:DiskOk d
 puts:d.cache.all (putOk d)=true
theorem zmm {d d':Disk} (h:d'.data.length=d.data.length):putOk d'=putOk d:=by
 funext q
 unfold putOk there dsize
 rw [h]
theorem zg0 (d:Disk):(burnt d).data=d.data:=dA
theorem zem (d:Disk):(burnt d).cache=d.cache:=dA
theorem zim (d:Disk) (a:Int) (s:Txt):(zaT d a s).1.data=d.data:=by
 unfold zaT
 repeat' split
 all_goals first|rfl|(rw [zg0])
theorem DiskF.write {d:Disk} (h:DiskF d) (a:Int) (s:Txt):DiskF (zaT d a s).1:=by
 refine ⟨zmc h.ok a s,?_⟩
 have e:=zmm (d:=d) (d':=(zaT d a s).1) (by rw [zim])
 rw [e]
 unfold zaT
 split
 ·exact h.puts
 split
 ·exact h.puts
 split
 ·exact h.puts
 split
 ·exact h.puts
 split
 ·exact h.puts
 split
 ·exact h.puts
 ·rename_i h1 h2 h3 h4 h5 h6
  rw [zem,List.all_append,h.puts]
  have h3:(s.length:Int)=64:=bK
  simp [putOk,h3]
  simpa using h2
theorem zjD {d:Disk} (h:d.cache.all (putOk d)=true):(dflush d).1.data.length=d.data.length:=by
 unfold dflush
 split
 ·rfl
 split
 ·rfl
 ·rw [zg0];exact zjy h
theorem DiskF.flush {d:Disk} (h:DiskF d):DiskF (dflush d).1:=by
 have hl:=zjD h.puts
 refine ⟨?_,?_⟩
 ·revert hl
  unfold dflush
  split
  ·intro _;exact h.ok
  split
  ·intro _;exact ⟨h.ok.data,h.ok.cache,h.ok.bad,h.ok.fuse0,h.ok.fuse1⟩
  ·intro hl
   rw [zg0] at hl
   exact zpB ⟨by rw [hl];exact h.ok.data,aa,h.ok.bad,h.ok.fuse0,h.ok.fuse1⟩
 ·rw [zmm hl]
  unfold dflush
  split
  ·exact h.puts
  split
  ·exact h.puts
  ·rw [zem];rfl
theorem DiskF.layL:∀ (l:List (Int×Txt)) {d:Disk},DiskF d→DiskF (layL d l).1
 | [],d,h=>h
 |q::l,d,h=>by
  rw [Aw.layL]
  split
  ·exact h.write q.1 q.2
  ·exact DiskF.layL l (h.write q.1 q.2)
def encT (l:List Int):Txt:=l.flatMap (fun t=>putN t.toNat 4)
def padR (s:Txt):Txt:=(padS s 64).1
def trows (l:List Int):List Txt:=if l.length≤16 then [padR (encT l)] else [padR (encT (l.take 16)),padR (encT (l.drop 16))]
def tbody (p:Plan):List Txt:=trows p.targets++p.texts
def thead (seq:Int) (p:Plan):Txt:=putN seq.toNat 8++putN p.targets.length 2
def tsum (c:Int) (l:List Txt):Int:=l.foldl sumOf c
def zyL:Txt:= [67,79,70,74]
def ttop (seq:Int) (p:Plan):Txt:=padR (zyL++thead seq p++putN (65535 - p.targets.length) 2++zgh (tsum (sumOf 0 (thead seq p)) (tbody p)))
def zdu (seq:Int) (p:Plan):List Txt:=ttop seq p::tbody p
theorem zvG {p:Plan} (hp:pfit p=true):∀t∈p.targets,0≤t∧t<1024:=by
 obtain ⟨h1,h2,h3⟩:=pfit_iff.1 hp
 have key:∀ (l:List (Int×Txt)) (seen:List Int),pfitZ seen l=true→∀q∈l,0≤q.1∧q.1<1024:=by
  intro l
  induction l with
  |nil=>intro _ _ q hq;simp at hq
  | cons a l ih=>
   intro seen h q hq
   simp only [pfitZ,Bool.and_eq_true] at h
   rcases List.mem_cons.1 hq with rfl|hq
   ·have:=h.1.1.1
    simpa [secOk] using this
   ·exact ih _ h.2 q hq
 intro t ht
 obtain ⟨i,hi,rfl⟩:=List.mem_iff_getElem.1 ht
 have hz:(p.targets.zip p.texts)[i]?=some (p.targets[i],p.texts[i]' U):=List.getElem?_zip_eq_some.2 ⟨al,aa⟩
 exact key _ _ h3 _ (List.mem_of_getElem? hz)
theorem zvH (s:Txt) (hs:s.length≤9223372036854775807):AC 389 [.d (.str s)] (.d (.str (padR s))):=by
 refine bod Tryz.func389 Tryz.ntmps389 (fun base=>?_)
 refine' walkW fx (za zgZ <| zb _)
 rfl
@[go_sem] noncomputable def zdi:Ent Tryz.prog 389:= .m1 strT zvH
open Go Go.Proofs
structure Tx where
 seq:Int
 plan:Plan
 deriving DecidableEq
def txA (t:Tx):AV:= .agg [.d (.int .u64 t.seq),.d (.sl 1 (t.plan.targets.map intD)),.d (.sl 1 (t.plan.texts.map strD))]
attribute [go_sem] txA
theorem zyO (t:Tx):Tx.mk t.seq t.plan=t:=rfl
noncomputable def txA_T:PT Tx:=aggT (consL (intT .u64) (consL (slT 1 intD zf8) (consL (slT 1 strD zeh) nilL))) (fun p=>⟨p.1,⟨p.2.1,p.2.2.1⟩⟩) (fun x=>(x.seq,x.plan.targets,x.plan.texts,())) (fun _=>rfl)
attribute [go_sem] txA_T
attribute [go_sem] zyO
def trest (l:List Int) (i:Nat):List Txt×Txt:=
 if i=l.length then (trows l,[]) else if i<16 then ([],encT (l.take i)) else ([padR (encT (l.take 16))],encT ((l.take i).drop 16))
theorem zmq (l:List Int) (t:Int):encT (l++ [t])=encT l++putN t.toNat 4:=by simp [encT]
theorem zgi (l:List Int):(encT l).length=4*l.length:=by
 induction l with
 |nil=>rfl
 |cons a l ih=>simp only [encT,List.flatMap_cons,List.length_append,zu,List.length_cons] at ih ⊢;omega
theorem zth {n:Nat} (h:n<18446744073709551616):IntKind.u64.wrap (n:Int)=n:=zA U U
theorem zxM (l:List Int) (h:0<l.length):trest l 0=([],[]):=by
 rw [trest,if_neg U,if_pos U];rfl
theorem zqO {l:List Int} {i:Nat} {t:Int} (hq:l[i]?=some t) (h24:l.length≤24):
  trest l (i+1)=if i+1=l.length∨i % 16=15 then ((trest l i).1++ [padR ((trest l i).2++putN t.toNat 4)],[]) else ((trest l i).1,(trest l i).2++putN t.toNat 4):=by
 have hlt:i<l.length:=(List.getElem?_eq_some_iff.1 hq).1
 have htk:l.take (i+1)=l.take i++ [t]:=zcz hq
 have e0:trest l i=if i<16 then ([],encT (l.take i)) else ([padR (encT (l.take 16))],encT ((l.take i).drop 16)):=by
  rw [trest,if_neg U]
 rw [e0]
 by_cases h16:i<16
 ·simp only [if_pos h16]
  rw [List.nil_append,← zmq,← htk]
  by_cases he:i+1=l.length
  ·rw [if_pos (.inl he),trest,if_pos he,trows,if_pos U,he,List.take_length]
  ·by_cases h15:i % 16=15
   ·rw [if_pos (.inr h15),trest,if_neg he,if_neg U]
    have:i+1=16:=U
    rw [this,List.drop_of_length_le ax]
    rfl
   ·rw [if_neg U,trest,if_neg he,if_pos U]
 ·simp only [if_neg h16]
  have hd:(l.take (i+1)).drop 16=(l.take i).drop 16++ [t]:=by
   rw [htk,List.drop_append_of_le_length ax]
  rw [← zmq,← hd]
  by_cases he:i+1=l.length
  ·rw [if_pos (.inl he),trest,if_pos he,trows,if_neg U,he,List.take_length]
   rfl
  ·rw [if_neg U,trest,if_neg he,if_neg U]
theorem zkP:∀ (l:List Txt) (c:Int),0≤c→c≤4294967295→0≤tsum c l∧tsum c l≤4294967295
 | [],c,h0,h1=>⟨h0,h1⟩
 |s::l,c,h0,h1=>zkP l _ (zfT c s h0 h1).1 (zfT c s h0 h1).2
theorem zti (l:List Txt) (c:Int) (s:Txt):tsum c (l++ [s])=sumOf (tsum c l) s:=by simp [tsum]
theorem zhN {s:Txt} (h:s.length≤64):(padR s).length=64:=by
 rw [padR,padS,if_neg U]
 simp;omega
theorem ztj (l:List Int) (h:l.length≤24):∀s∈trows l,s.length=64:=by
 intro s hs
 unfold trows at hs
 split at hs
 ·simp only [List.mem_singleton] at hs
  subst hs
  exact zhN (by rw [zgi];omega)
 ·simp only [List.mem_cons,List.not_mem_nil,or_false] at hs
  rcases hs with rfl|rfl
  ·exact zhN (by rw [zgi,List.length_take];omega)
  ·exact zhN (by rw [zgi,List.length_drop];omega)
theorem zmr {p:Plan} (hf:pfit p=true):∀s∈tbody p,s.length=64:=by
 obtain ⟨hl,h24,h64⟩:=zbH hf
 intro s hs
 rcases List.mem_append.1 hs with h|h
 ·exact ztj _ h24 s h
 ·exact h64 s h
theorem zfo (c:Int):(zgh c).length=4:=rfl
theorem zqP (t:Tx) (hp:PlanOk t.plan∧pfit t.plan=true∧t.plan.targets.length≠0∧0≤t.seq∧t.seq<18446744073709551616):AC 346 [txA t] (.tup [.d (.sl 1 ((zdu t.seq t.plan).map strD)),.d (.int .i64 0)]):=by
 obtain ⟨hp,hf,hn,h0,h1⟩:=hp
 refine fbod Tryz.func346 Tryz.ntmps346 (fun base=>?_)
 obtain ⟨hl,h24,h64⟩:=zbH hf
 have hrng:=zvG hf
 have hn0:((t.plan.targets.length:Int)==0)=false:=aI
 refine' walkW (zj hf hn0) (za zdh <| za zt <| za zdi <| za zbi <| za zbw <| za zax <| zb _)
 refine zaI 5 1 rfl ?_
 simp only [fresh,top,hget, ↓reduceIte]
 refine zk (fun q: { i:Nat // i≤t.plan.targets.length } =>⟨[(1,true,.vp 0 0),(4,true,.d (.int .i64 t.plan.targets.length)),(5,true,.osl 1 1 (trest t.plan.targets q.1).1.length 0 (trest t.plan.targets q.1).1.length),(6,true,.d (.str (trest t.plan.targets q.1).2)),(7,true,.d (.int .i64 q.1))],[(1,.arr 1 ((trest t.plan.targets q.1).1.map strD)),(0,.var [.d (.int .u64 t.seq),.d (.sl 1 (t.plan.targets.map intD)),.d (.sl 1 (t.plan.texts.map strD))])],some []⟩) (fun q=>t.plan.targets.length - q.1) ⟨0,Nat.zero_le _⟩ (by simp only [zxM _ (Nat.pos_of_ne_zero hn)];simp only [AS.le,leT,leH,zf,AsgK,AV.le,AV.leL,AObj.le,inH,idsT,idsH,AV.ids,AV.idsL,AV.idsR,AObj.ids,lk,hget,go_sem,aeq,aeq.aeqF,simprocAttr]<;>and_intros<;>rfl) (fun q=>?_)
 obtain ⟨i,hi⟩:=q
 simp only at hi ⊢
 rcases zy intD t.plan.targets i hi with ⟨m,hq,hlt,hcmp,hrow,hdr,htk⟩|⟨hend,hcmp⟩
 ·simp only [intD] at hrow
  have hwi:=zn (i:=i) U
  obtain ⟨hm0,hm1⟩:=hrng m (List.mem_of_getElem? hq)
  have hwm:IntKind.u64.wrap m=m:=zA U U
  have hp4:putS8 m 4=putN m.toNat 4:=bh
  have hts:=zqO hq h24
  have hl6:(trest t.plan.targets i).2.length≤96:=by
   have e0:trest t.plan.targets i=if i<16 then ([],encT (t.plan.targets.take i)) else ([padR (encT (t.plan.targets.take 16))],encT ((t.plan.targets.take i).drop 16)):=by
    rw [trest,if_neg U]
   rw [e0]
   split
   ·simp only [zgi,List.length_take];omega
   ·simp only [zgi,List.length_take,List.length_drop];omega
  have hn1:IntKind.i64.wrap ((t.plan.targets.length:Int) - 1)=(t.plan.targets.length:Int) - 1:=zi U U
  have hl4:(putN m.toNat 4).length=4:=zu _ _
  have hcl:(trest t.plan.targets i).1.length≤1:=by
   have e0:trest t.plan.targets i=if i<16 then ([],encT (t.plan.targets.take i)) else ([padR (encT (t.plan.targets.take 16))],encT ((t.plan.targets.take i).drop 16)):=by
    rw [trest,if_neg U]
   rw [e0]
   split<;>simp
  by_cases hc:i+1=t.plan.targets.length∨i % 16=15
  ·have hdec:(((i:Int)==(t.plan.targets.length:Int) - 1)||((i:Int).tmod 16==15))=true:=by
    rw [Bool.or_eq_true,beq_iff_eq,beq_iff_eq,Int.tmod_eq_emod_of_nonneg U]
    omega
   rw [if_pos hc] at hts
   refine' walkW (zo hcmp hrow hwm hp4 hn1 (zq hdec @List.length_append.{0} hl4)) (za zdh <| za zt <| za zdi <| za zbi <| za zbw <| za zax <| zb _)
   all_goals first|omega|(simp only [List.length_append,hl4];omega)|skip
   exact ⟨⟨i+1,U⟩,by simp only [hts,List.map_append,List.length_append,List.length_singleton];simp only [AS.le,leT,leH,zf,AsgK,AV.le,AV.leL,AObj.le,inH,idsT,idsH,AV.ids,AV.idsL,AV.idsR,AObj.ids,lk,hget,go_sem,aeq,aeq.aeqF,simprocAttr,hwi]<;>and_intros<;>rfl,af⟩
  ·have hdec:(((i:Int)==(t.plan.targets.length:Int) - 1)||((i:Int).tmod 16==15))=false:=by
    rw [Bool.or_eq_false_iff,beq_eq_false_iff_ne,beq_eq_false_iff_ne,Int.tmod_eq_emod_of_nonneg U]
    omega
   rw [if_neg hc] at hts
   refine' walkW (zo hcmp hrow hwm hp4 hn1 (zq hdec @List.length_append.{0} hl4)) (za zdh <| za zt <| za zdi <| za zbi <| za zbw <| za zax <| zb _)
   all_goals first|omega|(simp only [List.length_append,hl4];omega)|skip
   exact ⟨⟨i+1,U⟩,by simp only [hts];simp only [AS.le,leT,leH,zf,AsgK,AV.le,AV.leL,AObj.le,inH,idsT,idsH,AV.ids,AV.idsL,AV.idsR,AObj.ids,lk,hget,go_sem,aeq,aeq.aeqF,simprocAttr,hwi],af⟩
 ·subst hend
  have he:trest t.plan.targets t.plan.targets.length=(trows t.plan.targets,[]):=by rw [trest,if_pos rfl]
  have htr:(trows t.plan.targets).length≤2:=by unfold trows;split<;>simp
  have hu:IntKind.u64.wrap (t.plan.targets.length:Int)=(t.plan.targets.length:Int):=zth U
  have hp8:putS8 t.seq 8=putN t.seq.toNat 8:=bh
  have hp2:putS8 (t.plan.targets.length:Int) 2=putN t.plan.targets.length 2:=bh
  have hw5:IntKind.i64.wrap (65535 - (t.plan.targets.length:Int))=((65535 - t.plan.targets.length:Nat):Int):=aE
  have hu5:IntKind.u64.wrap ((65535 - t.plan.targets.length:Nat):Int)=((65535 - t.plan.targets.length:Nat):Int):=zth U
  have hp5:putS8 ((65535 - t.plan.targets.length:Nat):Int) 2=putN (65535 - t.plan.targets.length) 2:=bh
  have hl8:=zu t.seq.toNat 8
  have hl2:=zu t.plan.targets.length 2
  have hl5:=zu (65535 - t.plan.targets.length) 2
  simp only [he]
  refine' walkW (zo hcmp he hu hp8 hp2 (zq @List.length_append.{0} hl8 hl2)) (za zdh <| za zt <| za zdi <| za zbi <| za zbw <| za zax <| zb _)
  have hB:(tbody t.plan).map strD=(trows t.plan.targets).map strD++t.plan.texts.map strD:=by rw [tbody,List.map_append]
  have hBl:(tbody t.plan).length=(trows t.plan.targets).length+t.plan.texts.length:=by rw [tbody,List.length_append]
  rw [← hB,← hBl]
  obtain ⟨B,hBe⟩:∃B,B=tbody t.plan:=⟨_,rfl⟩
  have hB64:∀s∈B,s.length=64:=by rw [hBe];exact zmr hf
  rw [← hBe] at hB hBl ⊢
  obtain ⟨H,hH⟩:∃H,H=putN t.seq.toNat 8++putN t.plan.targets.length 2:=⟨_,rfl⟩
  have hHl:H.length=10:=by rw [hH,List.length_append,hl8,hl2]
  rw [← hH]
  have hc0:0≤sumOf 0 H∧sumOf 0 H≤4294967295:=zfT 0 H U U
  refine zk (fun q: { k:Nat // k≤B.length } =>⟨[(1,true,.vp 0 0),(4,true,.d (.int .i64 t.plan.targets.length)),(5,true,.osl 1 1 B.length 0 B.length),(8,true,.d (.str H)),(9,true,.d (.int .u32 (tsum (sumOf 0 H) (B.take q.1)))),(10,true,.d (.int .i64 q.1))],[(1,.arr 1 (B.map strD)),(0,.var [.d (.int .u64 t.seq),.d (.sl 1 (t.plan.targets.map intD)),.d (.sl 1 (t.plan.texts.map strD))])],some []⟩) (fun q=>B.length - q.1) ⟨0,Nat.zero_le _⟩ le1 (fun q=>?_)
  obtain ⟨k,hk⟩:=q
  simp only at hk ⊢
  rcases zy strD B k hk with ⟨s,hq,hlt,hcmp,hrow,hdr,htk⟩|⟨hend,hcmp⟩
  ·simp only [strD] at hrow
   have hwi:=zn (i:=k) U
   have hsl:=hB64 s (List.mem_of_getElem? hq)
   have hcr:=zkP (B.take k) _ hc0.1 hc0.2
   have hsn:tsum (sumOf 0 H) (B.take (k+1))=sumOf (tsum (sumOf 0 H) (B.take k)) s:=by rw [htk,zti]
   refine' walkW (zq hcmp hrow natC) (za zdh <| za zt <| za zdi <| za zbi <| za zbw <| za zax <| zb _)
   exact ⟨⟨k+1,U⟩,by simp only [AS.le,leT,leH,zf,AsgK,AV.le,AV.leL,AObj.le,inH,idsT,idsH,AV.ids,AV.idsL,AV.idsR,AObj.ids,lk,hget,go_sem,aeq,aeq.aeqF,simprocAttr,hwi,hsn],af⟩
  ·subst hend
   have hcr:=zkP B _ hc0.1 hc0.2
   have htt:B.take B.length=B:=List.take_length
   have hbl:=zfo (tsum (sumOf 0 H) B)
   refine' walkW (zo hcmp hw5 hu5 hp5 @List.length_append.{0} (zo hHl hl5 hbl @List.length_cons.{0} @List.length_nil.{0} htt)) (za zdh <| za zt <| za zdi <| za zbi <| za zbw <| za zax <| zb _)
   rw [if_pos U,List.take_of_length_le af,zdu,ttop,List.map_cons,thead,← hH,← hBe]
   rfl
@[go_sem] noncomputable def zch:Ent Tryz.prog 346:= .m1 txA_T zqP
open Go Go.Proofs
@[simp] theorem tsum_nil (c:Int):tsum c []=c:=rfl
open Go Go.Proofs
theorem DiskF.play {d:Disk} (h:DiskF d) (p:Plan):DiskF (play d p).1:=DiskF.layL _ h
end Go.Aw
