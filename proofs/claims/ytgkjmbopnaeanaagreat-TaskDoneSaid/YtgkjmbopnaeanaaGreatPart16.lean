/-
  Parts of the proof: PlanA, PlanC, PlanD (short names; the readable texts lie in the repo, under wip).
-/
import Derived.Test.YtgkjmbopnaeanaaGreatPart14
import Derived.Test.YtgkjmbopnaeanaaGreatPart13
set_option maxRecDepth 100000
set_option maxHeartbeats 2000000
set_option linter.unusedSimpArgs false
set_option linter.unusedVariables false
namespace Go.Aw
open Go Go.Proofs
structure Plan where
 targets:List Int
 texts:List Txt
 deriving DecidableEq
def planA (p:Plan):AV:= .agg [.d (.sl 1 (p.targets.map intD)),.d (.sl 1 (p.texts.map strD))]
def planC (p:Plan):List AV:= [.d (.sl 1 (p.targets.map intD)),.d (.sl 1 (p.texts.map strD))]
attribute [go_sem] planA planC
theorem zt7 (p:Plan):Plan.mk p.targets p.texts=p:=rfl
noncomputable def zN:PT Plan:=aggT (consL (slT 1 intD zc2) (consL (slT 1 strD zgj) nilL)) (fun p=>⟨p.1,p.2.1⟩) (fun x=>(x.targets,x.texts,())) (fun _=>rfl)
attribute [go_sem] zN
noncomputable def zrV:PT Plan:=dpT (consL (slT 1 intD zc2) (consL (slT 1 strD zgj) nilL)) (fun p=>⟨p.1,p.2.1⟩) (fun x=>(x.targets,x.texts,())) (fun _=>rfl)
attribute [go_sem] zrV
attribute [go_sem] zt7
structure PlanOk (p:Plan):Prop where
 targets:p.targets.length≤9223372036854775807
 texts:p.texts.length≤9223372036854775807
def secOk (at_:Int):Bool:=decide (0≤at_)&&decide (at_<1024)
def pfind (l:List Int) (at_:Int):Int:=idxP (fun x=>x==at_) l 0
def pfitL:List Int→List Int→List Txt→Bool
 |_,[],_=>true
 |seen,t::r,s::q=>secOk t&& !seen.contains t&&((s.length:Int)==64)&&pfitL (seen++ [t]) r q
 |_,_::_,[]=>true
def pfit (p:Plan):Bool:=decide (p.targets.length=p.texts.length)&&decide (p.targets.length≤24)&&pfitL [] p.targets p.texts
def plook (d:Disk) (p:Plan) (at_:Int):Txt×Int:=
 if 0≤pfind p.targets at_ then (p.texts.getD (pfind p.targets at_).toNat [],0) else dread d at_
def pset (p:Plan) (at_:Int) (s:Txt):Plan×Int:=
 if !secOk at_ then (p,10) else if (s.length:Int)≠64 then (p,11)
 else if 0≤pfind p.targets at_ then (⟨p.targets,p.texts.set (pfind p.targets at_).toNat s⟩,0)
 else if 24≤(p.targets.length:Int) then (p,16) else (⟨p.targets++ [at_],p.texts++ [s]⟩,0)
def zfR (d:Disk) (p:Plan) (at_:Int) (off:Int) (s:Txt):Plan×Int:=
 if (plook d p at_).2≠0 then (p,(plook d p at_).2)
 else if (overS (plook d p at_).1 off s).2≠0 then (p,(overS (plook d p at_).1 off s).2)
 else pset p at_ (overS (plook d p at_).1 off s).1
def layL (d:Disk):List (Int×Txt)→Disk×Int
 | []=>(d,0)
 |q::r=>if (zU d q.1 q.2).2≠0 then zU d q.1 q.2 else layL (zU d q.1 q.2).1 r
def play (d:Disk) (p:Plan):Disk×Int:=layL d (p.targets.zip p.texts)
theorem zib {d:Disk} (h:DiskOk d) (at_:Int) (s:Txt):DiskOk (zU d at_ s).1:=by
 unfold zU
 repeat' split
 all_goals first|exact h|skip
 ·exact ⟨h.data,h.cache,h.bad,h.fuse0,h.fuse1⟩
 ·rename_i h6
  exact zoT ⟨h.data,by simp only [List.length_append,List.length_singleton];omega,h.bad,h.fuse0,h.fuse1⟩
theorem zoY {d:Disk} {at_:Int} (hf:d.cache.all (putOk d)=true) (ht:there d at_=true):(sees d at_).length=64:=by
 obtain ⟨h0,h1⟩:=there_iff.1 ht
 unfold sees
 split
 ·rename_i q hq
  have hm:=List.mem_of_find?_eq_some hq
  have:=List.all_eq_true.1 hf q (List.mem_reverse.1 hm)
  rw [putOk,Bool.and_eq_true] at this
  have:=eq_of_beq this.2
  omega
 ·rw [List.length_take,List.length_drop];omega
theorem zdV {d:Disk} {at_:Int} (hf:d.cache.all (putOk d)=true):(dread d at_).1.length≤64:=by
 unfold dread
 repeat' split
 all_goals first|(simp;done)|skip
 rw [zoY hf (by simp_all)]
 omega
theorem zlD:∀ (t:List Int) (s:List Txt) (seen:List Int),pfitL seen t s=true→t.length=s.length→∀x∈s,x.length=64
 | [],s,seen,_,hl=>by
  have:s= []:=List.length_eq_zero_iff.1 hl.symm
  subst this
  simp
 |t::r,[],seen,_,hl=>by simp at hl
 |t::r,s::q,seen,h,hl=>by
  rw [pfitL] at h
  simp only [Bool.and_eq_true] at h
  intro x hx
  rcases List.mem_cons.1 hx with rfl|hx
  ·have:=eq_of_beq h.1.2;omega
  ·exact zlD r q _ h.2 (by simpa using hl) x hx
theorem zaJ {p:Plan} (h:pfit p=true):p.targets.length=p.texts.length∧p.targets.length≤24∧∀x∈p.texts,x.length=64:=by
 simp only [pfit,Bool.and_eq_true,decide_eq_true_eq] at h
 exact ⟨h.1.1,h.1.2,zlD _ _ _ h.2 h.1.1⟩
theorem zt8 {l:List Txt} {n k:Nat} (h:∀x∈l,x.length=n):(l.getD k []).length≤n:=by
 rw [List.getD_eq_getElem?_getD]
 rcases hk:l[k]? with _|x
 ·simp
 ·rw [Option.getD_some,h x (List.mem_of_getElem? hk)]
  exact Nat.le_refl _
theorem zlE {d:Disk} {p:Plan} {at_:Int} (hf:d.cache.all (putOk d)=true) (hp:pfit p=true):(plook d p at_).1.length≤64:=by
 unfold plook
 split
 ·exact zt8 (zaJ hp).2.2
 ·exact zdV hf
theorem zlF {α:Type} (p:α→Bool):∀ (l:List α) (k:Nat),idxP p l k= -1∨((k:Int)≤idxP p l k∧idxP p l k<((k+l.length:Nat):Int))
 | [],k=> .inl rfl
 | q::l,k=>by
  rw [idxP]
  split
  ·exact .inr ⟨Int.le_refl _,by simp;omega⟩
  ·rcases zlF p l (k+1) with h|⟨h1,h2⟩
   ·exact .inl h
   ·exact .inr ⟨by omega,by simp only [List.length_cons];omega⟩
theorem zcQ (l:List Int) (at_:Int):pfind l at_= -1∨∃k:Nat,pfind l at_=k∧k<l.length:=by
 rcases zlF (fun x=>x==at_) l 0 with h|⟨h1,h2⟩
 ·exact .inl h
 ·exact .inr ⟨(pfind l at_).toNat,by unfold pfind;omega,by unfold pfind;omega⟩
theorem zni (at_:Int) (_:True):AC 98 [.d (.int .i64 at_)] (.d (.bool (secOk at_))):=by
 refine bod Tryz.func98 Tryz.ntmps98 (fun base=>?_)
 refine' zc fx
 rfl
@[go_sem] noncomputable def zeA:Ent Tryz.prog 98:= .m1 (intT .i64) zni
theorem zrW (p:Plan) (at_:Int) (hp:PlanOk p):AC 99 [planA p,.d (.int .i64 at_)] (.d (.int .i64 (pfind p.targets at_))):=by
 refine bod Tryz.func99 Tryz.ntmps99 (fun base=>?_)
 refine' zc fx
 have ht:=hp.targets
 refine zo (fun q:Idst (fun x=>x==at_) p.targets=>⟨[(1,true,.d (.int .i64 at_)),(2,true,.vp 0 0),(5,true,.d (.int .i64 q.1))],[(0,.var [.d (.sl 1 (p.targets.map intD)),.d (.sl 1 (p.texts.map strD))])],some []⟩) (fun q=>p.targets.length - q.1) ⟨0,Nat.zero_le _,rfl⟩ le1 (fun q=>?_)
 obtain ⟨i,hi,hf⟩:=q
 simp only at hi hf ⊢
 rcases zD intD p.targets i hi with ⟨m,hq,hlt,hcmp,hrow,hdr,htk⟩|⟨hend,hcmp⟩
 ·simp only [intD] at hrow
  have hwi:=zn (i:=i) (by omega)
  refine' zc (zk hcmp hrow)
  ·rw [pfind,hf,hdr,idxP,if_pos hc]
  ·exact ⟨⟨i+1,by omega,by rw [hf,hdr,idxP,if_neg (by rw [hc];exact Bool.false_ne_true)]⟩,lew,by simp;omega⟩
 ·refine' zc hcmp
  rw [pfind,hf,hend,List.drop_length]
  rfl
@[go_sem] noncomputable def zdW:Ent Tryz.prog 99:= .m2 zN (intT .i64) zrW
theorem zrX (d:Disk) (p:Plan) (at_:Int) (hp:DiskOk d∧PlanOk p∧p.targets.length=p.texts.length):AC 108 [diskA d,planA p,.d (.int .i64 at_)] (.tup [.d (.str (plook d p at_).1),.d (.int .i64 (plook d p at_).2)]):=by
 obtain ⟨hd,hp,hl⟩:=hp
 refine bod Tryz.func108 Tryz.ntmps108 (fun base=>?_)
 rcases zcQ p.targets at_ with hk|⟨k,hk,hkl⟩
 ·refine' walkW hk (za zdW <| za zcj <| zb _)
  rw [plook,hk,if_neg (by omega)]
 ·obtain ⟨s,hq⟩:=zai (l:=p.texts) (i:=k) (by omega)
  have hrow:=za1 (g:=strD) hq
  simp only [strD] at hrow
  have h1:decide ((0:Int)≤(k:Int))=true:=decide_eq_true (by omega)
  have h2:decide ((k:Int)<(p.texts.length:Int))=true:=decide_eq_true (by omega)
  refine' walkW (zaH hk hrow natC h1 h2) (za zdW <| za zcj <| zb _)
  rw [plook,hk,if_pos (by omega),Int.toNat_natCast,List.getD_eq_getElem?_getD,hq]
  rfl
@[go_sem] noncomputable def z6:Ent Tryz.prog 108:= .m3 zA zN (intT .i64) zrX
theorem zfA {α:Type} (g:α→List D) (l:List α) (x:α) (r:List D) (hr:r=g x) {k:Nat} :(if l.length+1=(l.map g++ [r]).length then AV.d (D.sl k (List.take (l.length+1) (l.map g++ [r]))) else AV.any)=AV.d (.sl k ((l++ [x]).map g)):=by
 have h1:l.length+1=(l.map g++ [r]).length:=by simp
 rw [if_pos h1,List.take_of_length_le (Nat.le_of_eq h1.symm),hr,List.map_append]
 rfl
theorem zoZ {k n:Nat} {X:List (List D)} (h:X.length=n):(if n=X.length then AV.d (D.sl k (List.take n X)) else AV.any)=AV.d (.sl k X):=by
 rw [if_pos h.symm,List.take_of_length_le (Nat.le_of_eq h)]
theorem zrY {l:List Txt} {k:Nat} {s:Txt} (hk:k<l.length):(l.map strD).set k (((l.map strD).getD k []).set 0 (D.str s))=(l.set k s).map strD:=by
 obtain ⟨x,hq⟩:=zai hk
 rw [za1 (g:=strD) hq,List.map_set]
 rfl
theorem zt9 (p:Plan) (at_:Int) (s:Txt) (hp:PlanOk p∧p.targets.length=p.texts.length∧p.targets.length≤24):AC 69 [planA p,.d (.int .i64 at_),.d (.str s)] (.tup [planA (pset p at_ s).1,.d (.int .i64 (pset p at_ s).2)]):=by
 obtain ⟨hp,hl,h24⟩:=hp
 refine fbod Tryz.func69 Tryz.ntmps69 (fun base=>?_)
 rcases zcQ p.targets at_ with hk|⟨k,hk,hkl⟩
 ·refine' walkW hk (za zeA <| za zdW <| zb _)
  all_goals first|(simp_all [pset];done)|skip
  rw [zfA intD p.targets at_ [D.int .i64 at_] rfl,zfA strD p.texts s [D.str s] rfl]
  by_cases h6:24≤(p.targets.length:Int)
  ·exfalso;simp_all;omega
  ·simp_all [pset]
   simp only [if_neg (show ¬(24:Int)≤p.texts.length by omega)]
   simp
 ·have h1:decide ((0:Int)≤(k:Int))=true:=decide_eq_true (by omega)
  refine' walkW (zr hk natC h1) (za zeA <| za zdW <| zb _)
  all_goals first|(simp_all [pset];done)|skip
  rw [zrY (by omega),zoZ (by simp)]
  simp_all [pset]
@[go_sem] noncomputable def zaY:Ent Tryz.prog 69:= .m3 zN (intT .i64) strT zt9
theorem zpZ (d:Disk) (p:Plan) (at_ off:Int) (s:Txt) (hp:DiskOk d∧d.cache.all (putOk d)=true∧pfit p=true∧s.length≤9223372036854775807):AC 104 [diskA d,planA p,.d (.int .i64 at_),.d (.int .i64 off),.d (.str s)] (.tup [planA (zfR d p at_ off s).1,.d (.int .i64 (zfR d p at_ off s).2)]):=by
 obtain ⟨hd,hf,hp,hs⟩:=hp
 refine fbod Tryz.func104 Tryz.ntmps104 (fun base=>?_)
 obtain ⟨hl,h24,h64⟩:=zaJ hp
 have hpo:PlanOk p:=⟨by omega,by omega⟩
 have hb:=zlE (at_:=at_) hf hp
 refine' walkW fx (za z6 <| za zag <| za zaY <| zb _)
 all_goals first|(simp_all [zfR];done)|skip
@[go_sem] noncomputable def za5:Ent Tryz.prog 104:= .m5 zA zN (intT .i64) (intT .i64) strT zpZ
open Go Go.Proofs
theorem znj (at_:Int) (_:True):AC 279 [.d (.int .i64 at_)] (.d (.bool (!secOk at_))):=by
 refine bod Tryz.func279 Tryz.ntmps279 (fun base=>?_)
 refine' zc fx
 congr 2
 rw [secOk,Bool.not_and]
 congr 1
 ·by_cases h:at_<0
  ·rw [decide_eq_true h,decide_eq_false (by omega)];rfl
  ·rw [decide_eq_false h,decide_eq_true (by omega)];rfl
 ·by_cases h:at_<1024
  ·rw [decide_eq_true h,decide_eq_false (by omega)];rfl
  ·rw [decide_eq_false h,decide_eq_true (by omega)];rfl
@[go_sem] noncomputable def zbU:Ent Tryz.prog 279:= .m1 (intT .i64) znj
theorem zo0 (l:List Int) (x:Int) (k:Nat):idxP (fun q=>x==q) l k=idxP (fun q=>q==x) l k:=by
 have:(fun q:Int=>x==q)=(fun q=>q==x):=by funext q;exact BEq.comm
 rw [this]
theorem zuc (d:Disk) (p:Plan) (at_:Int) (hp:DiskOk d∧PlanOk p∧p.targets.length=p.texts.length):AC 140 [diskA d,planA p,.d (.int .i64 at_)] (.tup [.d (.str (plook d p at_).1),.d (.int .i64 (plook d p at_).2)]):=by
 obtain ⟨hd,hp,hl⟩:=hp
 refine bod Tryz.func140 Tryz.ntmps140 (fun base=>?_)
 have ht:=hp.targets
 have hsw:=zo0 p.targets at_ 0
 rcases zcQ p.targets at_ with hk|⟨k,hk,hkl⟩
 ·have hk':=hk
  unfold pfind at hk'
  refine' walkW (zk hsw hk') (za zbt <| za zv <| zb _)
  rw [plook,hk,if_neg (by omega)]
 ·have hk':=hk
  unfold pfind at hk'
  obtain ⟨s,hq⟩:=zai (l:=p.texts) (i:=k) (by omega)
  have hrow:=za1 (g:=strD) hq
  simp only [strD] at hrow
  have h1:decide ((0:Int)≤(k:Int))=true:=decide_eq_true (by omega)
  refine' walkW (zaH hsw hk' hrow natC h1) (za zbt <| za zv <| zb _)
  rw [plook,hk,if_pos (by omega),Int.toNat_natCast,List.getD_eq_getElem?_getD,hq]
  rfl
@[go_sem] noncomputable def zaE:Ent Tryz.prog 140:= .m3 zA zN (intT .i64) zuc
open Go Go.Proofs
theorem zi5 (l:List Int) (fl:Nat) (hl:l.length≤5000):ACall Tryz.prog 288 fl [.d (.sl 1 (l.map intD))] [] (fun r h'=>r= .osl fl 1 l.length 0 l.length∧h'= [(fl,.arr 1 (l.map intD))]):=by
 refine bod Tryz.func288 Tryz.ntmps288 (fun base=>?_)
 refine' zdS (zbh 2) fx
 ·refine zh noTab (zb _) (fun K hK=>?_);simp only [go_sem,aeq,aeq.aeqF,simprocAttr]
  (first|(refine hK _ ?_;clear hK K)|(clear hK K;refine hK _ ?_;clear hK K)|(clear hK K;clear hK K;refine hK _ ?_;clear hK K)|(clear hK K;clear hK K;clear hK K;refine hK _ ?_;clear hK K)|(clear hK K;clear hK K;clear hK K;clear hK K;refine hK _ ?_;clear hK K))
  refine zcg 2 1 rfl ?_
  have h0:l= []:=List.map_eq_nil_iff.1 (hnb hc)
  subst h0
  refine' zc fx
  all_goals rfl
theorem zi6 (l:List Txt) (fl:Nat) (hl:l.length≤5000):ACall Tryz.prog 289 fl [.d (.sl 1 (l.map strD))] [] (fun r h'=>r= .osl fl 1 l.length 0 l.length∧h'= [(fl,.arr 1 (l.map strD))]):=by
 refine bod Tryz.func289 Tryz.ntmps289 (fun base=>?_)
 refine' zdS (zbh 2) fx
 ·refine zh noTab (zb _) (fun K hK=>?_);simp only [go_sem,aeq,aeq.aeqF,simprocAttr]
  (first|(refine hK _ ?_;clear hK K)|(clear hK K;refine hK _ ?_;clear hK K)|(clear hK K;clear hK K;refine hK _ ?_;clear hK K)|(clear hK K;clear hK K;clear hK K;refine hK _ ?_;clear hK K)|(clear hK K;clear hK K;clear hK K;clear hK K;refine hK _ ?_;clear hK K))
  refine zcg 2 1 rfl ?_
  have h0:l= []:=List.map_eq_nil_iff.1 (hnb hc)
  subst h0
  refine' zc fx
  all_goals rfl
theorem zvI (l:List Int) (h:l.length≤5000) (fl:Nat):ACall Tryz.prog 288 fl [.d (.sl 1 (l.map intD))] [] (fun r h'=>r= .osl fl 1 (l.map intD).length 0 (l.map intD).length∧h'= [(fl,.arr 1 (l.map intD))]):=by
 rw [List.length_map];exact zi5 l fl h
theorem zvJ (l:List Txt) (h:l.length≤5000) (fl:Nat):ACall Tryz.prog 289 fl [.d (.sl 1 (l.map strD))] [] (fun r h'=>r= .osl fl 1 (l.map strD).length 0 (l.map strD).length∧h'= [(fl,.arr 1 (l.map strD))]):=by
 rw [List.length_map];exact zi6 l fl h
theorem zwk (p:Plan) (at_:Int) (s:Txt) (hp:PlanOk p∧p.targets.length=p.texts.length∧p.targets.length≤24):AC 277 [planA p,.d (.int .i64 at_),.d (.str s)] (.tup [planA (pset p at_ s).1,.d (.int .i64 (pset p at_ s).2)]):=by
 obtain ⟨hp,hl,h24⟩:=hp
 refine fbod Tryz.func277 Tryz.ntmps277 (fun base=>?_)
 have hsw:=zo0 p.targets at_ 0
 rcases zcQ p.targets at_ with hk|⟨k,hk,hkl⟩
 ·have hk':=hk
  unfold pfind at hk'
  refine' zhe (ownsL [288,289]) (zk hsw hk') (za zbU <| za zbt <| zb _)
  all_goals first|(simp_all [pset];done)|skip
  refine ⟨_,_,zvI p.targets (by omega),_,_,zvJ p.texts (by omega),by kernel_rfl,hK _ ?_⟩
  clear hK K
  simp only [List.length_map]
  refine' walkW (zk hsw hk') (za zbU <| za zbt <| zb _)
  all_goals first|(simp_all [pset];done)|skip
  rw [zfA intD p.targets at_ [D.int .i64 at_] rfl,zfA strD p.texts s [D.str s] rfl]
  by_cases h6:24≤(p.targets.length:Int)
  ·exfalso;simp_all;omega
  ·simp_all [pset]
   simp only [if_neg (show ¬(24:Int)≤p.texts.length by omega)]
   simp
 ·have hk':=hk
  unfold pfind at hk'
  have h1:decide ((0:Int)≤(k:Int))=true:=decide_eq_true (by omega)
  refine' zhe (ownsL [288,289]) (zk hsw hk') (za zbU <| za zbt <| zb _)
  all_goals first|(simp_all [pset];done)|skip
  refine ⟨_,_,zvI p.targets (by omega),_,_,zvJ p.texts (by omega),by kernel_rfl,hK _ ?_⟩
  clear hK K
  simp only [List.length_map]
  refine' walkW (zS hsw hk' h1 natC) (za zbU <| za zbt <| zb _)
  all_goals first|(simp_all [pset];done)|skip
  rw [zrY (by omega),zoZ (by simp)]
  simp_all [pset]
@[go_sem] noncomputable def zda:Ent Tryz.prog 277:= .m3 zN (intT .i64) strT zwk
end Go.Aw
