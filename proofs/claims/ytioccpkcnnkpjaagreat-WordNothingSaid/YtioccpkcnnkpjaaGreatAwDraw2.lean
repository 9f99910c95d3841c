/-
  An operation hangs on its operands and the heap alone; a selection of a region's operations, carried out.
-/
import Derived.Test.YtioccpkcnnkpjaaGreatAwDraw
namespace Go.Aw
set_option maxRecDepth 100000
set_option linter.unusedSimpArgs false
set_option linter.unusedVariables false
open Go

section
variable {cx : Cx} {tab : Tab} {P : Program} {s s' : AS}

theorem avSlice_e {t : TypeId} {x : AV} {lo hi mx : Option Operand} (hl : ∀ y ∈ lo.toList, s.ev y = s'.ev y) (hhi : ∀ y ∈ hi.toList, s.ev y = s'.ev y) (hm : ∀ y ∈ mx.toList, s.ev y = s'.ev y) (hh : s.h = s'.h) : avSlice P s t x lo hi mx = avSlice P s' t x lo hi mx := by
  unfold avSlice
  simp only [bnd_e hl, bnd_e hhi, bnd_e hm, AS.cur, hh]

theorem avCall_e {c : Call} (he : ∀ y ∈ c.args.toList, s.ev y = s'.ev y) (hh : s.h = s'.h) : avCall P s c = avCall P s' c := by
  have hm : c.args.toList.map s.ev = c.args.toList.map s'.ev := List.map_congr_left he
  unfold avCall
  rw [hm]
  split
  · split
    · rename_i x t hx ht
      rw [he x (by rw [hx]; simp), avLen_h hh]
    · rfl
  · rfl
  · rfl
  · rfl

theorem aval_e {op : Op} (he : ∀ x ∈ opndsOf op, s.ev x = s'.ev x) (hh : s.h = s'.h) : aval P s op = aval P s' op := by
  cases op
  case makeFunc f fs cs =>
    simp only [opndsOf, Array.toList_append, List.mem_append] at he
    simp only [aval, Array.toList_append, List.all_append, all_e (fun y hy => he y (.inl hy)), all_e (fun y hy => he y (.inr hy)), map_e (fun y hy => he y (.inl hy)), map_e (fun y hy => he y (.inr hy))]
  case slice t x lo hi mx =>
    simp only [opndsOf, List.mem_cons, List.mem_append] at he
    simp only [aval, he x (.inl rfl), avSlice_e (fun y hy => he y (.inr (.inl (.inl hy)))) (fun y hy => he y (.inr (.inl (.inr hy)))) (fun y hy => he y (.inr (.inr hy))) hh]
  case call c =>
    simp only [opndsOf, List.mem_append] at he
    simp only [aval, avCall_e (fun y hy => he y (.inr hy)) hh]
  all_goals
    simp only [opndsOf, List.mem_cons, List.not_mem_nil, or_false, forall_eq_or_imp, forall_eq] at he
    simp only [aval, he, hh, avLookup_h hh, avLoad_h hh, avFieldAddr_h hh, avIndexAddr_h hh, AS.cur]

theorem callOf_e {c : Call} (he : ∀ x ∈ opndsOf (.call c), s.ev x = s'.ev x) : callOf P s c = callOf P s' c := by
  simp only [opndsOf, List.mem_append] at he
  unfold callOf
  split
  · rename_i f hf
    rw [hf] at he
    rw [he f (.inl (by simp)), all_e (fun y hy => he y (.inr hy)), zip_e (fun y hy => he y (.inr hy))]
  · rfl

theorem rowsK_h {k : Nat} {x : AV} (hh : s.h = s'.h) : rowsK s k x = rowsK s' k x := by unfold rowsK; rw [hh]
theorem rowsT_h {k : Nat} {t : TypeId} {x : AV} (hh : s.h = s'.h) : rowsT P s k t x = rowsT P s' k t x := by unfold rowsT; rw [rowsK_h hh]
theorem nilness_h {x : AV} {R : Bool → Prop} (hh : s.h = s'.h) : nilness s x R = nilness s' x R := by unfold nilness AS.cur; rw [hh]

theorem aextra_e {fl : Nat} {op : Op} {K : AV → AHeap → Prop} (he : ∀ x ∈ opndsOf op, s.ev x = s'.ev x) (hh : s.h = s'.h) (h : aextra fl P s op K) : aextra fl P s' op K := by
  cases op
  case call c =>
    simp only [opndsOf, List.mem_append] at he
    unfold aextra at h ⊢
    dsimp only at h ⊢
    split at h
    · rename_i hcal
      try rw [hcal]
      try dsimp only
      split at h
      · rename_i x y t u ha ht
        try rw [ha, ht]
        try dsimp only
        rw [ha] at he
        rw [← he x (.inr (by simp)), ← he y (.inr (by simp)), ← hh]
        split at h
        · rename_i e hte
          try rw [hte]
          try dsimp only
          rw [← rowsT_h hh]
          exact h
        · exact h.elim
      · exact h.elim
    · rename_i hcal
      try rw [hcal]
      try dsimp only
      split at h
      · rename_i x y t u ha ht
        try rw [ha, ht]
        try dsimp only
        rw [ha] at he
        rw [← he x (.inr (by simp)), ← he y (.inr (by simp)), ← hh]
        split at h
        · rename_i e hte
          try rw [hte]
          try dsimp only
          rw [← rowsT_h hh]
          exact h
        · exact h.elim
      · exact h.elim
    · rename_i hcal
      try rw [hcal]
      try dsimp only
      split at h
      · rename_i x t ha ht
        try rw [ha, ht]
        try dsimp only
        rw [ha] at he
        rw [← he x (.inr (by simp)), ← hh]
        split at h
        · rename_i e hte
          try rw [hte]
          try dsimp only
          exact h
        · exact h.elim
      · exact h.elim
    · exact h.elim
  all_goals first
    | (simp only [opndsOf, List.mem_cons, List.not_mem_nil, or_false, forall_eq_or_imp, forall_eq] at he
       simp only [aextra, he, hh, esOf_h hh, rowsK_h hh, nilness_h hh] at h ⊢ <;> exact h)
    | (simp only [aextra, hh] at h ⊢ <;> exact h)

theorem aeff_e {fl : Nat} {op : Op} {K : AV → AHeap → Prop} (he : ∀ x ∈ opndsOf op, s.ev x = s'.ev x) (hh : s.h = s'.h) (h : aeff fl P s op K) : aeff fl P s' op K := by
  cases op
  case build t parts =>
    simp only [opndsOf] at he
    have e1 := allp_e he
    have e2 : ∀ f : Nat → TypeId, (parts.toList.map fun p => (p.1, ((s.ev p.2).2.tag P (f p.1)))) = parts.toList.map fun p => (p.1, ((s'.ev p.2).2.tag P (f p.1))) := fun f => mapp_e he f
    simp only [aeff] at h ⊢
    rw [← e1, ← hh]
    refine ⟨h.1, h.2.1, ?_⟩
    have h3 := h.2.2
    split at h3
    · rename_i fs hf
      rw [← e2 (fun i => (fs.getD i (0, 0)).2)]
      exact h3
    · rename_i n e hf
      rw [← e2 (fun _ => e)]
      exact h3
    · exact h3
  case buildSlice t len parts =>
    simp only [opndsOf] at he
    have e1 := allp_e he
    have e2 : ∀ f : Nat → TypeId, (parts.toList.map fun p => (p.1, ((s.ev p.2).2.tag P (f p.1)))) = parts.toList.map fun p => (p.1, ((s'.ev p.2).2.tag P (f p.1))) := fun f => mapp_e he f
    simp only [aeff] at h ⊢
    split at h
    · rename_i e hf
      rw [← e1, ← hh, ← e2 (fun _ => e)]
      exact h
    · exact h
  all_goals first
    | (have h2 := aextra_e (fl := fl) (K := K) he hh (by simpa only [aeff] using h); simpa only [aeff] using h2)
    | (simp only [opndsOf, List.mem_cons, List.not_mem_nil, or_false, forall_eq_or_imp, forall_eq] at he
       simp only [aeff, he, hh] at h ⊢ <;> exact h)
    | (simp only [aeff, hh] at h ⊢ <;> exact h)

theorem fop_e {G : Bool} {o : Oper} {R : Bool → AV → AHeap → Prop} (he : ∀ x ∈ opndsOf o.op, s.ev x = s'.ev x ∧ known s x = known s' x) (hh : s.h = s'.h) (h : fop cx tab s G o R) : fop cx tab s' G o R := by
  have he1 : ∀ x ∈ opndsOf o.op, s.ev x = s'.ev x := fun x hx => (he x hx).1
  unfold fop at h
  split at h
  · rename_i x ho
    rw [ho] at he
    have := he x (by simp [opndsOf])
    rw [this.1, this.2, hh] at h
    unfold fop; rw [ho]; exact h
  · rename_i x ho
    rw [ho] at he
    have := he x (by simp [opndsOf])
    rw [this.1, this.2, hh] at h
    unfold fop; rw [ho]; exact h
  · rename_i c a b ho
    rw [ho] at he1
    simp only [opndsOf, List.mem_cons, List.not_mem_nil, or_false, forall_eq_or_imp, forall_eq] at he1
    rw [he1.1, he1.2.1, he1.2.2, hh] at h
    unfold fop; rw [ho]; exact h
  · rename_i c ho
    rw [ho] at he1
    have hae : ∀ (K : AV → AHeap → Prop), aeff cx.fl cx.P s (.call c) K → aeff cx.fl cx.P s' (.call c) K := fun K hk => aeff_e he1 hh hk
    rw [aval_e he1 hh, callOf_e he1, hh] at h
    unfold fop; rw [ho]; dsimp only
    split at h
    · rename_i hv; rw [if_pos hv]; exact h
    · rename_i hv
      rw [if_neg hv]
      split at h
      · exact h
      · exact ⟨h.1, hae _ h.2⟩
  · rename_i n1 n2 n3 n4
    rw [aval_e he1 hh, hh] at h
    refine (fop_other n1 n2 n3 n4).mpr ?_
    split at h
    · rename_i hv
      rw [if_pos hv]; exact h
    · rename_i hv
      rw [if_neg hv]
      exact ⟨h.1, h.2.1, aeff_e he1 hh h.2.2⟩

/-- What touches no memory comes to the same over another heap. -/
theorem fop_cold {G : Bool} {o : Oper} {g : Bool} {v : AV} {h' : AHeap} (hc : heapOp o.op = false) (hh : h' = s.h) (h : ∀ R : Bool → AV → AHeap → Prop, R g v h' → fop cx tab s G o R) (k : AHeap) (R : Bool → AV → AHeap → Prop) (hr : R g v k) : fop cx tab { s with h := k } G o R := by
  have h1 := h (fun g v _ => R g v k) hr
  have hev : ∀ x, AS.ev { s with h := k } x = s.ev x := fun x => by cases x <;> rfl
  have hkn : ∀ x, known { s with h := k } x = known s x := fun x => by cases x <;> rfl
  unfold fop at h1
  split at h1
  · rename_i x ho
    unfold fop; rw [ho]; simp only [hev, hkn]; exact h1
  · rename_i x ho
    unfold fop; rw [ho]; simp only [hev, hkn]; exact h1
  · rename_i x y z ho
    unfold fop; rw [ho]; simp only [hev]; exact h1
  · rename_i c ho; rw [ho] at hc; cases hc
  · rename_i n1 n2 n3 n4
    refine (fop_other n1 n2 n3 n4).mpr ?_
    cases hop : o.op
    case binOp op t x y u =>
      rw [hop] at h1
      simp only [aval, hev] at h1 ⊢
      split at h1
      · rename_i hv; rw [if_pos hv]; exact h1
      · exact absurd h1.2.1 (by simp [detOp])
    case move x => exact (n1 x hop).elim
    case assign x => exact (n2 x hop).elim
    case pick x y z => exact (n3 x y z hop).elim
    all_goals (rw [hop] at hc; cases hc)
end
end Go.Aw
