/-
  One object of the private heap changes, or comes: all else is said as before.
-/
import Derived.Test.YtioccpkcnnkpjaaGreatAwOpOk3
namespace Go.Aw
set_option maxRecDepth 100000
set_option linter.unusedSimpArgs false
set_option linter.unusedVariables false
open Go

theorem hget_hset_same : ∀ {h : AHeap} {i : Nat} {o o' : AObj}, hget h i = some o → hget (hset h i o') i = some o'
  | [], i, o, o', h => by simp [hget] at h
  | (j, oj) :: r, i, o, o', h => by
    simp only [hget, hset] at h ⊢
    by_cases e : j = i
    · simp [e, hget]
    · simp only [e, if_false] at h ⊢
      simp [hget, e, hget_hset_same h]
theorem hget_hset_other : ∀ {h : AHeap} {i j : Nat} {o' : AObj}, j ≠ i → hget (hset h i o') j = hget h j
  | [], i, j, o', _ => by simp [hset]
  | (k, ok) :: r, i, j, o', hne => by
    simp only [hset]
    by_cases e : k = i
    · simp only [e, if_true, hget]
      by_cases e2 : i = j
      · exact absurd e2.symm hne
      · simp [e2]
    · simp only [e, if_false, hget, hget_hset_other hne]

theorem lt_top {fl : Nat} : ∀ {h : AHeap} {i : Nat}, (hget h i).isSome → i < top fl h
  | [], i, hi => by simp [hget] at hi
  | (k, o) :: r, i, hi => by
    simp only [hget] at hi
    simp only [top]
    by_cases e : k = i
    · subst e; split <;> omega
    · rw [if_neg e] at hi
      have := lt_top (fl := fl) hi
      split <;> omega
theorem fl_le_top (fl : Nat) : ∀ (h : AHeap), fl ≤ top fl h
  | [] => Nat.le_refl _
  | (k, o) :: r => by
    have := fl_le_top fl r
    simp only [top]
    split <;> omega
theorem fl_le_fresh (fl : Nat) (h : AHeap) : fl ≤ fresh fl h := by
  unfold fresh
  split
  · exact fl_le_top fl h
  · exact Nat.le_refl _
theorem hget_top (fl : Nat) (h : AHeap) : hget h (top fl h) = none := by
  cases e : hget h (top fl h) with
  | none => rfl
  | some o => exact absurd (lt_top (fl := fl) (h := h) (i := top fl h) (by rw [e]; rfl)) (Nat.lt_irrefl _)
theorem hget_fresh (fl : Nat) (h : AHeap) : hget h (fresh fl h) = none := by
  unfold fresh
  split
  · exact hget_top fl h
  · rename_i e; simpa using e
theorem fresh_at {fl : Nat} {h : AHeap} (e : hget h fl = none) : fresh fl h = fl := by
  unfold fresh
  rw [e]; rfl

def Env.set (E : Env) (i : Nat) (b : Option Nat) (c : Nat) : Env := { E with O := fun j => if j = i then b else E.O j, C := fun j => if j = i then c else E.C j }

section
variable {E E' : Env} {h h' : AHeap} {w w' : World} {i : Nat}

/-- What stands when object i alone changes. -/
structure Chg (E : Env) (h : AHeap) (w : World) (E' : Env) (h' : AHeap) (w' : World) (i : Nat) : Prop where
  os : w'.os = w.os
  tape : w'.tape = w.tape
  output : w'.output = w.output
  size : w.heap.size ≤ w'.heap.size
  envO : ∀ j, j ≠ i → E'.O j = E.O j
  envC : ∀ j, j ≠ i → E'.C j = E.C j
  M : E'.M = E.M
  N : E'.N = E.N
  hh : ∀ j, j ≠ i → hget h' j = hget h j
  gi : GoesOn E h E' h' i
  blk : ∀ b, b < w.heap.size → ¬ ((hget h i).isSome ∧ E.O i = some b) → w'.heap[b]? = w.heap[b]?
  new : ∀ b, (hget h' i).isSome → E'.O i = some b → ((hget h i).isSome ∧ E.O i = some b) ∨ (w.heap.size ≤ b ∧ b < w'.heap.size)

theorem Chg.goesOn (c : Chg E h w E' h' w' i) (j : Nat) : GoesOn E h E' h' j := by
  by_cases e : j = i
  · subst e; exact c.gi
  · unfold GoesOn
    rw [c.hh j e]
    cases hj : hget h j with
    | none => trivial
    | some o => cases o <;> simp [c.envO j e, c.envC j e]

theorem Chg.own (c : Chg E h w E' h' w' i) {b : Nat} (ho : Own E' h' b) : Own E h b ∨ w.heap.size ≤ b := by
  obtain ⟨j, hj, hb⟩ := ho
  by_cases e : j = i
  · subst e
    rcases c.new b hj hb with ⟨h1, h2⟩ | ⟨h1, _⟩
    · exact .inl ⟨j, h1, h2⟩
    · exact .inr h1
  · exact .inl ⟨j, by rwa [← c.hh j e], by rwa [← c.envO j e]⟩

theorem Chg.hX (c : Chg E h w E' h' w' i) : ∀ b, b < w.heap.size → Xs E' h' b → Xs E h b := fun b hb hx => by
  rcases hx with hx | hx | hx
  · rcases c.own hx with h1 | h1
    · exact .inl h1
    · omega
  · exact .inr (.inl (by rwa [← c.M]))
  · exact .inr (.inr (by rwa [← c.N]))

theorem Chg.hK (c : Chg E h w E' h' w' i) : ∀ b, b < w.heap.size → ¬ Xs E h b → w'.heap[b]? = w.heap[b]? := fun b hb hx =>
  c.blk b hb (fun ⟨h1, h2⟩ => hx (.inl ⟨i, h1, h2⟩))

theorem Chg.rep (c : Chg E h w E' h' w' i) {a : AV} {v : Value} (hr : Rep w E h a v) : Rep w' E' h' a v := Rep.step c.hX c.hK a v (fun j _ => c.goesOn j) hr
theorem Chg.reps (c : Chg E h w E' h' w' i) {a : List AV} {v : List Value} (hr : Reps w E h a v) : Reps w' E' h' a v := Reps.step c.hX c.hK a v (fun j _ => c.goesOn j) hr
theorem Chg.rows (c : Chg E h w E' h' w' i) {k : Nat} {xs : List (List D)} {v : List Value} (hr : RepRows w (Xs E h) k xs v) : RepRows w' (Xs E' h') k xs v := RepRows.step c.hX c.hK k xs v hr

theorem Chg.evo {fl : Nat} (c : Chg E h w E' h' w' i) (hf : (hget h i).isSome ∨ fl ≤ i) : Evo fl E h w E' h' w' where
  os := c.os
  tape := c.tape
  output := c.output
  size := c.size
  keep := fun b hb ho _ => c.blk b hb (fun ⟨h1, h2⟩ => ho ⟨i, h1, h2⟩)
  own := fun b hb => c.own hb
  m1 := fun b hb => by rwa [c.M]
  m2 := fun b hb => .inl (by rwa [← c.M])
  n := c.N
  go := fun j hj hl => ⟨by
    by_cases e : j = i
    · subst e; rcases hf with h | h
      · exact h
      · omega
    · rwa [← c.hh j e], c.goesOn j⟩

theorem Chg.satH (c : Chg E h w E' h' w' i) (hs : SatH E h w) (hob : ∀ o, hget h' i = some o → RepObj w' E' h' i o) : SatH E' h' w' where
  heap := fun j o ho => by
    by_cases e : j = i
    · subst e; exact hob o ho
    · have ho' := ho
      rw [c.hh j e] at ho'
      have := hs.heap j o ho'
      have hne : ∀ b, E.O j = some b → ¬ ((hget h i).isSome ∧ E.O i = some b) := fun b hb ⟨h1, h2⟩ => e (hs.inj j i b (by simp [ho']) h1 hb h2)
      have hlt : ∀ b, E.O j = some b → b < w.heap.size := fun b hb => (hs.own b ⟨j, by simp [ho'], hb⟩).1
      cases o with
      | var cs =>
        simp only [RepObj] at this ⊢
        obtain ⟨b, d, T, fz, h1, h2, h3, h4⟩ := this
        exact ⟨b, d, T, fz, by rw [c.envO j e]; exact h1, (c.blk b (hlt b h1) (hne b h1)).trans h2, c.reps h3, h4⟩
      | tvar tt cs =>
        simp only [RepObj] at this ⊢
        obtain ⟨b, d, T, fz, h1, h2, h3, h4⟩ := this
        exact ⟨b, d, T, fz, by rw [c.envO j e]; exact h1, (c.blk b (hlt b h1) (hne b h1)).trans h2, c.reps h3, h4⟩
      | arr k xs =>
        simp only [RepObj, c.envO j e, c.envC j e] at this ⊢
        rcases this with h0 | ⟨b, d, T, fz, h1, h2, h3, h4, h5, h6⟩
        · exact .inl h0
        · exact .inr ⟨b, d, T, fz, h1, (c.blk b (hlt b h1) (hne b h1)).trans h2, h3, h4, c.rows h5, h6⟩
      | buf tt xs =>
        simp only [RepObj, c.envO j e, c.envC j e] at this ⊢
        rcases this with h0 | ⟨b, d, T, fz, h1, h2, h3, h4, h5, h6⟩
        · exact .inl h0
        · exact .inr ⟨b, d, T, fz, h1, (c.blk b (hlt b h1) (hne b h1)).trans h2, h3, h4, h5, h6⟩
      | strit l p =>
        simp only [RepObj, c.envO j e] at this ⊢
        obtain ⟨b, h1, h2⟩ := this
        exact ⟨b, h1, (c.blk b (hlt b h1) (hne b h1)).trans h2⟩
      | omap es =>
        simp only [RepObj, c.envO j e] at this ⊢
        obtain ⟨b, m, cl, h1, h2, h3⟩ := this
        exact ⟨b, m, cl, h1, (c.blk b (hlt b h1) (hne b h1)).trans h2, h3⟩
  inj := fun j l b hj hl h1 h2 => by
    have key : ∀ j b, j ≠ i → (hget h' j).isSome → E'.O j = some b → (hget h' i).isSome → E'.O i = some b → j = i := fun j b e hj h1 hi h2 => by
      rw [c.hh j e] at hj
      rw [c.envO j e] at h1
      have hb := (hs.own b ⟨j, hj, h1⟩).1
      rcases c.new b hi h2 with ⟨h3, h4⟩ | ⟨h3, _⟩
      · exact hs.inj j i b hj h3 h1 h4
      · omega
    by_cases e1 : j = i
    · by_cases e2 : l = i
      · rw [e1, e2]
      · subst e1; exact (key l b e2 hl h2 hj h1).symm
    · by_cases e2 : l = i
      · subst e2; exact key j b e1 hj h1 hl h2
      · exact hs.inj j l b (by rwa [← c.hh j e1]) (by rwa [← c.hh l e2]) (by rwa [← c.envO j e1]) (by rwa [← c.envO l e2])
  own := fun b hb => by
    rcases hb with ⟨j, hj, hb⟩
    rw [c.M, c.N]
    by_cases e : j = i
    · subst e
      rcases c.new b hj hb with ⟨h1, h2⟩ | ⟨h1, h2⟩
      · have := hs.own b ⟨j, h1, h2⟩
        exact ⟨Nat.lt_of_lt_of_le this.1 c.size, this.2⟩
      · exact ⟨h2, fun hm => by have := hs.mlt b hm; omega, fun hm => by have := hs.nlt b hm; omega⟩
    · have := hs.own b ⟨j, by rwa [← c.hh j e], by rwa [← c.envO j e]⟩
      exact ⟨Nat.lt_of_lt_of_le this.1 c.size, this.2⟩
  mlt := fun b hb => Nat.lt_of_lt_of_le (hs.mlt b (by rwa [← c.M])) c.size
  nlt := fun b hb => Nat.lt_of_lt_of_le (hs.nlt b (by rwa [← c.N])) c.size

theorem Marks.step {base : Nat} {ds : List Deferred} (hm : Marks base E w ds) (hM : ∀ b, b < w.heap.size → E'.M b → E.M b)
    (hk : ∀ r, w.heap[r]? = some (.deferred (some [])) → ¬ E.M r → w'.heap[r]? = w.heap[r]?) : Marks base E' w' ds := by
  refine ⟨fun d hd => ?_, hm.2⟩
  obtain ⟨r, h1, h2, h3, h4⟩ := hm.1 d hd
  exact ⟨r, h1, (hk r h2 h4).trans h2, h3, fun h => h4 (hM r (Array.getElem?_eq_some_iff.1 h2).1 h)⟩

/-- A mark's block is nobody's object. -/
theorem SatH.not_mark (hs : SatH E h w) {r : Nat} {ds : Option (List Deferred)} (hr : w.heap[r]? = some (.deferred ds)) : ¬ Own E h r := by
  rintro ⟨j, hj, hb⟩
  obtain ⟨o, ho⟩ := Option.isSome_iff_exists.1 hj
  have := hs.heap j o ho
  cases o with
  | var cs => simp only [RepObj] at this; obtain ⟨b, d, T, fz, h1, h2, _⟩ := this; rw [hb] at h1; cases h1; rw [hr] at h2; cases h2
  | tvar tt cs => simp only [RepObj] at this; obtain ⟨b, d, T, fz, h1, h2, _⟩ := this; rw [hb] at h1; cases h1; rw [hr] at h2; cases h2
  | arr k xs =>
    simp only [RepObj] at this
    rcases this with ⟨h0, _⟩ | ⟨b, d, T, fz, h1, h2, _⟩
    · rw [hb] at h0; cases h0
    · rw [hb] at h1; cases h1; rw [hr] at h2; cases h2
  | buf tt xs =>
    simp only [RepObj] at this
    rcases this with ⟨h0, _⟩ | ⟨b, d, T, fz, h1, h2, _⟩
    · rw [hb] at h0; cases h0
    · rw [hb] at h1; cases h1; rw [hr] at h2; cases h2
  | strit l p => simp only [RepObj] at this; obtain ⟨b, h1, h2⟩ := this; rw [hb] at h1; cases h1; rw [hr] at h2; cases h2
  | omap es => simp only [RepObj] at this; obtain ⟨b, m, c, h1, h2, _⟩ := this; rw [hb] at h1; cases h1; rw [hr] at h2; cases h2

/-- The whole state behind such a change. -/
theorem Chg.sat {cx : Cx} {t : List (Nat × (Bool × AV))} {g : Option (List (List AV))} {a : Act} (c : Chg E h w E' h' w' i) (hs : Sat cx E ⟨t, h, g⟩ a w) (hob : ∀ o, hget h' i = some o → RepObj w' E' h' i o) : Sat cx E' ⟨t, h', g⟩ a w' where
  slots := fun k gg v hk => by
    obtain ⟨x, h1, h2, h3⟩ := hs.slots k gg v hk
    exact ⟨x, h1, fun e => c.rep (h2 e), h3⟩
  nt := hs.nt
  hp := c.satH hs.hp hob
  base := Nat.le_trans hs.base c.size
  marks := hs.marks.step (fun b _ hb => by rwa [← c.M]) (fun r hr _ => c.blk r (Array.getElem?_eq_some_iff.1 hr).1 (fun ⟨h1, h2⟩ => hs.hp.not_mark hr ⟨i, h1, h2⟩))
  ghost := by
    rw [c.M, c.N]
    exact cx.stab _ _ _ _ _ _ _ (fun b hb ho => c.blk b hb (fun ⟨h1, h2⟩ => ho (.inl ⟨i, h1, h2⟩))) (fun b hb => hb.elim (fun hb => (c.own hb).imp .inl id) (fun hb => .inl (.inr hb))) (fun b hb => hb.elim (fun h => ((c.satH hs.hp hob).own b h).1) (fun h => Nat.lt_of_lt_of_le (hs.marks.lt h) c.size)) c.size c.tape c.os c.output hs.ghost

theorem Sat.put {cx : Cx} {s : AS} {a : Act} {d : Option Nat} {g : Bool} {v : AV} {x : Value} (hs : Sat cx E s a w) (hd : ∀ k, d = some k → k < cx.nt) (hr : g = true → Rep w E s.h v x) (hu : g = false → x = undef) :
    Sat cx E (s.put d g v) (a.put d x) w := by
  cases d with
  | none => exact hs
  | some k =>
    refine ⟨?_, by simp [Act.put, hs.nt], hs.hp, hs.base, hs.marks, hs.ghost⟩
    intro j gg u hj
    simp only [AS.put, lk] at hj
    split at hj
    · rename_i e; subst e
      simp only [Option.some.injEq, Prod.mk.injEq] at hj
      obtain ⟨rfl, rfl⟩ := hj
      have : k < a.tmps.size := by rw [hs.nt]; exact hd k rfl
      exact ⟨x, by simp [Act.put, this], hr, hu⟩
    · rename_i e
      obtain ⟨y, h1, h2⟩ := hs.slots j gg u hj
      refine ⟨y, ?_, h2⟩
      simp only [Act.put]
      rw [Array.getElem?_setIfInBounds_ne e]
      exact h1

end
end Go.Aw
