/-
  A heap in two parts: a call that is handed one of them leaves the other as it is.
-/
import Derived.Test.YtioccpkcnnkpjaaGreatAwTab
namespace Go.Aw
set_option maxRecDepth 100000
set_option linter.unusedSimpArgs false
set_option linter.unusedVariables false
open Go

/-- The names of a kind, out of a heap. -/
def hsel (p : Nat → Bool) : AHeap → AHeap
  | [] => []
  | (i, o) :: r => if p i = true then (i, o) :: hsel p r else hsel p r

theorem hget_hsel {p : Nat → Bool} : ∀ (h : AHeap) (i : Nat), hget (hsel p h) i = if p i = true then hget h i else none
  | [], i => by simp [hsel, hget]
  | (j, o) :: r, i => by
    simp only [hsel, hget]
    by_cases hj : p j = true
    · simp only [hj, if_true, hget]
      by_cases e : j = i
      · subst e; simp [hj]
      · simp only [e, if_false]; exact hget_hsel r i
    · simp only [hj, if_false, Bool.false_eq_true]
      rw [hget_hsel r i]
      by_cases e : j = i
      · subst e; simp [hj]
      · simp only [e, if_false]

theorem hget_append : ∀ (a b : AHeap) (i : Nat), hget (a ++ b) i = (hget a i).or (hget b i)
  | [], b, i => by simp [hget]
  | (j, o) :: r, b, i => by
    simp only [List.cons_append, hget]
    by_cases e : j = i
    · simp [e]
    · simp only [e, if_false]; exact hget_append r b i

section
variable {P : Program} {w w' : World} {E E1 E2 : Env} {h h1 h2 : AHeap} {p : Nat → Bool}

theorem sub_goes (j : Nat) (hj : p j = true) : GoesOn E h E (hsel p h) j := by
  unfold GoesOn
  rw [hget_hsel, if_pos hj]
  split <;> simp_all

theorem sub_own {b : Nat} (ho : Own E (hsel p h) b) : Own E h b := by
  obtain ⟨i, hi, hb⟩ := ho
  rw [hget_hsel] at hi
  split at hi
  · exact ⟨i, hi, hb⟩
  · simp at hi
theorem sub_xs {b : Nat} (ho : Xs E (hsel p h) b) : Xs E h b := ho.imp sub_own id

/-- What a part's values name lies in the part. -/
def Closed (p : Nat → Bool) (h : AHeap) : Prop := ∀ i o, hget h i = some o → p i = true → ∀ j ∈ o.ids, p j = true

theorem sub_rep {a : AV} {v : Value} (ha : ∀ j ∈ a.ids, p j = true) (hr : Rep w E h a v) : Rep w E (hsel p h) a v :=
  Rep.step (fun _ _ => sub_xs) (fun _ _ _ => rfl) a v (fun j hj => sub_goes j (ha j hj)) hr
theorem sub_reps {a : List AV} {v : List Value} (ha : ∀ j ∈ AV.idsL a, p j = true) (hr : Reps w E h a v) : Reps w E (hsel p h) a v :=
  Reps.step (fun _ _ => sub_xs) (fun _ _ _ => rfl) a v (fun j hj => sub_goes j (ha j hj)) hr

theorem sub_sat (hs : SatH E h w) (hc : Closed p h) : SatH E (hsel p h) w where
  heap := fun i o ho => by
    rw [hget_hsel] at ho
    split at ho
    · rename_i hpi
      have := hs.heap i o ho
      have hcl := hc i o ho hpi
      cases o with
      | var cs =>
        simp only [RepObj] at this ⊢
        obtain ⟨b, c, T, fz, g1, g2, g3, g4⟩ := this
        exact ⟨b, c, T, fz, g1, g2, sub_reps hcl g3, g4⟩
      | tvar tt cs =>
        simp only [RepObj] at this ⊢
        obtain ⟨b, c, T, fz, g1, g2, g3, g4⟩ := this
        exact ⟨b, c, T, fz, g1, g2, sub_reps hcl g3, g4⟩
      | arr k xs =>
        simp only [RepObj] at this ⊢
        rcases this with g | ⟨b, c, T, fz, g1, g2, g3, g4, g5, g6⟩
        · exact .inl g
        · exact .inr ⟨b, c, T, fz, g1, g2, g3, g4, RepRows.step (fun _ _ => sub_xs) (fun _ _ _ => rfl) _ _ _ g5, g6⟩
      | buf tt xs =>
        simp only [RepObj] at this ⊢
        rcases this with g | ⟨b, c, T, fz, g1, g2, g3, g4, g5, g6⟩
        · exact .inl g
        · exact .inr ⟨b, c, T, fz, g1, g2, g3, g4, g5, g6⟩
      | strit l q => exact this
      | omap es => exact this
    · cases ho
  inj := fun i j b hi hj => by
    rw [hget_hsel] at hi hj
    split at hi
    · split at hj
      · exact hs.inj i j b hi hj
      · simp at hj
    · simp at hi
  own := fun b hb => hs.own b (sub_own hb)
  mlt := hs.mlt
  nlt := hs.nlt

def joinE (p : Nat → Bool) (E1 E2 : Env) (M N : Nat → Prop) : Env :=
  { O := fun i => if p i = true then E1.O i else E2.O i, C := fun i => if p i = true then E1.C i else E2.C i, M := M, N := N }

/-- Two heaps of unlike names, each of which minds the other. -/
structure Apart (p : Nat → Bool) (E1 : Env) (h1 : AHeap) (E2 : Env) (h2 : AHeap) (M N : Nat → Prop) : Prop where
  n1 : ∀ i, (hget h1 i).isSome → p i = true
  n2 : ∀ i, (hget h2 i).isSome → p i = false
  o1 : ∀ b, Own E1 h1 b → E2.M b ∨ E2.N b
  o2 : ∀ b, Own E2 h2 b → E1.M b ∨ E1.N b
  m1 : ∀ b, M b → E1.M b ∨ E1.N b
  m2 : ∀ b, M b → E2.M b ∨ E2.N b
  k1 : ∀ b, N b → E1.M b ∨ E1.N b
  k2 : ∀ b, N b → E2.M b ∨ E2.N b

section
variable {M N : Nat → Prop}

theorem Apart.get1 (ap : Apart p E1 h1 E2 h2 M N) {i : Nat} (hi : p i = true) : hget (h1 ++ h2) i = hget h1 i := by
  rw [hget_append]
  cases e : hget h1 i with
  | some o => rfl
  | none =>
    cases e2 : hget h2 i with
    | none => rfl
    | some o => have := ap.n2 i (by simp [e2]); rw [hi] at this; cases this
theorem Apart.get2 (ap : Apart p E1 h1 E2 h2 M N) {i : Nat} (hi : p i = false) : hget (h1 ++ h2) i = hget h2 i := by
  rw [hget_append]
  cases e : hget h1 i with
  | some o => have := ap.n1 i (by simp [e]); rw [hi] at this; cases this
  | none => rfl

theorem Apart.own (ap : Apart p E1 h1 E2 h2 M N) {b : Nat} (ho : Own (joinE p E1 E2 M N) (h1 ++ h2) b) : Own E1 h1 b ∨ Own E2 h2 b := by
  obtain ⟨i, hi, hb⟩ := ho
  by_cases hp : p i = true
  · rw [ap.get1 hp] at hi
    exact .inl ⟨i, hi, by simpa [joinE, hp] using hb⟩
  · have hp' : p i = false := by simpa using hp
    rw [ap.get2 hp'] at hi
    exact .inr ⟨i, hi, by simpa [joinE, hp'] using hb⟩
theorem Apart.own1 (ap : Apart p E1 h1 E2 h2 M N) {b : Nat} (ho : Own E1 h1 b) : Own (joinE p E1 E2 M N) (h1 ++ h2) b := by
  obtain ⟨i, hi, hb⟩ := ho
  have hp := ap.n1 i hi
  exact ⟨i, by rw [ap.get1 hp]; exact hi, by simpa [joinE, hp] using hb⟩
theorem Apart.own2 (ap : Apart p E1 h1 E2 h2 M N) {b : Nat} (ho : Own E2 h2 b) : Own (joinE p E1 E2 M N) (h1 ++ h2) b := by
  obtain ⟨i, hi, hb⟩ := ho
  have hp := ap.n2 i hi
  exact ⟨i, by rw [ap.get2 hp]; exact hi, by simpa [joinE, hp] using hb⟩

theorem Apart.xs1 (ap : Apart p E1 h1 E2 h2 M N) {b : Nat} (hx : Xs (joinE p E1 E2 M N) (h1 ++ h2) b) : Xs E1 h1 b := by
  rcases hx with hx | hx | hx
  · rcases ap.own hx with h | h
    · exact .inl h
    · exact .inr (ap.o2 b h)
  · exact .inr (ap.m1 b hx)
  · exact .inr (ap.k1 b hx)
theorem Apart.xs2 (ap : Apart p E1 h1 E2 h2 M N) {b : Nat} (hx : Xs (joinE p E1 E2 M N) (h1 ++ h2) b) : Xs E2 h2 b := by
  rcases hx with hx | hx | hx
  · rcases ap.own hx with h | h
    · exact .inr (ap.o1 b h)
    · exact .inl h
  · exact .inr (ap.m2 b hx)
  · exact .inr (ap.k2 b hx)

theorem Apart.goes1 (ap : Apart p E1 h1 E2 h2 M N) (i : Nat) : GoesOn E1 h1 (joinE p E1 E2 M N) (h1 ++ h2) i := by
  unfold GoesOn
  cases e : hget h1 i with
  | none => trivial
  | some o =>
    have hp := ap.n1 i (by simp [e])
    rw [ap.get1 hp, e]
    cases o <;> simp [joinE, hp]
theorem Apart.goes2 (ap : Apart p E1 h1 E2 h2 M N) (i : Nat) : GoesOn E2 h2 (joinE p E1 E2 M N) (h1 ++ h2) i := by
  unfold GoesOn
  cases e : hget h2 i with
  | none => trivial
  | some o =>
    have hp := ap.n2 i (by simp [e])
    rw [ap.get2 hp, e]
    cases o <;> simp [joinE, hp]

theorem Apart.rep1 (ap : Apart p E1 h1 E2 h2 M N) {a : AV} {v : Value} (hr : Rep w E1 h1 a v) : Rep w (joinE p E1 E2 M N) (h1 ++ h2) a v :=
  Rep.step (fun _ _ => ap.xs1) (fun _ _ _ => rfl) a v (fun j _ => ap.goes1 j) hr
theorem Apart.rep2 (ap : Apart p E1 h1 E2 h2 M N) {a : AV} {v : Value} (hr : Rep w E2 h2 a v) : Rep w (joinE p E1 E2 M N) (h1 ++ h2) a v :=
  Rep.step (fun _ _ => ap.xs2) (fun _ _ _ => rfl) a v (fun j _ => ap.goes2 j) hr

theorem RepObj.move {E E' : Env} {h h' : AHeap} {i : Nat} {o : AObj} (hO : E'.O i = E.O i) (hC : E'.C i = E.C i) (hX : ∀ b, Xs E' h' b → Xs E h b) (hg : ∀ j, GoesOn E h E' h' j) (hr : RepObj w E h i o) : RepObj w E' h' i o := by
  cases o with
  | var cs =>
    simp only [RepObj, hO] at hr ⊢
    obtain ⟨b, c, T, fz, g1, g2, g3, g4⟩ := hr
    exact ⟨b, c, T, fz, g1, g2, Reps.step (fun b _ => hX b) (fun _ _ _ => rfl) _ _ (fun j _ => hg j) g3, g4⟩
  | tvar tt cs =>
    simp only [RepObj, hO] at hr ⊢
    obtain ⟨b, c, T, fz, g1, g2, g3, g4⟩ := hr
    exact ⟨b, c, T, fz, g1, g2, Reps.step (fun b _ => hX b) (fun _ _ _ => rfl) _ _ (fun j _ => hg j) g3, g4⟩
  | arr k xs =>
    simp only [RepObj, hO, hC] at hr ⊢
    rcases hr with g | ⟨b, c, T, fz, g1, g2, g3, g4, g5, g6⟩
    · exact .inl g
    · exact .inr ⟨b, c, T, fz, g1, g2, g3, g4, RepRows.step (fun b _ => hX b) (fun _ _ _ => rfl) _ _ _ g5, g6⟩
  | buf tt xs =>
    simp only [RepObj, hO, hC] at hr ⊢
    rcases hr with g | ⟨b, c, T, fz, g1, g2, g3, g4, g5, g6⟩
    · exact .inl g
    · exact .inr ⟨b, c, T, fz, g1, g2, g3, g4, g5, g6⟩
  | strit l q => simp only [RepObj, hO] at hr ⊢; exact hr
  | omap es => simp only [RepObj, hO] at hr ⊢; exact hr

theorem Apart.sat (ap : Apart p E1 h1 E2 h2 M N) (hs1 : SatH E1 h1 w) (hs2 : SatH E2 h2 w) (hM : ∀ b, M b → b < w.heap.size) (hN : ∀ b, N b → b < w.heap.size) : SatH (joinE p E1 E2 M N) (h1 ++ h2) w where
  heap := fun i o ho => by
    by_cases hp : p i = true
    · rw [ap.get1 hp] at ho
      exact RepObj.move (by simp [joinE, hp]) (by simp [joinE, hp]) (fun _ => ap.xs1) ap.goes1 (hs1.heap i o ho)
    · have hp' : p i = false := by simpa using hp
      rw [ap.get2 hp'] at ho
      exact RepObj.move (by simp [joinE, hp']) (by simp [joinE, hp']) (fun _ => ap.xs2) ap.goes2 (hs2.heap i o ho)
  inj := fun i j b hi hj h1' h2' => by
    have key : ∀ i j, p i = true → p j = false → (hget (h1 ++ h2) i).isSome → (hget (h1 ++ h2) j).isSome → (joinE p E1 E2 M N).O i = some b → (joinE p E1 E2 M N).O j = some b → False := by
      intro i j hpi hpj hi hj e1 e2
      rw [ap.get1 hpi] at hi
      rw [ap.get2 hpj] at hj
      have o1 : Own E1 h1 b := ⟨i, hi, by simpa [joinE, hpi] using e1⟩
      have o2 : Own E2 h2 b := ⟨j, hj, by simpa [joinE, hpj] using e2⟩
      have := hs2.own b o2
      exact (ap.o1 b o1).elim this.2.1 this.2.2
    by_cases hpi : p i = true
    · by_cases hpj : p j = true
      · rw [ap.get1 hpi] at hi
        rw [ap.get1 hpj] at hj
        exact hs1.inj i j b hi hj (by simpa [joinE, hpi] using h1') (by simpa [joinE, hpj] using h2')
      · exact (key i j hpi (by simpa using hpj) hi hj h1' h2').elim
    · have hpi' : p i = false := by simpa using hpi
      by_cases hpj : p j = true
      · exact (key j i hpj hpi' hj hi h2' h1').elim
      · have hpj' : p j = false := by simpa using hpj
        rw [ap.get2 hpi'] at hi
        rw [ap.get2 hpj'] at hj
        exact hs2.inj i j b hi hj (by simpa [joinE, hpi'] using h1') (by simpa [joinE, hpj'] using h2')
  own := fun b hb => by
    rcases ap.own hb with ho | ho
    · have := hs1.own b ho
      exact ⟨this.1, fun hm => (ap.m1 b hm).elim this.2.1 this.2.2, fun hn => (ap.k1 b hn).elim this.2.1 this.2.2⟩
    · have := hs2.own b ho
      exact ⟨this.1, fun hm => (ap.m2 b hm).elim this.2.1 this.2.2, fun hn => (ap.k2 b hn).elim this.2.1 this.2.2⟩
  mlt := hM
  nlt := hN
end

/-- **A CALL THAT IS HANDED A PART OF THE HEAP.** Names from fl on are the callee's. -/
theorem ACall.frame {f : FuncId} {args : List AV} {fl fl' : Nat} {K : AV → AHeap → Prop} (hc : ACall P f fl args (hsel p h) K) (hfl : ∀ i, (hget h i).isSome → i < fl) (hp : ∀ i, fl ≤ i → p i = true) (hcl : Closed p h) (ha : ∀ j ∈ AV.idsL args, p j = true) (hle : fl' ≤ fl)
    (hk : ∀ r h', K r h' → (∀ i, (hget h i).isSome → p i = true → (hget h' i).isSome) ∧ (∀ i, (hget h' i).isSome → p i = true)) :
    ACallAt P fl' f args h (fun r h' => ∃ h1, K r h1 ∧ h' = h1 ++ hsel (fun i => !p i) h) := by
  refine ⟨hc.1, fun E w vs hs hr => ?_⟩
  have hsp : SatH E (hsel p h) w := sub_sat hs hcl
  -- the callee's view
  let E1 : Env := { O := E.O, C := E.C, M := E.M, N := fun b => E.N b ∨ Own E (hsel (fun i => !p i) h) b }
  have hown : ∀ b, Own E (hsel p h) b → ¬ Own E (hsel (fun i => !p i) h) b := by
    rintro b ⟨i, hi, hb⟩ ⟨j, hj, hb'⟩
    rw [hget_hsel] at hi hj
    split at hi
    · rename_i hpi
      split at hj
      · rename_i hpj
        have := hs.inj i j b hi hj hb hb'
        subst this
        rw [hpi] at hpj; cases hpj
      · simp at hj
    · simp at hi
  have hX : ∀ b, Xs E1 (hsel p h) b → Xs E h b := by
    rintro b (hx | hx | hx | hx)
    · exact .inl (sub_own hx)
    · exact .inr (.inl hx)
    · exact .inr (.inr hx)
    · exact .inl (sub_own hx)
  -- data in the part leans on nothing of the other part either: out of the whole heap
  have hgo2 : ∀ j, p j = true → GoesOn E h E1 (hsel p h) j := fun j hj => by
    unfold GoesOn
    rw [hget_hsel, if_pos hj]
    split <;> simp_all [E1]
  have hs1 : SatH E1 (hsel p h) w := by
    refine ⟨fun i o ho => ?_, hsp.inj, fun b hb => ?_, hs.mlt, fun b hb => ?_⟩
    · have ho' := ho
      rw [hget_hsel] at ho'
      split at ho'
      · rename_i hpi
        have := hs.heap i o ho'
        have hids := hcl i o ho' hpi
        cases o with
        | var cs =>
          simp only [RepObj] at this ⊢
          obtain ⟨b, c, T, fz, g1, g2, g3, g4⟩ := this
          exact ⟨b, c, T, fz, g1, g2, Reps.step (fun b _ => hX b) (fun _ _ _ => rfl) _ _ (fun j hj => hgo2 j (hids j hj)) g3, g4⟩
        | tvar tt cs =>
          simp only [RepObj] at this ⊢
          obtain ⟨b, c, T, fz, g1, g2, g3, g4⟩ := this
          exact ⟨b, c, T, fz, g1, g2, Reps.step (fun b _ => hX b) (fun _ _ _ => rfl) _ _ (fun j hj => hgo2 j (hids j hj)) g3, g4⟩
        | arr k xs =>
          simp only [RepObj] at this ⊢
          rcases this with g | ⟨b, c, T, fz, g1, g2, g3, g4, g5, g6⟩
          · exact .inl g
          · exact .inr ⟨b, c, T, fz, g1, g2, g3, g4, RepRows.step (fun b _ => hX b) (fun _ _ _ => rfl) _ _ _ g5, g6⟩
        | buf tt xs =>
          simp only [RepObj] at this ⊢
          rcases this with g | ⟨b, c, T, fz, g1, g2, g3, g4, g5, g6⟩
          · exact .inl g
          · exact .inr ⟨b, c, T, fz, g1, g2, g3, g4, g5, g6⟩
        | strit l q => exact this
        | omap es => exact this
      · cases ho'
    · have := hsp.own b hb
      exact ⟨this.1, this.2.1, fun hn => hn.elim this.2.2 (hown b hb)⟩
    · exact hb.elim (hs.nlt b) (fun h => (hs.own b (sub_own h)).1)
  have hr1 : Reps w E1 (hsel p h) args vs.toList := Reps.step (fun b _ => hX b) (fun _ _ _ => rfl) _ _ (fun j hj => hgo2 j (ha j hj)) hr
  refine (hc.2 E1 w vs hs1 hr1).mono ?_
  rintro e w' ⟨v, E', r, h', rfl, hK, hs', hr', hev⟩
  obtain ⟨hk1, hk2⟩ := hk r h' hK
  -- the whole, behind the call
  obtain ⟨q, hq⟩ : ∃ q : Nat → Bool, q = fun i => !p i := ⟨_, rfl⟩
  obtain ⟨E2, hE2⟩ : ∃ E2 : Env, E2 = joinE p E' E E.M E.N := ⟨_, rfl⟩
  have hg1 : ∀ i, p i = true → hget (h' ++ hsel (fun i => !p i) h) i = hget h' i := fun i hi => by
    rw [hget_append, hget_hsel]
    simp [hi]
  have hg2 : ∀ i, p i = false → hget (h' ++ hsel (fun i => !p i) h) i = hget h i := fun i hi => by
    have hn : hget h' i = none := by
      cases e : hget h' i with
      | none => rfl
      | some o => have := hk2 i (by simp [e]); rw [hi] at this; cases this
    rw [hget_append, hget_hsel, hn]
    simp [hi]
  have hO1 : ∀ i, p i = true → E2.O i = E'.O i ∧ E2.C i = E'.C i := fun i hi => by rw [hE2]; simp [joinE, hi]
  have hO2 : ∀ i, p i = false → E2.O i = E.O i ∧ E2.C i = E.C i := fun i hi => by rw [hE2]; simp [joinE, hi]
  have hM2 : E2.M = E.M := by rw [hE2]; rfl
  have hN2 : E2.N = E.N := by rw [hE2]; rfl
  have hnown' : ∀ b, Own E' h' b → ¬ Own E (hsel (fun i => !p i) h) b := fun b hb ho => by
    have := (hs'.own b hb).2.2
    rw [hev.n] at this
    exact this (.inr ho)
  have hown2 : ∀ b, Own E2 (h' ++ hsel (fun i => !p i) h) b → Own E' h' b ∨ Own E (hsel (fun i => !p i) h) b := by
    rintro b ⟨i, hi, hb⟩
    by_cases hpi : p i = true
    · rw [hg1 i hpi] at hi
      exact .inl ⟨i, hi, by rw [← (hO1 i hpi).1]; exact hb⟩
    · have hpi' : p i = false := by simpa using hpi
      rw [hg2 i hpi'] at hi
      exact .inr ⟨i, by rw [hget_hsel]; simpa [hpi'] using hi, by rw [← (hO2 i hpi').1]; exact hb⟩
  have hkeep : ∀ b, b < w.heap.size → ¬ Own E (hsel p h) b → w'.heap[b]? = w.heap[b]? := fun b hb ho => hev.keep b hb ho
  have hXb : ∀ b, b < w.heap.size → Xs E2 (h' ++ hsel (fun i => !p i) h) b → Xs E h b := by
    rintro b hb (hx | hx | hx)
    · rcases hown2 b hx with hx | hx
      · exact (hev.own b hx).elim (fun h => .inl (sub_own h)) (fun h => by omega)
      · exact .inl (sub_own hx)
    · exact .inr (.inl (by rwa [hM2] at hx))
    · exact .inr (.inr (by rwa [hN2] at hx))
  have hKb : ∀ b, b < w.heap.size → ¬ Xs E h b → w'.heap[b]? = w.heap[b]? := fun b hb hx => hkeep b hb (fun ho => hx (.inl (sub_own ho)))
  have hgo3 : ∀ j, GoesOn E h E2 (h' ++ hsel (fun i => !p i) h) j := by
    intro j
    by_cases hj : (hget h j).isSome
    · by_cases hpj : p j = true
      · have hgj := (hev.go j (hfl j hj) (hk1 j hj hpj)).2
        unfold GoesOn at hgj ⊢
        rw [hget_hsel, if_pos hpj] at hgj
        rw [hg1 j hpj, (hO1 j hpj).1, (hO1 j hpj).2]
        exact hgj
      · have hpj' : p j = false := by simpa using hpj
        unfold GoesOn
        rw [hg2 j hpj', (hO2 j hpj').1, (hO2 j hpj').2]
        split <;> simp_all
    · unfold GoesOn
      split
      · rename_i cs hh; exact (hj (by simp [hh])).elim
      · rename_i k xs hh; exact (hj (by simp [hh])).elim
      · rename_i l p hh; exact (hj (by simp [hh])).elim
      · rename_i es hh; exact (hj (by simp [hh])).elim
      · rename_i tt cs hh; exact (hj (by simp [hh])).elim
      · rename_i tt cs hh; exact (hj (by simp [hh])).elim
      · trivial
  have hrep : ∀ x y, Rep w E h x y → Rep w' E2 (h' ++ hsel (fun i => !p i) h) x y := fun x y hxy => Rep.step hXb hKb x y (fun j _ => hgo3 j) hxy
  -- the callee's own values, over the whole
  have hX1 : ∀ b, Xs E2 (h' ++ hsel (fun i => !p i) h) b → Xs E' h' b := by
    rintro b (hx | hx | hx)
    · rcases hown2 b hx with hx | hx
      · exact .inl hx
      · exact .inr (.inr (by rw [hev.n]; exact .inr hx))
    · exact .inr (.inl (by rw [hev.m]; rwa [hM2] at hx))
    · exact .inr (.inr (by rw [hev.n]; exact .inl (by rwa [hN2] at hx)))
  have hgo1 : ∀ j, GoesOn E' h' E2 (h' ++ hsel (fun i => !p i) h) j := by
    intro j
    unfold GoesOn
    cases e : hget h' j with
    | none => trivial
    | some o =>
      have hpj := hk2 j (by simp [e])
      rw [hg1 j hpj, e, (hO1 j hpj).1, (hO1 j hpj).2]
      cases o <;> simp
  have hlt : ∀ i o, hget h i = some o → p i = false → ∀ b, E.O i = some b → b < w.heap.size ∧ ¬ Own E (hsel p h) b := fun i o ho hpi b hb => ⟨(hs.own b ⟨i, by simp [ho], hb⟩).1, by
    rintro ⟨j, hj, hb'⟩
    rw [hget_hsel] at hj
    split at hj
    · rename_i hpj
      have := hs.inj i j b (by simp [ho]) hj hb hb'
      subst this
      rw [hpi] at hpj; cases hpj
    · simp at hj⟩
  refine ⟨v, E2, r, _, rfl, ⟨h', hK, rfl⟩, ⟨fun i o ho => ?_, fun i j b hi hj h1' h2' => ?_, fun b hb => ?_, fun b hb => ?_, fun b hb => ?_⟩, ?_, ?_, hrep⟩
  · by_cases hpi : p i = true
    · rw [hg1 i hpi] at ho
      exact RepObj.move (hO1 i hpi).1 (hO1 i hpi).2 hX1 hgo1 (hs'.heap i o ho)
    · have hpi' : p i = false := by simpa using hpi
      rw [hg2 i hpi'] at ho
      have := hs.heap i o ho
      have hl := hlt i o ho hpi'
      cases o with
      | var cs =>
        simp only [RepObj, (hO2 i hpi').1] at this ⊢
        obtain ⟨b, c, T, fz, g1, g2, g3, g4⟩ := this
        exact ⟨b, c, T, fz, g1, (hkeep b (hl b g1).1 (hl b g1).2).trans g2, Reps.step hXb hKb _ _ (fun j _ => hgo3 j) g3, g4⟩
      | tvar tt cs =>
        simp only [RepObj, (hO2 i hpi').1] at this ⊢
        obtain ⟨b, c, T, fz, g1, g2, g3, g4⟩ := this
        exact ⟨b, c, T, fz, g1, (hkeep b (hl b g1).1 (hl b g1).2).trans g2, Reps.step hXb hKb _ _ (fun j _ => hgo3 j) g3, g4⟩
      | arr k xs =>
        simp only [RepObj, (hO2 i hpi').1, (hO2 i hpi').2] at this ⊢
        rcases this with g | ⟨b, c, T, fz, g1, g2, g3, g4, g5, g6⟩
        · exact .inl g
        · exact .inr ⟨b, c, T, fz, g1, (hkeep b (hl b g1).1 (hl b g1).2).trans g2, g3, g4, RepRows.step hXb hKb _ _ _ g5, g6⟩
      | buf tt xs =>
        simp only [RepObj, (hO2 i hpi').1, (hO2 i hpi').2] at this ⊢
        rcases this with g | ⟨b, c, T, fz, g1, g2, g3, g4, g5, g6⟩
        · exact .inl g
        · exact .inr ⟨b, c, T, fz, g1, (hkeep b (hl b g1).1 (hl b g1).2).trans g2, g3, g4, g5, g6⟩
      | strit l q =>
        simp only [RepObj, (hO2 i hpi').1] at this ⊢
        obtain ⟨b, g1, g2⟩ := this
        exact ⟨b, g1, (hkeep b (hl b g1).1 (hl b g1).2).trans g2⟩
      | omap es =>
        simp only [RepObj, (hO2 i hpi').1] at this ⊢
        obtain ⟨b, m, cl, g1, g2, g3⟩ := this
        exact ⟨b, m, cl, g1, (hkeep b (hl b g1).1 (hl b g1).2).trans g2, g3⟩
  · have key : ∀ i j, p i = true → p j = false → (hget (h' ++ hsel (fun i => !p i) h) i).isSome → (hget (h' ++ hsel (fun i => !p i) h) j).isSome → E2.O i = some b → E2.O j = some b → False := by
      intro i j hpi hpj hi hj e1 e2
      rw [hg1 i hpi] at hi
      rw [hg2 j hpj] at hj
      exact hnown' b ⟨i, hi, by rw [← (hO1 i hpi).1]; exact e1⟩ ⟨j, by rw [hget_hsel]; simpa [hpj] using hj, by rw [← (hO2 j hpj).1]; exact e2⟩
    by_cases hpi : p i = true
    · by_cases hpj : p j = true
      · rw [hg1 i hpi] at hi
        rw [hg1 j hpj] at hj
        exact hs'.inj i j b hi hj (by rw [← (hO1 i hpi).1]; exact h1') (by rw [← (hO1 j hpj).1]; exact h2')
      · exact (key i j hpi (by simpa using hpj) hi hj h1' h2').elim
    · have hpi' : p i = false := by simpa using hpi
      by_cases hpj : p j = true
      · exact (key j i hpj hpi' hj hi h2' h1').elim
      · have hpj' : p j = false := by simpa using hpj
        rw [hg2 i hpi'] at hi
        rw [hg2 j hpj'] at hj
        exact hs.inj i j b hi hj (by rw [← (hO2 i hpi').1]; exact h1') (by rw [← (hO2 j hpj').1]; exact h2')
  · rw [hM2, hN2]
    rcases hown2 b hb with ho | ho
    · have := hs'.own b ho
      rw [hev.m, hev.n] at this
      exact ⟨this.1, this.2.1, fun hn => this.2.2 (.inl hn)⟩
    · have := hs.own b (sub_own ho)
      exact ⟨Nat.lt_of_lt_of_le this.1 hev.size, this.2⟩
  · rw [hM2] at hb; exact Nat.lt_of_lt_of_le (hs.mlt b hb) hev.size
  · rw [hN2] at hb; exact Nat.lt_of_lt_of_le (hs.nlt b hb) hev.size
  · exact Rep.step (fun b _ => hX1 b) (fun _ _ _ => rfl) r v (fun j _ => hgo1 j) hr'
  · refine ⟨hev.os, hev.tape, hev.output, hev.size, fun b hb ho => hkeep b hb (fun h => ho (sub_own h)), fun b hb => ?_, hM2, hN2, fun i hi hl => ⟨?_, hgo3 i⟩⟩
    · rcases hown2 b hb with ho | ho
      · exact (hev.own b ho).imp sub_own id
      · exact .inl (sub_own ho)
    · by_cases hpi : p i = true
      · rw [hg1 i hpi] at hl
        have := (hev.go i (by omega) hl).1
        rw [hget_hsel, if_pos hpi] at this
        exact this
      · rw [hg2 i (by simpa using hpi)] at hl
        exact hl

/-- A call whose private heap is all that there is. -/
theorem ACall.whole {f : FuncId} {args : List AV} {fl fl' : Nat} {K : AV → AHeap → Prop} (hc : ACall P f fl args h K) (hfl : ∀ i, (hget h i).isSome → i < fl) (hle : fl' ≤ fl) (hk : ∀ r h', K r h' → ∀ i, (hget h i).isSome → (hget h' i).isSome) : ACallAt P fl' f args h K := by
  refine ⟨hc.1, fun E w vs hs hr => (hc.2 E w vs hs hr).mono ?_⟩
  rintro e w' ⟨v, E', r, h', h1, h2, h3, h4, h5⟩
  refine ⟨v, E', r, h', h1, h2, h3, h4, ⟨h5.os, h5.tape, h5.output, h5.size, h5.keep, h5.own, h5.m, h5.n, fun i hi hs' => h5.go i (by omega) hs'⟩, fun x y hxy => ?_⟩
  refine Rep.step (fun b hb hx => ?_) (fun b hb hx => h5.keep b hb (fun ho => hx (.inl ho))) x y (fun j _ => ?_) hxy
  · rcases hx with hx | hx | hx
    · exact (h5.own b hx).elim .inl (fun h => by omega)
    · exact .inr (.inl (by rwa [h5.m] at hx))
    · exact .inr (.inr (by rwa [h5.n] at hx))
  · by_cases hj : (hget h j).isSome
    · exact (h5.go j (hfl j hj) (hk _ _ h2 j hj)).2
    · unfold GoesOn
      split
      · rename_i cs hh; exact (hj (by simp [hh])).elim
      · rename_i k xs hh; exact (hj (by simp [hh])).elim
      · rename_i l p hh; exact (hj (by simp [hh])).elim
      · rename_i es hh; exact (hj (by simp [hh])).elim
      · rename_i tt cs hh; exact (hj (by simp [hh])).elim
      · rename_i tt cs hh; exact (hj (by simp [hh])).elim
      · trivial

attribute [go_sem] hsel
end
end Go.Aw
