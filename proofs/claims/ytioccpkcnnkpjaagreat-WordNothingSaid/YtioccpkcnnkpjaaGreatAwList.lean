/-
  Rows of values.
-/
import Derived.Test.YtioccpkcnnkpjaaGreatAwStep
namespace Go.Aw
set_option maxRecDepth 100000
set_option linter.unusedSimpArgs false
set_option linter.unusedVariables false
open Go

section
variable {W : World} {E : Env} {h : AHeap} {X : Nat → Prop}

theorem Reps.length : ∀ {as : List AV} {vs : List Value}, Reps W E h as vs → vs.length = as.length
  | [], _, hr => by simp only [Reps] at hr; subst hr; rfl
  | a :: as, _, hr => by
    simp only [Reps] at hr
    obtain ⟨v, r, rfl, _, h3⟩ := hr
    simp [Reps.length h3]

theorem RepDs.length : ∀ {as : List D} {vs : List Value}, RepDs W X as vs → vs.length = as.length
  | [], _, hr => by simp only [RepDs] at hr; subst hr; rfl
  | a :: as, _, hr => by
    simp only [RepDs] at hr
    obtain ⟨v, r, rfl, _, h3⟩ := hr
    simp [RepDs.length h3]

theorem Reps.get : ∀ {as : List AV} {vs : List Value}, Reps W E h as vs → ∀ {i : Nat} {a : AV}, as[i]? = some a → ∃ v, vs[i]? = some v ∧ Rep W E h a v
  | [], _, _, i, a, hi => by simp at hi
  | b :: as, _, hr, i, a, hi => by
    simp only [Reps] at hr
    obtain ⟨v, r, rfl, h2, h3⟩ := hr
    cases i with
    | zero => simp at hi; subst hi; exact ⟨v, by simp, h2⟩
    | succ i => simp at hi; simpa using Reps.get h3 hi

theorem Reps.take : ∀ {as : List AV} {vs : List Value}, Reps W E h as vs → ∀ n, Reps W E h (as.take n) (vs.take n)
  | [], _, hr, n => by simp only [Reps] at hr; subst hr; simp [Reps]
  | b :: as, _, hr, n => by
    simp only [Reps] at hr
    obtain ⟨v, r, rfl, h2, h3⟩ := hr
    cases n with
    | zero => simp [Reps]
    | succ n => simp only [List.take_succ_cons, Reps]; exact ⟨_, _, rfl, h2, Reps.take h3 n⟩

theorem Reps.drop : ∀ {as : List AV} {vs : List Value}, Reps W E h as vs → ∀ n, Reps W E h (as.drop n) (vs.drop n)
  | [], _, hr, n => by simp only [Reps] at hr; subst hr; simp [Reps]
  | b :: as, _, hr, n => by
    simp only [Reps] at hr
    obtain ⟨v, r, rfl, h2, h3⟩ := hr
    cases n with
    | zero => simp only [List.drop_zero, Reps]; exact ⟨_, _, rfl, h2, h3⟩
    | succ n => simp only [List.drop_succ_cons]; exact Reps.drop h3 n

theorem Reps.append : ∀ {as bs : List AV} {vs ws : List Value}, Reps W E h as vs → Reps W E h bs ws → Reps W E h (as ++ bs) (vs ++ ws)
  | [], bs, _, ws, hr, hb => by simp only [Reps] at hr; subst hr; simpa using hb
  | b :: as, bs, _, ws, hr, hb => by
    simp only [Reps] at hr
    obtain ⟨v, r, rfl, h2, h3⟩ := hr
    simp only [List.cons_append, Reps]
    exact ⟨_, _, rfl, h2, Reps.append h3 hb⟩

theorem Reps.set : ∀ {as : List AV} {vs : List Value}, Reps W E h as vs → ∀ {i : Nat} {a : AV} {v : Value}, Rep W E h a v → Reps W E h (as.set i a) (vs.set i v)
  | [], _, hr, i, a, v, _ => by simp only [Reps] at hr; subst hr; simp [Reps]
  | b :: as, _, hr, i, a, x, hx => by
    simp only [Reps] at hr
    obtain ⟨v, r, rfl, h2, h3⟩ := hr
    cases i with
    | zero => simp only [List.set_cons_zero, Reps]; exact ⟨_, _, rfl, hx, h3⟩
    | succ i => simp only [List.set_cons_succ, Reps]; exact ⟨_, _, rfl, h2, Reps.set h3 hx⟩

theorem Reps.map_d : ∀ {as : List D} {vs : List Value}, Reps W E h (as.map AV.d) vs ↔ RepDs W (Xs E h) as vs
  | [], _ => by simp [Reps, RepDs]
  | a :: as, vs => by simp only [List.map_cons, Reps, RepDs, Rep, Reps.map_d]

theorem idsL_map_d : ∀ (as : List D), AV.idsL (as.map AV.d) = []
  | [] => by simp [AV.idsL]
  | a :: as => by simp [AV.idsL, AV.ids, idsL_map_d as]

theorem idsL_append : ∀ (as bs : List AV), AV.idsL (as ++ bs) = AV.idsL as ++ AV.idsL bs
  | [], bs => by simp [AV.idsL]
  | a :: as, bs => by simp [AV.idsL, idsL_append as bs]

theorem mem_idsL_take {i : Nat} : ∀ {as : List AV} {n : Nat}, i ∈ AV.idsL (as.take n) → i ∈ AV.idsL as
  | [], n, hm => by simpa using hm
  | a :: as, 0, hm => by simp [AV.idsL] at hm
  | a :: as, n + 1, hm => by
    simp only [List.take_succ_cons, AV.idsL, List.mem_append] at hm ⊢
    exact hm.imp id mem_idsL_take

theorem mem_idsL_drop {i : Nat} : ∀ {as : List AV} {n : Nat}, i ∈ AV.idsL (as.drop n) → i ∈ AV.idsL as
  | [], n, hm => by simpa using hm
  | a :: as, 0, hm => by simpa using hm
  | a :: as, n + 1, hm => by
    simp only [List.drop_succ_cons] at hm
    simp only [AV.idsL, List.mem_append]
    exact .inr (mem_idsL_drop hm)

theorem mem_idsL_get {i : Nat} {a : AV} (hi : i ∈ a.ids) : ∀ {as : List AV} {n : Nat}, as[n]? = some a → i ∈ AV.idsL as
  | [], n, hm => by simp at hm
  | b :: as, 0, hm => by simp at hm; subst hm; simp [AV.idsL, hi]
  | b :: as, n + 1, hm => by simp at hm; simp only [AV.idsL, List.mem_append]; exact .inr (mem_idsL_get hi hm)

/-- Row r of the rows. -/
theorem RepRows.get {k : Nat} : ∀ {xs : List (List D)} {vs : List Value}, RepRows W X k xs vs → ∀ {i : Nat} {r : List D}, xs[i]? = some r → r.length = k ∧ RepDs W X r ((vs.drop (i * k)).take k)
  | [], _, _, i, r, hi => by simp at hi
  | x :: xs, vs, hr, i, r, hi => by
    simp only [RepRows] at hr
    obtain ⟨h1, h2, h3⟩ := hr
    cases i with
    | zero => simp at hi; subst hi; exact ⟨h1, by simpa using h2⟩
    | succ i =>
      simp at hi
      have := RepRows.get h3 hi
      rw [List.drop_drop] at this
      rwa [show k + i * k = (i + 1) * k by rw [Nat.succ_mul]; omega] at this

theorem RepARows.get {k : Nat} : ∀ {xs : List (List AV)} {vs : List Value}, RepARows W E h k xs vs → ∀ {i : Nat} {r : List AV}, xs[i]? = some r → r.length = k ∧ Reps W E h r ((vs.drop (i * k)).take k)
  | [], _, _, i, r, hi => by simp at hi
  | x :: xs, vs, hr, i, r, hi => by
    simp only [RepARows] at hr
    obtain ⟨h1, h2, h3⟩ := hr
    cases i with
    | zero => simp at hi; subst hi; exact ⟨h1, by simpa using h2⟩
    | succ i =>
      simp at hi
      have := RepARows.get h3 hi
      rw [List.drop_drop] at this
      rwa [show k + i * k = (i + 1) * k by rw [Nat.succ_mul]; omega] at this

theorem RepRows.drop {k : Nat} : ∀ {xs : List (List D)} {vs : List Value}, RepRows W X k xs vs → ∀ n, RepRows W X k (xs.drop n) (vs.drop (n * k))
  | [], _, _, n => by simp [RepRows]
  | x :: xs, vs, hr, 0 => by simpa using hr
  | x :: xs, vs, hr, n + 1 => by
    simp only [RepRows] at hr
    have := RepRows.drop hr.2.2 n
    rw [List.drop_drop] at this
    simp only [List.drop_succ_cons]
    rwa [show k + n * k = (n + 1) * k by rw [Nat.succ_mul]; omega] at this

theorem RepRows.take {k : Nat} : ∀ {xs : List (List D)} {vs : List Value}, RepRows W X k xs vs → ∀ n, RepRows W X k (xs.take n) vs
  | [], _, _, n => by simp [RepRows]
  | x :: xs, vs, hr, 0 => by simp [RepRows]
  | x :: xs, vs, hr, n + 1 => by
    simp only [RepRows, List.take_succ_cons] at hr ⊢
    exact ⟨hr.1, hr.2.1, RepRows.take hr.2.2 n⟩

theorem RepRows.length_le {k : Nat} : ∀ {xs : List (List D)} {vs : List Value}, RepRows W X k xs vs → xs.length * k ≤ vs.length
  | [], _, _ => by simp
  | x :: xs, vs, hr => by
    simp only [RepRows] at hr
    have h1 := RepDs.length hr.2.1
    have h2 := RepRows.length_le hr.2.2
    rw [List.length_take] at h1
    rw [List.length_drop] at h2
    simp only [List.length_cons, Nat.succ_mul]
    have := hr.1
    omega

theorem RepRows.len {k : Nat} : ∀ {xs : List (List D)} {vs : List Value}, RepRows W X k xs vs → ∀ r ∈ xs, r.length = k
  | [], _, _, r, hm => by simp at hm
  | x :: xs, vs, hr, r, hm => by
    simp only [RepRows] at hr
    rcases List.mem_cons.1 hm with rfl | hm
    · exact hr.1
    · exact RepRows.len hr.2.2 r hm

/-- Only the first cells count. -/
theorem RepRows.congr {k : Nat} : ∀ {xs : List (List D)} {vs ws : List Value}, RepRows W X k xs vs → vs.take (xs.length * k) = ws.take (xs.length * k) → RepRows W X k xs ws
  | [], _, _, _, _ => by simp only [RepRows]
  | x :: xs, vs, ws, hr, he => by
    simp only [RepRows] at hr ⊢
    simp only [List.length_cons, Nat.succ_mul] at he
    have h1 : vs.take k = ws.take k := by
      have := congrArg (List.take k) he
      rw [List.take_take, List.take_take] at this
      rwa [Nat.min_eq_left (by omega)] at this
    have h2 : (vs.drop k).take (xs.length * k) = (ws.drop k).take (xs.length * k) := by
      have := congrArg (List.drop k) he
      rw [List.drop_take, List.drop_take] at this
      rwa [show xs.length * k + k - k = xs.length * k by omega] at this
    exact ⟨hr.1, by rw [← h1]; exact hr.2.1, RepRows.congr hr.2.2 h2⟩

theorem RepRows.append {k : Nat} : ∀ {xs ys : List (List D)} {vs ws : List Value}, RepRows W X k xs vs → RepRows W X k ys ws → vs.length = xs.length * k → RepRows W X k (xs ++ ys) (vs ++ ws)
  | [], ys, vs, ws, _, hy, hl => by
    have : vs = [] := by simpa using hl
    subst this; simpa using hy
  | x :: xs, ys, vs, ws, hr, hy, hl => by
    simp only [RepRows, List.cons_append] at hr ⊢
    simp only [List.length_cons, Nat.succ_mul] at hl
    refine ⟨hr.1, ?_, ?_⟩
    · rw [List.take_append_of_le_length (by omega)]; exact hr.2.1
    · rw [List.drop_append_of_le_length (by omega)]
      exact RepRows.append hr.2.2 hy (by rw [List.length_drop]; omega)
end

end Go.Aw
