/-
  sync.Once.Do, told over the private heap: what it leaves in the once and what the function leaves beside it.
-/
import Derived.Test.YtoofpcploeanpaaOnceA
import Derived.Test.YtoofpcploeanpaaAwTab
namespace Go.Aw
set_option maxRecDepth 100000
set_option linter.unusedSimpArgs false
set_option linter.unusedVariables false
open Go Go.Proofs

section
variable {P : Program} {w w' : World} {E E' : Env} {h h' : AHeap}

theorem hset_hset : ∀ (h : AHeap) (i : Nat) (a b : AObj), hset (hset h i a) i b = hset h i b
  | [], _, _, _ => rfl
  | (k, o) :: r, i, a, b => by
    by_cases hk : k = i
    · simp [hset, hk]
    · simp [hset, hk, hset_hset r]

theorem hget_hset_some {h : AHeap} {i j : Nat} {o : AObj} (hi : (hget h i).isSome) : (hget (hset h i o) j).isSome = (hget h j).isSome := by
  by_cases hj : j = i
  · subst hj
    obtain ⟨x, hx⟩ := Option.isSome_iff_exists.1 hi
    rw [hget_hset_same hx, hx]
    rfl
  · rw [hget_hset_other hj]

/-- One cell of a variable of one's own. -/
theorem poke (hs : SatH E h w) {i o b : Nat} {cs : List AV} (hi : hget h i = some (.var cs)) (hb : E.O i = some b) {x : AV} {v : Value} (hr : Rep w E h x v) :
    Chg E h w E (hset h i (.var (cs.set o x))) (w.setCell ⟨b, o, none⟩ v) i ∧ SatH E (hset h i (.var (cs.set o x))) (w.setCell ⟨b, o, none⟩ v) := by
  have hob := hs.heap i _ hi
  simp only [RepObj] at hob
  obtain ⟨b', c, T, fz, g1, g2, g3, g4⟩ := hob
  rw [hb] at g1; cases g1
  rw [setCell_row g2]
  have ch := chg_var hs hi (cs' := cs.set o x) (by simp) hb (.cells (c.setIfInBounds o v) T fz)
  refine ⟨ch, ch.satH hs (fun ob hob => ?_)⟩
  rw [hget_hset_same hi] at hob
  cases hob
  simp only [RepObj]
  refine ⟨b, _, T, fz, hb, row_get (Array.getElem?_eq_some_iff.1 g2).1, ?_, by simpa using g4⟩
  rw [Array.toList_setIfInBounds]
  exact ch.reps (g3.set hr)

theorem own_hset {i : Nat} {o : AObj} (hi : (hget h i).isSome) {b : Nat} : Own E (hset h i o) b ↔ Own E h b := by
  unfold Own
  constructor
  · rintro ⟨j, h1, h2⟩; exact ⟨j, by rwa [hget_hset_some hi] at h1, h2⟩
  · rintro ⟨j, h1, h2⟩; exact ⟨j, by rwa [hget_hset_some hi], h2⟩

/-- A call whose private heap is all that there is. -/
theorem ACall.whole {f : FuncId} {args : List AV} {fl fl' : Nat} {K : AV → AHeap → Prop} (hc : ACall P f fl args h K) (hfl : ∀ i, (hget h i).isSome → i < fl) (hle : fl' ≤ fl) (hk : ∀ r h', K r h' → ∀ i, (hget h i).isSome → (hget h' i).isSome) : ACallAt P fl' f args h K := by
  refine ⟨hc.1, fun E w vs hs hr => (hc.2 E w vs hs hr).mono ?_⟩
  rintro e w' ⟨v, E', r, h', h1, h2, h3, h4, h5⟩
  refine ⟨v, E', r, h', h1, h2, h3, h4, ⟨h5.os, h5.tape, h5.output, h5.size, h5.keep, h5.own, h5.m, h5.n, fun i hi hs' => h5.go i (by omega) hs'⟩, fun x y hxy => ?_⟩
  refine Rep.step (fun b hb hx => ?_) (fun b hb hx => h5.keep b hb (fun ho => hx (.inl ho))) x y (fun j _ => ?_) hxy
  · rcases hx with hx | hx | hx
    · exact (h5.own b hx).elim .inl (fun h => by omega)
    · exact .inr (.inl (by rwa [h5.m] at hx))
    · exact .inr (.inr (by rwa [h5.n] at hx))
  · by_cases hj : (hget h j).isSome
    · exact (h5.go j (hfl j hj) (hk _ _ h2 j hj)).2
    · unfold GoesOn
      split
      · rename_i cs hh; exact (hj (by simp [hh])).elim
      · rename_i k xs hh; exact (hj (by simp [hh])).elim
      · rename_i l p hh; exact (hj (by simp [hh])).elim
      · rename_i es hh; exact (hj (by simp [hh])).elim
      · trivial
end

section
variable {h : AHeap}

theorem once_at {fl i : Nat} {cs cs2 : List AV} (hi : hget h i = some (.var cs)) (c0 : cs[0]? = some (.d (.int .u32 0))) (c1 : cs[1]? = some (.d (.int .i32 0)))
    (d0 : cs2[0]? = some (.d (.int .u32 0))) (d1 : cs2[1]? = some (.d (.int .i32 1)))
    (hf : ACallAt Try.prog fl 67 [.vp i 0] (hset h i (.var (cs.set 1 (.d (.int .i32 1))))) (fun r h' => r = .tup [] ∧ h' = hset h i (.var cs2))) :
    ACallAt Try.prog fl 66 [.vp i 0, .fn (.func 67) [.vp i 0] []] h (fun r h' => r = .tup [] ∧ h' = hset h i (.var ((cs2.set 0 (.d (.int .u32 1))).set 1 (.d (.int .i32 0))))) := by
  refine ⟨enters Try.func66 (by kernel_rfl) rfl, fun E w vs hs hr => ?_⟩
  simp only [Reps] at hr
  obtain ⟨v0, r0, e0, q0, v1, r1, rfl, q1, rfl⟩ := hr
  simp only [Rep, Reps] at q1
  obtain ⟨fa, fb, rfl, ⟨u, r2, e2, q2, rfl⟩, e3⟩ := q1
  have q0' := q0
  simp only [Rep] at q0 q2
  obtain ⟨b, cs', hi', hb, rfl⟩ := q0
  obtain ⟨b', cs'', hi'', hb', rfl⟩ := q2
  rw [hb] at hb'; cases hb'
  have hfa : fa = #[.pointer (some ⟨b, 0, none⟩)] := by cases fa; simpa using e2
  have hfb : fb = #[] := by cases fb; simpa using e3
  subst hfa hfb
  have hvs : vs = #[.pointer (some ⟨b, 0, none⟩), .func (.func 67) #[.pointer (some ⟨b, 0, none⟩)] #[]] := by cases vs; simpa using e0
  subst hvs
  -- the once, in a world
  have look : ∀ {E : Env} {h : AHeap} {w : World} {xs : List AV}, SatH E h w → hget h i = some (.var xs) → E.O i = some b → ∀ (o : Nat) (k : IntKind) (n : Int), xs[o]? = some (.d (.int k n)) → w.cell? ⟨b, o, none⟩ = some (.int k n) ∧ w.frozen? ⟨b, o, none⟩ = false := by
    intro E h w xs hs hi hb o k n ho
    have hob := hs.heap i _ hi
    simp only [RepObj] at hob
    obtain ⟨b', c, T, fz, g1, g2, g3, g4⟩ := hob
    rw [hb] at g1; cases g1
    obtain ⟨v, h1, h2⟩ := Reps.get g3 ho
    simp only [Rep, RepD] at h2
    subst h2
    have h1' : c[o]? = some (.int k n) := by simpa using h1
    have hlt := (Array.getElem?_eq_some_iff.1 h1').1
    refine ⟨by rw [cell_of_block g2]; exact h1', ?_⟩
    rw [frozen_of_block g2]
    have := g4 o hlt
    simpa using this
  obtain ⟨a0, z0⟩ := look hs hi hb 0 _ _ c0
  obtain ⟨a1, z1⟩ := look hs hi hb 1 _ _ c1
  obtain ⟨ch1, hs1⟩ := poke hs hi hb (o := 1) (x := .d (.int .i32 1)) (v := .int .i32 1) (by simp [Rep, RepD])
  have hsome : (hget h i).isSome := by simp [hi]
  have hp1 : Rep (w.setCell ⟨b, 1, none⟩ (.int .i32 1)) E (hset h i (.var (cs.set 1 (.d (.int .i32 1))))) (.vp i 0) (.pointer (some ⟨b, 0, none⟩)) := ch1.rep q0'
  have hfill := hf.2 E _ #[.pointer (some ⟨b, 0, none⟩)] hs1 (by simp only [Reps]; exact ⟨_, _, rfl, hp1, rfl⟩)
  let R : World → Prop := fun w2 => ∃ E2, SatH E2 (hset h i (.var cs2)) w2 ∧ EvoC fl E (hset h i (.var (cs.set 1 (.d (.int .i32 1))))) (w.setCell ⟨b, 1, none⟩ (.int .i32 1)) E2 (hset h i (.var cs2)) w2 ∧
    (∀ x y, Rep (w.setCell ⟨b, 1, none⟩ (.int .i32 1)) E (hset h i (.var (cs.set 1 (.d (.int .i32 1))))) x y → Rep w2 E2 (hset h i (.var cs2)) x y)
  have hO : ∀ {w2 E2}, (∀ x y, Rep (w.setCell ⟨b, 1, none⟩ (.int .i32 1)) E (hset h i (.var (cs.set 1 (.d (.int .i32 1))))) x y → Rep w2 E2 (hset h i (.var cs2)) x y) → E2.O i = some b := by
    intro w2 E2 hrep
    have := hrep _ _ hp1
    simp only [Rep] at this
    obtain ⟨b2, _, _, h1, h2⟩ := this
    have : b = b2 := by
      have := Value.pointer.inj h2
      have := Option.some.inj this
      exact congrArg Addr.block this
    rw [h1, this]
  have hget2 : hget (hset h i (.var cs2)) i = some (.var cs2) := hget_hset_same hi
  refine (Go.Proofs.Ytoofpcploeanpaa.do_first b 0 (.pointer (some ⟨b, 0, none⟩)) w R a0 a1 z0 z1 (hfill.mono ?_) ?_).mono ?_
  · rintro e w2 ⟨v, E2, r, h2, rfl, ⟨rfl, rfl⟩, g1, g2, g3, g4⟩
    simp only [Rep, Reps] at g2
    obtain ⟨vs, rfl, g5⟩ := g2
    have : vs = #[] := by cases vs; simpa using g5
    subst this
    exact ⟨rfl, E2, g1, g3, g4⟩
  · rintro w2 ⟨E2, g1, g2, g3⟩
    obtain ⟨x0, y0⟩ := look g1 hget2 (hO g3) 0 _ _ d0
    obtain ⟨x1, y1⟩ := look g1 hget2 (hO g3) 1 _ _ d1
    exact ⟨x0, x1, y0, y1⟩
  · rintro e w3 ⟨rfl, w2, ⟨E2, g1, g2, g3⟩, rfl⟩
    have hb2 := hO g3
    have hsd : SatH E2 (hset h i (.var cs2)) w2.drew := g1.refit ⟨rfl, rfl, rfl, rfl, fun _ _ => rfl, fun _ _ h _ _ => h⟩ (base := 0) rfl rfl (fun _ _ h => h) (fun b hb => (g1.own b hb).2) g1.mlt g1.nlt
    obtain ⟨ch2, hs2⟩ := poke hsd hget2 hb2 (o := 0) (x := .d (.int .u32 1)) (v := .int .u32 1) (by simp [Rep, RepD])
    have hget3 : hget (hset (hset h i (.var cs2)) i (.var (cs2.set 0 (.d (.int .u32 1))))) i = some (.var (cs2.set 0 (.d (.int .u32 1)))) := hget_hset_same hget2
    obtain ⟨ch3, hs3⟩ := poke hs2 hget3 hb2 (o := 1) (x := .d (.int .i32 0)) (v := .int .i32 0) (by simp [Rep, RepD])
    have hrep3 : ∀ x y, Rep w2 E2 (hset h i (.var cs2)) x y → Rep _ E2 _ x y := fun x y hxy =>
      ch3.rep (ch2.rep (Rep.step (W := w2) (W' := w2.drew) (fun _ _ h => h) (fun _ _ _ => rfl) x y (fun j _ => GoesOn.refl E2 _ j) hxy))
    have hs2some : (hget (hset h i (.var cs2)) i).isSome := by simp [hget2]
    have hs3some : (hget (hset (hset h i (.var cs2)) i (.var (cs2.set 0 (.d (.int .u32 1))))) i).isSome := by simp [hget3]
    have e4 : hset (hset (hset h i (.var cs2)) i (.var (cs2.set 0 (.d (.int .u32 1))))) i (.var ((cs2.set 0 (.d (.int .u32 1))).set 1 (.d (.int .i32 0)))) = hset h i (.var ((cs2.set 0 (.d (.int .u32 1))).set 1 (.d (.int .i32 0)))) := by rw [hset_hset, hset_hset]
    refine ⟨.tuple #[], E2, .tup [], _, rfl, ⟨rfl, rfl⟩, e4 ▸ hs3, by simp [Rep, Reps], ?_, fun x y hxy => e4 ▸ hrep3 x y (g3 x y (ch1.rep hxy))⟩
    have hown : ∀ b', b' < w.heap.size → ¬ Own E h b' → w2.heap[b']? = w.heap[b']? := fun b' hb' hno =>
      (g2.keep b' (by simpa using hb') (fun ho => hno ((own_hset hsome).1 ho))).trans (ch1.blk b' hb' (fun ⟨h1, h2⟩ => hno ⟨i, h1, h2⟩))
    have hsz : w.heap.size ≤ w2.heap.size := Nat.le_trans ch1.size g2.size
    refine ⟨?_, ?_, ?_, ?_, fun b' hb' hno => ?_, fun b' ho => ?_, g2.m, g2.n, fun j hj hjs => ?_⟩
    · exact ch3.os.trans (ch2.os.trans (g2.os.trans ch1.os))
    · exact ch3.tape.trans (ch2.tape.trans (g2.tape.trans ch1.tape))
    · exact ch3.output.trans (ch2.output.trans (g2.output.trans ch1.output))
    · exact Nat.le_trans hsz (Nat.le_trans ch2.size ch3.size)
    · have hne : ¬ E2.O i = some b' := fun e => by
        rw [hb2] at e; cases e
        exact hno ⟨i, hsome, hb⟩
      have h1 : b' < w2.drew.heap.size := Nat.lt_of_lt_of_le hb' hsz
      rw [ch3.blk b' (Nat.lt_of_lt_of_le h1 ch2.size) (fun h => hne h.2), ch2.blk b' h1 (fun h => hne h.2)]
      exact hown b' hb' hno
    · rw [own_hset hsome] at ho
      have ho2 : Own E2 (hset h i (.var cs2)) b' := (own_hset hsome).2 ho
      rcases g2.own b' ho2 with h1 | h1
      · exact .inl ((own_hset hsome).1 h1)
      · exact .inr (by simpa using h1)
    · rw [hget_hset_some hsome] at hjs
      have hj2 : (hget (hset h i (.var cs2)) j).isSome := by rwa [hget_hset_some hsome]
      obtain ⟨p1, p2⟩ := g2.go j hj hj2
      refine ⟨hjs, ?_⟩
      have p3 := (ch1.goesOn j).trans p2
      have p4 := p3.trans ((ch2.goesOn j).trans (ch3.goesOn j))
      exact e4 ▸ p4
end
end Go.Aw
