/-
  strings.Builder, told over the private heap: WriteString and String.
-/
import Derived.Test.YtioccpkcnnkpjaaGreatBldC
import Derived.Test.YtioccpkcnnkpjaaGreatAwLin
namespace Go.Aw
set_option maxRecDepth 100000
set_option linter.unusedSimpArgs false
set_option linter.unusedVariables false
open Go Go.Proofs Go.Proofs.YtioccpkcnnkpjaaGreat

section
variable {P : Program} {w w' w'' : World} {E E' E'' : Env} {h h' h'' : AHeap} {fl i j : Nat}

theorem EvoC.trans (a : EvoC fl E h w E' h' w') (b : EvoC fl E' h' w' E'' h'' w'') : EvoC fl E h w E'' h'' w'' where
  os := b.os.trans a.os
  tape := b.tape.trans a.tape
  output := b.output.trans a.output
  size := Nat.le_trans a.size b.size
  keep := fun k hk ho => (b.keep k (Nat.lt_of_lt_of_le hk a.size) (fun h => (a.own k h).elim ho (fun h => by omega))).trans (a.keep k hk ho)
  own := fun k h => (b.own k h).elim (fun h => a.own k h) (fun h => .inr (Nat.le_trans a.size h))
  m := b.m.trans a.m
  n := b.n.trans a.n
  go := fun i hi hl => by
    obtain ⟨h1, h2⟩ := b.go i hi hl
    obtain ⟨h3, h4⟩ := a.go i hi h1
    exact ⟨h3, h4.trans h2⟩

theorem Chg.evoC (c : Chg E h w E' h' w' i) (hf : (hget h i).isSome ∨ fl ≤ i) : EvoC fl E h w E' h' w' :=
  have e := c.evo (fl := fl) hf
  ⟨e.os, e.tape, e.output, e.size, fun b hb ho => c.blk b hb (fun ⟨h1, h2⟩ => ho ⟨i, h1, h2⟩), e.own, c.M, c.N, e.go⟩

theorem row_same {b : Nat} {c : Array Value} {T : TypeId} {fz : Nat × Nat} (g2 : w.heap[b]? = some (.cells c T fz)) : World.row w b (.cells c T fz) = w := by
  obtain ⟨hlt, hb'⟩ := Array.getElem?_eq_some_iff.1 g2
  unfold World.row
  rw [← hb', Array.setIfInBounds_def, dif_pos hlt, Array.set_getElem_self]

theorem setCell_same {b o : Nat} {c : Array Value} {T : TypeId} {fz : Nat × Nat} {v : Value} (g2 : w.heap[b]? = some (.cells c T fz)) (hc : c[o]? = some v) : w.setCell ⟨b, o, none⟩ v = w := by
  rw [setCell_row g2]
  have : c.setIfInBounds o v = c := by
    obtain ⟨hlt, he⟩ := Array.getElem?_eq_some_iff.1 hc
    rw [Array.setIfInBounds_def, dif_pos hlt, ← he, Array.set_getElem_self]
  rw [this]
  exact row_same g2

theorem hset_hset2 : ∀ (h : AHeap) (i : Nat) (a b : AObj), hset (hset h i a) i b = hset h i b
  | [], _, _, _ => rfl
  | (k, o) :: r, i, a, b => by
    by_cases hk : k = i
    · simp [hset, hk]
    · simp [hset, hk, hset_hset2 r]

/-- One cell of a typed variable. -/
theorem pokeT (hs : SatH E h w) {o b : Nat} {t : TypeId} {cs : List AV} (hi : hget h i = some (.tvar t cs)) (hb : E.O i = some b) {x : AV} {v : Value} (hr : Rep w E h x v) :
    Chg E h w E (hset h i (.tvar t (cs.set o x))) (w.setCell ⟨b, o, none⟩ v) i ∧ SatH E (hset h i (.tvar t (cs.set o x))) (w.setCell ⟨b, o, none⟩ v) := by
  have hob := hs.heap i _ hi
  simp only [RepObj] at hob
  obtain ⟨b', c, T, fz, g1, g2, g3, g4, g5⟩ := hob
  rw [hb] at g1; cases g1
  rw [setCell_row g2]
  have ch := chg_tvar hs hi (cs' := cs.set o x) (by simp) hb (.cells (c.setIfInBounds o v) T fz)
  refine ⟨ch, ch.satH hs (fun ob hob => ?_)⟩
  rw [hget_hset_same hi] at hob
  cases hob
  simp only [RepObj]
  refine ⟨b, _, T, fz, hb, row_get (Array.getElem?_eq_some_iff.1 g2).1, ?_, by simpa using g4, g5⟩
  rw [Array.toList_setIfInBounds]
  exact ch.reps (g3.set hr)

/-- A buffer's slice, in a world. -/
theorem bsl_own (hs : SatH E h w) {t : TypeId} {xs : List UInt8} {n : Nat} {v : Value} (hj : hget h j = some (.buf t xs)) (hv : Rep w E h (.bsl j n) v) (hn : n = xs.length) :
    w.ownsRow 0 t 1 v xs.length (Lib.byteCells xs) ∧ (∀ g, v.ownBlock = some g → E.O j = some g) ∧ (v = .slice none 0 0 ∧ E.O j = none ∨ ∃ g, v = .slice (some ⟨g, 0, none⟩) xs.length (E.C j) ∧ E.O j = some g) := by
  simp only [Rep] at hv
  obtain ⟨_, t', xs', h1, _, h3⟩ := hv
  rw [hj] at h1; cases h1
  have hob := hs.heap j _ hj
  simp only [RepObj] at hob
  rcases h3 hn.symm with ⟨⟨h4, h5⟩, rfl⟩ | ⟨g, h4, rfl⟩
  · have : xs = [] := List.length_eq_zero_iff.1 (by omega)
    subst this
    exact ⟨World.ownsRow_nil _ _ _ _, fun g hg => by simp [Value.ownBlock] at hg, .inl ⟨rfl, h4⟩⟩
  · rcases hob with ⟨q1, _⟩ | ⟨b', c, T, fz, q1, q2, q3, q4, q5, rfl, rfl, q7⟩
    · rw [h4] at q1; cases q1
    · rw [h4] at q1; cases q1
      refine ⟨⟨by simp [Lib.byteCells], .inr ⟨g, E.C j, c, by rw [hn], Nat.zero_le _, q2, q4, by unfold maxLen; omega, q3, by rw [Nat.mul_one]; exact q5⟩⟩, fun g' hg => ?_, .inr ⟨g, by rw [hn], h4⟩⟩
      simp [Value.ownBlock] at hg
      rw [h4, hg]

/-- A buffer changes. -/
theorem chg_buf {t : TypeId} {xs xs' : List UInt8} (hj : hget h j = some (.buf t xs)) (g' : Option Nat) (cap' : Nat) {row : Option Nat} (hgrow : w.grownBy w' row) (hrow : ∀ g, row = some g → E.O j = some g) (hlen : xs.length ≤ xs'.length) (hsame : xs'.length = xs.length → g' = E.O j ∧ cap' = E.C j)
    (hnew : ∀ g, g' = some g → E.O j = some g ∨ (w.heap.size ≤ g ∧ g < w'.heap.size)) : Chg E h w (E.set j g' cap') (hset h j (.buf t xs')) w' j where
  os := hgrow.os
  tape := hgrow.tape
  output := hgrow.output
  size := hgrow.size
  envO := fun k e => by simp [Env.set, e]
  envC := fun k e => by simp [Env.set, e]
  M := rfl
  N := rfl
  hh := fun k e => hget_hset_other e
  gi := by
    unfold GoesOn
    rw [hj]
    exact ⟨xs', hget_hset_same hj, hlen, fun e => by simpa [Env.set] using hsame e⟩
  blk := fun b hb hn => hgrow.block b hb (fun e => hn ⟨by simp [hj], hrow b e.symm⟩)
  new := fun b _ hb => by
    simp only [Env.set, if_true] at hb
    rcases hnew b hb with h1 | h1
    · exact .inl ⟨by simp [hj], h1⟩
    · exact .inr h1

theorem strCells_bytes (l : List UInt8) : Lib.strCells ⟨l.toArray⟩ = Lib.byteCells l := by simp [Lib.strCells, Lib.byteCells]

theorem write_at {o : Nat} {T : TypeId} {cs : List AV} {xs l : List UInt8} {n : Nat} (hi : hget h i = some (.tvar T cs)) (c0 : cs[o]? = some (.d .nilp) ∨ cs[o]? = some (.tp i o)) (c1 : cs[o + 1]? = some (.bsl j n)) (hj : hget h j = some (.buf 5 xs)) (hn : n = xs.length)
    (hl : liesAt Tryz.prog Tryz.prog.depth T (cs.length / Tryz.prog.cellsOf T) o 82 1 = true) (hlen : xs.length + l.length ≤ 140737488355328) :
    ACallAt Tryz.prog fl 83 [.tp i o, .d (.str l)] h (fun r h' => r = .tup [.d (.int .i64 l.length), .d .nilif] ∧ h' = hset (hset h j (.buf 5 (xs ++ l))) i (.tvar T ((cs.set o (.tp i o)).set (o + 1) (.bsl j (xs.length + l.length))))) := by
  refine ⟨enters Tryz.func83 (by kernel_rfl) rfl, fun E w vs hs hr => ?_⟩
  simp only [Reps] at hr
  obtain ⟨v0, r0, e0, q0, v1, r1, rfl, q1, rfl⟩ := hr
  have q0' := q0
  simp only [Rep, RepD] at q0 q1
  obtain ⟨b, T', cs', hi', hb, rfl⟩ := q0
  rw [hi] at hi'; cases hi'
  subst q1
  have hvs : vs = #[.pointer (some ⟨b, o, none⟩), .string ⟨l.toArray⟩] := by cases vs; simpa using e0
  subst hvs
  have hij : i ≠ j := fun e => by rw [e, hj] at hi; cases hi
  have hob := hs.heap i _ hi
  simp only [RepObj] at hob
  obtain ⟨b', c, T0, fz, g1, g2, g3, g4, rfl⟩ := hob
  rw [hb] at g1; cases g1
  have hcl : c.size = cs.length := by have := Reps.length g3; simpa using this
  obtain ⟨v, hv0, hv⟩ := Reps.get g3 c1
  have hv1 : c[o + 1]? = some v := by simpa using hv0
  have hlt1 : o + 1 < c.size := (Array.getElem?_eq_some_iff.1 hv1).1
  obtain ⟨o1, o2, o3⟩ := bsl_own hs hj hv hn
  have hne : v.ownBlock ≠ some b := fun e => hij (hs.inj i j b (by simp [hi]) (by simp [hj]) hb (o2 b e))
  have hfz : ∀ k, k < c.size → w.frozen? ⟨b, k, none⟩ = false := fun k hk => by
    rw [frozen_of_block g2]
    have := g4 k hk
    simpa using this
  have hptr : Rep w E h (.tp i o) (.pointer (some ⟨b, o, none⟩)) := q0'
  have hc0 : c[o]? = some (.pointer none) ∨ c[o]? = some (.pointer (some ⟨b, o, none⟩)) := by
    rcases c0 with c0 | c0
    · obtain ⟨u, hu, hur⟩ := Reps.get g3 c0
      simp only [Rep, RepD] at hur
      subst hur
      exact .inl (by simpa using hu)
    · obtain ⟨u, hu, hur⟩ := Reps.get g3 c0
      simp only [Rep] at hur
      obtain ⟨b2, _, _, _, hb2, rfl⟩ := hur
      rw [hb] at hb2; cases hb2
      exact .inr (by simpa using hu)
  refine (write_calls b o c.size T0 w v xs.length (Lib.byteCells xs) ⟨l.toArray⟩ (by rw [cell_of_block g2]; exact hc0) (by rw [cell_of_block g2]; exact hv1) (by simp [World.shape?, g2]) (by omega) (by rw [hcl]; exact hl) (hfz o (by omega)) (hfz (o + 1) hlt1) o1 hne (by simpa [ByteArray.size] using hlen)).mono ?_
  rintro e w3 ⟨rfl, w1, v', w2, hw1, hown', hgrow, ⟨hnew, hempty⟩, rfl⟩
  have hw1' : w1 = w.setCell ⟨b, o, none⟩ (.pointer (some ⟨b, o, none⟩)) := by
    rcases hw1 with ⟨rfl, hc⟩ | h
    · rw [cell_of_block g2] at hc
      exact (setCell_same g2 hc).symm
    · exact h
  subst hw1'
  obtain ⟨ch1, hs1⟩ := pokeT hs hi hb (o := o) hptr
  have hj1 : hget (hset h i (.tvar T0 (cs.set o (.tp i o)))) j = some (.buf 5 xs) := by rw [hget_hset_other (Ne.symm hij)]; exact hj
  rw [strCells_bytes] at hown'
  have hsz : (⟨l.toArray⟩ : ByteArray).size = l.length := by simp [ByteArray.size]
  rw [hsz] at hown' hempty
  -- the buffer
  obtain ⟨g', cap', hv', hg'⟩ : ∃ (g' : Option Nat) (cap' : Nat), v'.ownBlock = g' ∧ ((v' = .slice none 0 0 ∧ g' = none ∧ xs ++ l = []) ∨ ∃ g cur, g' = some g ∧ v' = .slice (some ⟨g, 0, none⟩) (xs.length + l.length) cap' ∧ w2.heap[g]? = some (.cells cur 5 (0, 0)) ∧ xs.length + l.length ≤ cap' ∧ cap' ≤ maxLen ∧ cur.size = cap' * 1 ∧ cur.toList.take ((xs.length + l.length) * 1) = Lib.byteCells xs ++ Lib.byteCells l) ∧ (l = [] → g' = E.O j ∧ cap' = E.C j) := by
    rcases hown'.2 with ⟨rfl, hz⟩ | ⟨g, cap', cur, rfl, _, hx⟩
    · refine ⟨none, E.C j, rfl, .inl ⟨rfl, rfl, ?_⟩, fun hl0 => ⟨?_, rfl⟩⟩
      · have h1 : xs = [] := List.length_eq_zero_iff.1 (by omega)
        have h2 : l = [] := List.length_eq_zero_iff.1 (by omega)
        simp [h1, h2]
      · have hve := hempty (by simp [hl0])
        rcases o3 with ⟨_, h1⟩ | ⟨g, h1, _⟩
        · exact h1.symm
        · rw [h1] at hve; cases hve
    · refine ⟨some g, cap', rfl, .inr ⟨g, cur, rfl, rfl, hx⟩, fun hl0 => ?_⟩
      have hve := hempty (by simp [hl0])
      rcases o3 with ⟨h1, _⟩ | ⟨g2, h1, h2⟩
      · rw [h1] at hve; cases hve
      · rw [h1] at hve
        simp only [Value.slice.injEq, Option.some.injEq, Addr.mk.injEq] at hve
        obtain ⟨⟨rfl, _⟩, _, rfl⟩ := hve
        exact ⟨h2.symm, rfl⟩
  obtain ⟨hg', hsame⟩ := hg'
  have ch2 : Chg E (hset h i (.tvar T0 (cs.set o (.tp i o)))) (w.setCell ⟨b, o, none⟩ (.pointer (some ⟨b, o, none⟩))) (E.set j g' cap') (hset (hset h i (.tvar T0 (cs.set o (.tp i o)))) j (.buf 5 (xs ++ l))) w2 j :=
    chg_buf hj1 g' cap' hgrow (fun g hg => o2 g hg) (by simp) (fun e => hsame (by simpa using e)) (fun g hg => by
      rcases hnew g (by rw [hv', hg]) with h1 | h1
      · exact .inl (o2 g h1)
      · exact .inr h1)
  have hs2 := ch2.satH hs1 (fun ob hob => by
    rw [hget_hset_same hj1] at hob
    cases hob
    simp only [RepObj, Env.set, if_true]
    rcases hg' with ⟨_, h1, h2⟩ | ⟨g, cur, h1, h2, h3, h4, h5, h6, h7⟩
    · exact .inl ⟨h1, .inl h2⟩
    · refine .inr ⟨g, cur, 5, (0, 0), h1, h3, h6, by simpa using h4, ?_, rfl, rfl, by unfold maxLen at h5; omega⟩
      rw [Nat.mul_one] at h7
      rw [List.length_append, h7]
      simp [Lib.byteCells])
  have hi2 : hget (hset (hset h i (.tvar T0 (cs.set o (.tp i o)))) j (.buf 5 (xs ++ l))) i = some (.tvar T0 (cs.set o (.tp i o))) := by rw [hget_hset_other hij]; exact hget_hset_same hi
  have hb2 : (E.set j g' cap').O i = some b := by simp [Env.set, hij, hb]
  have hrv' : Rep w2 (E.set j g' cap') (hset (hset h i (.tvar T0 (cs.set o (.tp i o)))) j (.buf 5 (xs ++ l))) (.bsl j (xs.length + l.length)) v' := by
    simp only [Rep]
    rcases hg' with ⟨h0, h1, h2⟩ | ⟨g, cur, h1, h2, h3, h4, h5, h6, h7⟩
    · have h3 : xs.length + l.length = 0 := by have := congrArg List.length h2; simpa using this
      exact ⟨⟨_, _, _, h0⟩, _, _, hget_hset_same hj1, by simp, fun _ => .inl ⟨⟨by simp [Env.set, h1], h3⟩, h0⟩⟩
    · exact ⟨⟨_, _, _, h2⟩, _, _, hget_hset_same hj1, by simp, fun _ => .inr ⟨g, by simp [Env.set, h1], by simp [Env.set, h2]⟩⟩
  obtain ⟨ch3, hs3⟩ := pokeT hs2 hi2 hb2 (o := o + 1) hrv'
  have eh : hset (hset (hset h i (.tvar T0 (cs.set o (.tp i o)))) j (.buf 5 (xs ++ l))) i (.tvar T0 ((cs.set o (.tp i o)).set (o + 1) (.bsl j (xs.length + l.length)))) = hset (hset h j (.buf 5 (xs ++ l))) i (.tvar T0 ((cs.set o (.tp i o)).set (o + 1) (.bsl j (xs.length + l.length)))) := by
    rw [hset_comm h hij, hset_hset2]
  refine ⟨_, _, _, _, rfl, ⟨rfl, rfl⟩, eh ▸ hs3, ?_, eh ▸ ((ch1.evoC (.inl (by simp [hi]))).trans ((ch2.evoC (.inl (by simp [hj1]))).trans (ch3.evoC (.inl (by simp [hi2]))))), fun x y hxy => eh ▸ ch3.rep (ch2.rep (ch1.rep hxy))⟩
  simp only [Rep, Reps, RepD]
  refine ⟨_, rfl, _, _, rfl, ?_, _, _, rfl, rfl, rfl⟩
  rw [hsz]

/-- What is left of a buffer whose bytes went into a text: nothing that could be told. -/
noncomputable def gone : List UInt8 := List.replicate deadLen 0
theorem gone_length : gone.length = deadLen := by unfold gone; exact List.length_replicate ..
attribute [irreducible] gone

theorem string_at {o : Nat} {T : TypeId} {cs : List AV} {xs : List UInt8} {n : Nat} (hi : hget h i = some (.tvar T cs)) (c1 : cs[o + 1]? = some (.bsl j n)) (hj : hget h j = some (.buf 5 xs)) (hn : n = xs.length) (hlen : xs.length ≤ 140737488355328) :
    ACallAt Tryz.prog fl 31 [.tp i o] h (fun r h' => r = .d (.str xs) ∧ h' = hset h j (.buf 5 gone)) := by
  refine ⟨enters Tryz.func31 (by kernel_rfl) rfl, fun E w vs hs hr => ?_⟩
  simp only [Reps] at hr
  obtain ⟨v0, r0, e0, q0, rfl⟩ := hr
  have q0' := q0
  simp only [Rep] at q0
  obtain ⟨b, T', cs', hi', hb, rfl⟩ := q0
  rw [hi] at hi'; cases hi'
  have hvs : vs = #[.pointer (some ⟨b, o, none⟩)] := by cases vs; simpa using e0
  subst hvs
  have hob := hs.heap i _ hi
  simp only [RepObj] at hob
  obtain ⟨b', c, T0, fz, g1, g2, g3, g4, rfl⟩ := hob
  rw [hb] at g1; cases g1
  obtain ⟨v, hv0, hv⟩ := Reps.get g3 c1
  have hv1 : c[o + 1]? = some v := by simpa using hv0
  obtain ⟨o1, o2, o3⟩ := bsl_own hs hj hv hn
  refine (string_calls b o w v xs (by rw [cell_of_block g2]; exact hv1) o1).mono ?_
  rintro e w3 ⟨rfl, hgrow⟩
  have hgl := gone_length
  have hdl : deadLen = 9223372036854775808 := rfl
  have ch : Chg E h w (E.set j none 0) (hset h j (.buf 5 gone)) w3 j :=
    chg_buf hj none 0 hgrow (fun g hg => o2 g hg) (by omega) (fun e => by omega) (fun g hg => by cases hg)
  have hs2 := ch.satH hs (fun ob hob => by
    rw [hget_hset_same hj] at hob
    cases hob
    simp only [RepObj, Env.set, if_true]
    exact .inl ⟨trivial, .inr hgl⟩)
  exact ⟨_, _, _, _, rfl, ⟨rfl, rfl⟩, hs2, by simp only [Rep, RepD], ch.evoC (.inl (by simp [hj])), fun x y hxy => ch.rep hxy⟩

/-- A builder that holds nothing yet. -/
theorem string_nil_at {o : Nat} {T : TypeId} {cs : List AV} (hi : hget h i = some (.tvar T cs)) (c1 : cs[o + 1]? = some (.nils 1)) {K : AV → AHeap → Prop} (hK : K (.d (.str [])) h) :
    ACallAt Tryz.prog fl 31 [.tp i o] h K := by
  refine ⟨enters Tryz.func31 (by kernel_rfl) rfl, fun E w vs hs hr => ?_⟩
  simp only [Reps] at hr
  obtain ⟨v0, r0, e0, q0, rfl⟩ := hr
  have q0' := q0
  simp only [Rep] at q0
  obtain ⟨b, T', cs', hi', hb, rfl⟩ := q0
  rw [hi] at hi'; cases hi'
  have hvs : vs = #[.pointer (some ⟨b, o, none⟩)] := by cases vs; simpa using e0
  subst hvs
  have hob := hs.heap i _ hi
  simp only [RepObj] at hob
  obtain ⟨b', c, T0, fz, g1, g2, g3, g4, rfl⟩ := hob
  rw [hb] at g1; cases g1
  obtain ⟨v, hv0, hv⟩ := Reps.get g3 c1
  have hv1 : c[o + 1]? = some v := by simpa using hv0
  simp only [Rep] at hv
  subst hv
  refine (string_nil b o w (by rw [cell_of_block g2]; exact hv1)).mono ?_
  rintro e w3 ⟨rfl, hgrow⟩
  have hfr := hget_fresh fl h
  have ch : Chg E h w E h w3 (fresh fl h) :=
    { os := hgrow.os, tape := hgrow.tape, output := hgrow.output, size := hgrow.size, envO := fun _ _ => rfl, envC := fun _ _ => rfl, M := rfl, N := rfl, hh := fun _ _ => rfl,
      gi := by simp [GoesOn, hfr]
      blk := fun k hk _ => hgrow.block k hk (by simp)
      new := fun k hs' _ => by rw [hfr] at hs'; cases hs' }
  have hs2 := ch.satH hs (fun ob hob => by rw [hfr] at hob; cases hob)
  exact ⟨_, _, _, _, rfl, hK, hs2, by simp only [Rep, RepD], ch.evoC (.inr (fl_le_fresh _ _)), fun x y hxy => ch.rep hxy⟩

/-- A nil slice in a typed variable, as a buffer that has no block yet. -/
theorem aw_adoptB {cx : Cx} {c : Code} {Q : Exit → AS → Prop} {s : AS} (i o : Nat) {T : TypeId} {cs : List AV} (hi : hget s.h i = some (.tvar T cs)) (ho : cs[o]? = some (.nils 1))
    (h : AW cx c Q { s with h := (fresh cx.fl s.h, .buf 5 []) :: hset s.h i (.tvar T (cs.set o (.bsl (fresh cx.fl s.h) 0))) }) : AW cx c Q s := fun E a w hs => by
  have hne : fresh cx.fl s.h ≠ i := fun e => by
    have := hget_fresh cx.fl s.h
    rw [e, hi] at this; cases this
  have cc : Chg E s.h w (E.set (fresh cx.fl s.h) none 0) ((fresh cx.fl s.h, .buf 5 []) :: s.h) w (fresh cx.fl s.h) :=
    { os := rfl, tape := rfl, output := rfl, size := Nat.le_refl _, envO := fun j e => by simp [Env.set, e], envC := fun j e => by simp [Env.set, e], M := rfl, N := rfl, hh := fun j e => by simp [hget, Ne.symm e],
      gi := by simp [GoesOn, hget_fresh]
      blk := fun b hb _ => rfl
      new := fun b _ hb => by simp [Env.set] at hb }
  have hs1 := cc.sat (t := s.t) (g := s.g) hs (fun o ho => by
    simp [hget] at ho
    subst ho
    simp only [RepObj]
    exact .inl ⟨by simp [Env.set], .inl trivial⟩)
  have hi1 : hget ((fresh cx.fl s.h, .buf 5 []) :: s.h) i = some (.tvar T cs) := by simp [hget, hne, hi]
  have e1 : (fresh cx.fl s.h, AObj.buf 5 []) :: hset s.h i (.tvar T (cs.set o (.bsl (fresh cx.fl s.h) 0))) = hset ((fresh cx.fl s.h, .buf 5 []) :: s.h) i (.tvar T (cs.set o (.bsl (fresh cx.fl s.h) 0))) := by
    simp [hset, hne]
  obtain ⟨E1, hE1⟩ : ∃ E1, E1 = E.set (fresh cx.fl s.h) none 0 := ⟨_, rfl⟩
  rw [← hE1] at hs1 cc
  obtain ⟨b, c', T', fz, g1, g2, g3, g4, g5⟩ := hs1.hp.tvar hi1
  have ch := chg_tvar (w := w) hs1.hp hi1 (cs' := cs.set o (.bsl (fresh cx.fl s.h) 0)) (by simp) g1 (.cells c' T' fz)
  rw [row_same g2] at ch
  have hs2 := ch.sat (t := s.t) (g := s.g) hs1 (fun ob hob => by
    rw [hget_hset_same hi1] at hob
    cases hob
    simp only [RepObj]
    refine ⟨b, c', T', fz, g1, g2, ?_, g4, g5⟩
    obtain ⟨v, hv, hvr⟩ := Reps.get g3 ho
    simp only [Rep] at hvr
    subst hvr
    have := g3.set (i := o) (a := .bsl (fresh cx.fl s.h) 0) (v := .slice none 0 0) (by
      simp only [Rep]
      refine ⟨⟨_, _, _, rfl⟩, 5, [], by simp [hget], by simp, fun _ => .inl ⟨⟨by simp [hE1, Env.set], trivial⟩, trivial⟩⟩)
    have e2 : c'.toList.set o (.slice none 0 0) = c'.toList := by
      obtain ⟨hlt, he⟩ := List.getElem?_eq_some_iff.1 hv
      rw [← he, List.set_getElem_self]
    rw [e2] at this
    exact ch.reps this)
  rw [← e1] at hs2
  refine wpIn_mono (h _ a w hs2) (fun _ _ _ hr => hr.trans (Evo.trans (cc.evo (.inr (fl_le_fresh _ _))) ?_))
  rw [e1]
  exact ch.evo (.inl (by simp [hi1]))
end
end Go.Aw
