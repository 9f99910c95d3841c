/-
  A range, cluster by cluster, in plain numbers.
-/
import Derived.Test.YtoofpcploeanpaaTy
import Derived.Test.YtoofpcploeanpaaAwSimp
import Derived.Test.YtoofpcploeanpaaAwConv
import Derived.Test.YtoofpcploeanpaaAwRange3
import Derived.Test.YtoofpcploeanpaaAwDraw6
namespace Go.Aw
set_option maxRecDepth 100000
set_option linter.unusedSimpArgs false
set_option linter.unusedVariables false
open Go Go.Proofs

/-- The pieces of a range: cluster, place in it, bytes. -/
def cutN : Nat → Nat → Nat → List (Nat × Nat × Nat)
  | 0, _, _ => []
  | k + 1, a, n => if n = 0 then [] else (a / 128, a % 128, min n (128 - a % 128)) :: cutN k (a + min n (128 - a % 128)) (n - min n (128 - a % 128))
def cuts (a n : Nat) : List (Nat × Nat × Nat) := cutN n a n

theorem cutN_more (k : Nat) : ∀ (j a n : Nat), n ≤ k → k ≤ j → cutN j a n = cutN k a n := by
  induction k with
  | zero =>
    intro j a n h1 h2
    have : n = 0 := by omega
    subst this
    cases j <;> simp [cutN]
  | succ k ih =>
    intro j a n h1 h2
    obtain ⟨j, rfl⟩ : ∃ i, j = i + 1 := ⟨j - 1, by omega⟩
    simp only [cutN]
    split
    · rfl
    · rename_i h0
      rw [ih j _ _ (by omega) (by omega)]

theorem cuts_zero (a : Nat) : cuts a 0 = [] := rfl
theorem cuts_pos (a n : Nat) (h : 0 < n) : cuts a n = (a / 128, a % 128, min n (128 - a % 128)) :: cuts (a + min n (128 - a % 128)) (n - min n (128 - a % 128)) := by
  unfold cuts
  obtain ⟨k, rfl⟩ : ∃ k, n = k + 1 := ⟨n - 1, by omega⟩
  rw [cutN, if_neg (by omega)]
  congr 1
  exact cutN_more _ _ _ _ (Nat.le_refl _) (by omega)

theorem cuts_len (n : Nat) : ∀ a, (cuts a n).length ≤ n := by
  induction n using Nat.strongRecOn with
  | _ n ih =>
    intro a
    rcases Nat.eq_zero_or_pos n with rfl | h
    · simp [cuts_zero]
    · rw [cuts_pos a n h]
      simp only [List.length_cons]
      have := ih (n - min n (128 - a % 128)) (by omega) (a + min n (128 - a % 128))
      omega

/-- A piece as a row of numbers. -/
def cutD (q : Nat × Nat × Nat) : List D := [.int .i64 q.1, .int .i64 q.2.1, .int .i64 q.2.2]
def cutItem (q : Nat × Nat × Nat) : List AV := [.agg [.d (.int .i64 q.1), .d (.int .i64 q.2.1), .d (.int .i64 q.2.2)]]

/-- What the law looks at, piece by piece. -/
def okCut (at_ left : Int) : List (Nat × Nat × Nat) → Bool
  | [] => left == 0
  | q :: l => !(q.1 * 128 + q.2.1 != at_ || (q.2.1 : Int) < 0 || (q.2.2 : Int) < 1 || (q.2.1 + q.2.2 : Int) > 128 || (q.2.2 : Int) > left) && okCut (at_ + q.2.2) (left - q.2.2) l

theorem okCut_cuts (n : Nat) : ∀ a : Nat, okCut a n (cuts a n) = true := by
  induction n using Nat.strongRecOn with
  | _ n ih =>
    intro a
    rcases Nat.eq_zero_or_pos n with rfl | h
    · rfl
    · rw [cuts_pos a n h]
      have hi := ih (n - min n (128 - a % 128)) (by omega) (a + min n (128 - a % 128))
      simp only [okCut, Bool.and_eq_true, Bool.not_eq_true', Bool.or_eq_false_iff, bne_eq_false_iff_eq, decide_eq_false_iff_not]
      refine ⟨⟨⟨⟨⟨?_, ?_⟩, ?_⟩, ?_⟩, ?_⟩, ?_⟩
      · omega
      · omega
      · omega
      · omega
      · omega
      · have e1 : (a : Int) + ((min n (128 - a % 128) : Nat) : Int) = ((a + min n (128 - a % 128) : Nat) : Int) := by omega
        have e2 : (n : Int) - ((min n (128 - a % 128) : Nat) : Int) = ((n - min n (128 - a % 128) : Nat) : Int) := by omega
        rw [e1, e2]
        exact hi

/-- What is still to come when a piece was handed out. -/
theorem cuts_prefix (a n : Nat) (h : 0 < n) (xs : List (List AV)) {items : List (List AV)} (e : xs ++ (cuts a n).map cutItem = items) : (xs ++ [cutItem (a / 128, a % 128, min n (128 - a % 128))]) <+: items ∧
    (xs ++ [cutItem (a / 128, a % 128, min n (128 - a % 128))]) ++ (cuts (a + min n (128 - a % 128)) (n - min n (128 - a % 128))).map cutItem = items := by
  rw [cuts_pos a n h] at e
  have e2 : (xs ++ [cutItem (a / 128, a % 128, min n (128 - a % 128))]) ++ (cuts (a + min n (128 - a % 128)) (n - min n (128 - a % 128))).map cutItem = items := by
    rw [← e]; simp
  exact ⟨⟨_, e2⟩, e2⟩

abbrev Pst (items : List (List AV)) (b : Nat) := { q : List (List AV) × Nat × Nat // q.1 ++ (cuts q.2.1 q.2.2).map cutItem = items ∧ q.2.1 + q.2.2 ≤ b }

theorem piecesIter_ok (a n : Nat) (hb : a + n ≤ 1100000000) : AIter Try.prog 62 4 [] [.vp 1 0, .vp 0 0] [(1, .var [.d (.int .i64 n)]), (0, .var [.d (.int .i64 a)])] ((cuts a n).map cutItem)
    (fun g h' => (∀ xs, g = some xs → xs = (cuts a n).map cutItem) ∧ ∃ u v, h' = [(1, .var [u]), (0, .var [v])]) := by
  refine aiter_of_body Try.func62 rfl (enters Try.func62 (by kernel_rfl) rfl) Try.ntmps62 rfl (by simp) (fun base y => ?_)
  refine aw_block ?_
  refine aw_loop (fun q : Pst ((cuts a n).map cutItem) (a + n) => ⟨[(0, true, .fn (.yield y.yl) [] []), (1, true, .vp 1 0), (2, true, .vp 0 0)], [(1, .var [.d (.int .i64 q.1.2.2)]), (0, .var [.d (.int .i64 q.1.2.1)])], some q.1.1⟩) (fun q => q.1.2.2) ⟨([], a, n), rfl, Nat.le_refl _⟩ (by simp only [AS.le, leT, leH, RoundK, AsgK, AV.le, AV.leL, AObj.le, inH, idsT, idsH, AV.ids, AV.idsL, AV.idsR, AObj.ids, lk, hget, go_sem, Nat.le_refl, List.append_toArray, List.range_zero, ↓reduceIte, List.append_eq, Int.toNat_natCast, Nat.reduceAdd, Nat.reduceMul, Nat.reduceSub, Nat.reduceLT, Nat.reduceLeDiff, Nat.reduceEqDiff, Nat.reduceBEq, Int.reduceToNat, Int.reduceLT, Int.reduceLE, Int.reduceAdd, Int.reduceSub, Int.reduceMul, Int.reduceNeg, Int.reduceEq]) (fun q => ?_)
  obtain ⟨⟨xs, a', n'⟩, he, hbq⟩ := q
  simp only at he hbq ⊢
  refine aw_seq (fun K1 hK1 => ?_)
  refine aw_seq_regionT noTab (noTab_ok _) (fun K hK => ?_); simp only [go_sem, Nat.le_refl, List.append_toArray, List.range_zero, ↓reduceIte, List.append_eq, Int.toNat_natCast, Nat.reduceAdd, Nat.reduceMul, Nat.reduceSub, Nat.reduceLT, Nat.reduceLeDiff, Nat.reduceEqDiff, Nat.reduceBEq, Int.reduceToNat, Int.reduceLT, Int.reduceLE, Int.reduceAdd, Int.reduceSub, Int.reduceMul, Int.reduceNeg, Int.reduceEq]
  refine hK _ ?_; clear hK K
  refine aw_cond rfl (fun hc => ?_) (fun hc => ?_)
  · refine aw_skip ?_; simp only [go_sem, Nat.le_refl, List.append_toArray, List.range_zero, ↓reduceIte, List.append_eq, Int.toNat_natCast, Nat.reduceAdd, Nat.reduceMul, Nat.reduceSub, Nat.reduceLT, Nat.reduceLeDiff, Nat.reduceEqDiff, Nat.reduceBEq, Int.reduceToNat, Int.reduceLT, Int.reduceLE, Int.reduceAdd, Int.reduceSub, Int.reduceMul, Int.reduceNeg, Int.reduceEq]; refine hK1 _ ?_; clear hK1 K1
    have hn0 : 0 < n' := by simp at hc; omega
    obtain ⟨m, hm⟩ : ∃ m, m = min n' (128 - a' % 128) := ⟨_, rfl⟩
    have hq : IntKind.i64.wrap ((a' : Int).tdiv 128) = ((a' / 128 : Nat) : Int) := by
      rw [Int.tdiv_eq_ediv_of_nonneg (by omega), IntKind.wrap_i64]; omega
    have hr : (a' : Int).tmod 128 = ((a' % 128 : Nat) : Int) := by
      rw [Int.tmod_eq_emod_of_nonneg (by omega)]; omega
    have hs : IntKind.i64.wrap (128 - ((a' % 128 : Nat) : Int)) = ((128 - a' % 128 : Nat) : Int) := by rw [IntKind.wrap_i64]; omega
    have hmin : imin (n' : Int) ((128 - a' % 128 : Nat) : Int) = (m : Int) := by
      unfold imin
      split <;> omega
    have hadd : IntKind.i64.wrap ((a' : Int) + (m : Int)) = ((a' + m : Nat) : Int) := by rw [IntKind.wrap_i64]; omega
    have hsub : IntKind.i64.wrap ((n' : Int) - (m : Int)) = ((n' - m : Nat) : Int) := by rw [IntKind.wrap_i64]; omega
    obtain ⟨hp1, hp2⟩ := cuts_prefix a' n' hn0 xs he
    rw [← hm] at hp1 hp2
    refine aw_block ?_
    refine aw_seq_regionT noTab (noTab_ok _) (fun K hK => ?_); simp only [go_sem, Nat.le_refl, List.append_toArray, List.range_zero, ↓reduceIte, List.append_eq, Int.toNat_natCast, Nat.reduceAdd, Nat.reduceMul, Nat.reduceSub, Nat.reduceLT, Nat.reduceLeDiff, Nat.reduceEqDiff, Nat.reduceBEq, Int.reduceToNat, Int.reduceLT, Int.reduceLE, Int.reduceAdd, Int.reduceSub, Int.reduceMul, Int.reduceNeg, Int.reduceEq, hq, hr]
    refine hK _ ?_; clear hK K
    refine aw_seq_regionT noTab (noTab_ok _) (fun K hK => ?_); simp only [go_sem, Nat.le_refl, List.append_toArray, List.range_zero, ↓reduceIte, List.append_eq, Int.toNat_natCast, Nat.reduceAdd, Nat.reduceMul, Nat.reduceSub, Nat.reduceLT, Nat.reduceLeDiff, Nat.reduceEqDiff, Nat.reduceBEq, Int.reduceToNat, Int.reduceLT, Int.reduceLE, Int.reduceAdd, Int.reduceSub, Int.reduceMul, Int.reduceNeg, Int.reduceEq, hs, hmin]
    refine ⟨by omega, by omega, hK _ ?_⟩
    clear hK K
    refine aw_seq (fun K2 hK2 => ?_)
    refine aw_seq_regionY noTab (noTab_ok _) (fun K hK => ?_); simp only [go_sem, Nat.le_refl, List.append_toArray, List.range_zero, ↓reduceIte, List.append_eq, Int.toNat_natCast, Nat.reduceAdd, Nat.reduceMul, Nat.reduceSub, Nat.reduceLT, Nat.reduceLeDiff, Nat.reduceEqDiff, Nat.reduceBEq, Int.reduceToNat, Int.reduceLT, Int.reduceLE, Int.reduceAdd, Int.reduceSub, Int.reduceMul, Int.reduceNeg, Int.reduceEq]
    refine ⟨hp1, hK _ ?_, hK _ ?_⟩
    · clear hK K
      refine aw_cond rfl (fun hc => ?_) (fun hc => ?_)
      · simp at hc
      · refine aw_skip ?_; simp only [go_sem, Nat.le_refl, List.append_toArray, List.range_zero, ↓reduceIte, List.append_eq, Int.toNat_natCast, Nat.reduceAdd, Nat.reduceMul, Nat.reduceSub, Nat.reduceLT, Nat.reduceLeDiff, Nat.reduceEqDiff, Nat.reduceBEq, Int.reduceToNat, Int.reduceLT, Int.reduceLE, Int.reduceAdd, Int.reduceSub, Int.reduceMul, Int.reduceNeg, Int.reduceEq]; refine hK2 _ ?_; clear hK2 K2
        refine aw_region_drawF noTab (noTab_ok _) (show (cxOf Try.prog 0 0 0).P.follows .mixedOrders = true by kernel_rfl) ?_; simp only [go_sem, Nat.le_refl, List.append_toArray, List.range_zero, ↓reduceIte, List.append_eq, Int.toNat_natCast, Nat.reduceAdd, Nat.reduceMul, Nat.reduceSub, Nat.reduceLT, Nat.reduceLeDiff, Nat.reduceEqDiff, Nat.reduceBEq, Int.reduceToNat, Int.reduceLT, Int.reduceLE, Int.reduceAdd, Int.reduceSub, Int.reduceMul, Int.reduceNeg, Int.reduceEq]
        simp only [hadd, hsub, go_sem, List.append_eq]
        refine ⟨by omega, by omega, by kernel_rfl, ⟨⟨_, a' + m, n' - m⟩, hp2, by simp only; omega⟩, ?_, by simp only; omega⟩
        simp only [AS.le, leT, leH, RoundK, AsgK, AV.le, AV.leL, AObj.le, inH, idsT, idsH, AV.ids, AV.idsL, AV.idsR, AObj.ids, lk, hget, go_sem, Nat.le_refl, List.append_toArray, List.range_zero, ↓reduceIte, List.append_eq, Int.toNat_natCast, Nat.reduceAdd, Nat.reduceMul, Nat.reduceSub, Nat.reduceLT, Nat.reduceLeDiff, Nat.reduceEqDiff, Nat.reduceBEq, Int.reduceToNat, Int.reduceLT, Int.reduceLE, Int.reduceAdd, Int.reduceSub, Int.reduceMul, Int.reduceNeg, Int.reduceEq]
        rfl
    · clear hK K
      refine aw_cond rfl (fun hc => ?_) (fun hc => ?_)
      · refine aw_keep (fun i => decide (i < 2)) (by simp only [inH, idsH, hsel, AV.ids, AV.idsL, AV.idsR, AObj.ids, hget, go_sem, Nat.le_refl, List.append_toArray, List.range_zero, ↓reduceIte, List.append_eq, Int.toNat_natCast, Nat.reduceAdd, Nat.reduceMul, Nat.reduceSub, Nat.reduceLT, Nat.reduceLeDiff, Nat.reduceEqDiff, Nat.reduceBEq, Int.reduceToNat, Int.reduceLT, Int.reduceLE, Int.reduceAdd, Int.reduceSub, Int.reduceMul, Int.reduceNeg, Int.reduceEq]) ?_; simp only [go_sem, Nat.le_refl, List.append_toArray, List.range_zero, ↓reduceIte, List.append_eq, Int.toNat_natCast, Nat.reduceAdd, Nat.reduceMul, Nat.reduceSub, Nat.reduceLT, Nat.reduceLeDiff, Nat.reduceEqDiff, Nat.reduceBEq, Int.reduceToNat, Int.reduceLT, Int.reduceLE, Int.reduceAdd, Int.reduceSub, Int.reduceMul, Int.reduceNeg, Int.reduceEq]
        refine aw_ret ?_
        simp only [go_sem, Nat.le_refl, List.append_toArray, List.range_zero, ↓reduceIte, List.append_eq, Int.toNat_natCast, Nat.reduceAdd, Nat.reduceMul, Nat.reduceSub, Nat.reduceLT, Nat.reduceLeDiff, Nat.reduceEqDiff, Nat.reduceBEq, Int.reduceToNat, Int.reduceLT, Int.reduceLE, Int.reduceAdd, Int.reduceSub, Int.reduceMul, Int.reduceNeg, Int.reduceEq]
        exact ⟨_, _, rfl⟩
      · simp at hc
  · refine aw_exit ?_
    simp only [go_sem, Nat.le_refl, List.append_toArray, List.range_zero, ↓reduceIte, List.append_eq, Int.toNat_natCast, Nat.reduceAdd, Nat.reduceMul, Nat.reduceSub, Nat.reduceLT, Nat.reduceLeDiff, Nat.reduceEqDiff, Nat.reduceBEq, Int.reduceToNat, Int.reduceLT, Int.reduceLE, Int.reduceAdd, Int.reduceSub, Int.reduceMul, Int.reduceNeg, Int.reduceEq]
    have hn0 : n' = 0 := by simp at hc; omega
    subst hn0
    rw [cuts_zero] at he
    refine ⟨fun zs e => ?_, _, _, rfl⟩
    rw [← e, ← he]; simp
end Go.Aw
