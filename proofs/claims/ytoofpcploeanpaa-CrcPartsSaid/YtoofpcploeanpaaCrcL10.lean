/-
  The law CrcJoins.
-/
import Derived.Test.YtoofpcploeanpaaCrcP
namespace Go.Aw
set_option maxRecDepth 100000
set_option linter.unusedSimpArgs false
set_option linter.unusedVariables false
open Go Go.Proofs

theorem short2 (a b : List UInt8) : shortF (decS [[D.str a], [D.str b]]) = true → a.length ≤ 20000 ∧ b.length ≤ 20000 := by
  intro h
  simpa [shortF, decS] using h

theorem crcJoins_law (a b : List UInt8) (c : Int) : ACall Try.prog 10 0 [.d (.str a), .d (.str b), .d (.int .u32 c)] [] (fun r _ => r = .d (.bool true)) := by
  refine acall_of_body Try.func10 rfl (enters Try.func10 (by kernel_rfl) rfl) Try.ntmps10 (by simp) (fun base => ?_)
  refine aw_seq_regionT noTab (noTab_ok _) (fun K hK => ?_); simp only [go_sem, List.append_toArray, List.range_zero, ↓reduceIte, List.append_eq, Int.toNat_natCast, Nat.reduceAdd, Nat.reduceMul, Nat.reduceSub, Nat.reduceLT, Nat.reduceLeDiff, Nat.reduceEqDiff, Nat.reduceBEq, Int.reduceToNat, Int.reduceLT, Int.reduceLE, Int.reduceAdd, Int.reduceSub, Int.reduceMul, Int.reduceNeg, Int.reduceEq]
  refine hK _ ?_; clear hK K
  refine aw_seq (fun K1 hK1 => ?_)
  refine aw_seq_regionT tabQ tabQ_ok (fun K hK => ?_); simp only [go_sem, List.append_toArray, List.range_zero, ↓reduceIte, List.append_eq, Int.toNat_natCast, Nat.reduceAdd, Nat.reduceMul, Nat.reduceSub, Nat.reduceLT, Nat.reduceLeDiff, Nat.reduceEqDiff, Nat.reduceBEq, Int.reduceToNat, Int.reduceLT, Int.reduceLE, Int.reduceAdd, Int.reduceSub, Int.reduceMul, Int.reduceNeg, Int.reduceEq]
  refine ⟨⟨rfl, by simp [decS]⟩, hK _ ?_⟩
  clear hK K
  refine aw_cond rfl (fun hc => ?_) (fun hc => ?_)
  · refine aw_seq_regionT tabQ tabQ_ok (fun K hK => ?_); simp only [go_sem, List.append_toArray, List.range_zero, ↓reduceIte, List.append_eq, Int.toNat_natCast, Nat.reduceAdd, Nat.reduceMul, Nat.reduceSub, Nat.reduceLT, Nat.reduceLeDiff, Nat.reduceEqDiff, Nat.reduceBEq, Int.reduceToNat, Int.reduceLT, Int.reduceLE, Int.reduceAdd, Int.reduceSub, Int.reduceMul, Int.reduceNeg, Int.reduceEq]
    refine hK _ ?_; clear hK K
    refine aw_ret ?_; simp only [go_sem, List.append_toArray, List.range_zero, ↓reduceIte, List.append_eq, Int.toNat_natCast, Nat.reduceAdd, Nat.reduceMul, Nat.reduceSub, Nat.reduceLT, Nat.reduceLeDiff, Nat.reduceEqDiff, Nat.reduceBEq, Int.reduceToNat, Int.reduceLT, Int.reduceLE, Int.reduceAdd, Int.reduceSub, Int.reduceMul, Int.reduceNeg, Int.reduceEq, Try.results10]
  · refine aw_skip ?_; simp only [go_sem, List.append_toArray, List.range_zero, ↓reduceIte, List.append_eq, Int.toNat_natCast, Nat.reduceAdd, Nat.reduceMul, Nat.reduceSub, Nat.reduceLT, Nat.reduceLeDiff, Nat.reduceEqDiff, Nat.reduceBEq, Int.reduceToNat, Int.reduceLT, Int.reduceLE, Int.reduceAdd, Int.reduceSub, Int.reduceMul, Int.reduceNeg, Int.reduceEq]; refine hK1 _ ?_; clear hK1 K1
    have hs : shortF (decS [[D.str a], [D.str b]]) = true := by simpa using hc
    obtain ⟨ha, hb⟩ := short2 a b hs
    refine aw_seq_regionT tabQ tabQ_ok (fun K hK => ?_); simp only [go_sem, List.append_toArray, List.range_zero, ↓reduceIte, List.append_eq, Int.toNat_natCast, Nat.reduceAdd, Nat.reduceMul, Nat.reduceSub, Nat.reduceLT, Nat.reduceLeDiff, Nat.reduceEqDiff, Nat.reduceBEq, Int.reduceToNat, Int.reduceLT, Int.reduceLE, Int.reduceAdd, Int.reduceSub, Int.reduceMul, Int.reduceNeg, Int.reduceEq]
    have hab : (a ++ b).length ≤ 9223372036854775807 := by rw [List.length_append]; omega
    simp only [sumOf_append, beq_self_eq_true, Bool.and_self, true_and, true_implies]
    refine ⟨by omega, hab, by omega, by omega, by omega, hab, by omega, by omega, hK _ ?_⟩
    clear hK K
    refine aw_ret ?_; simp only [go_sem, List.append_toArray, List.range_zero, ↓reduceIte, List.append_eq, Int.toNat_natCast, Nat.reduceAdd, Nat.reduceMul, Nat.reduceSub, Nat.reduceLT, Nat.reduceLeDiff, Nat.reduceEqDiff, Nat.reduceBEq, Int.reduceToNat, Int.reduceLT, Int.reduceLE, Int.reduceAdd, Int.reduceSub, Int.reduceMul, Int.reduceNeg, Int.reduceEq, Try.results10]
end Go.Aw
