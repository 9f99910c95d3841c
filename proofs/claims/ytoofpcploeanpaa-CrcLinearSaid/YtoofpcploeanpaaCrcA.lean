/-
  The table of sums: what fill leaves.
-/
import Derived.Test.YtoofpcploeanpaaTy
import Derived.Test.YtoofpcploeanpaaAwSimp
import Derived.Test.YtoofpcploeanpaaAwTab
namespace Go.Aw
set_option maxRecDepth 100000
set_option linter.unusedSimpArgs false
set_option linter.unusedVariables false
open Go Go.Proofs

/-- One bit of a sum, as the table is made. -/
def bitT (c : Int) : Int := ibits .xor .u32 (ishr .u32 c 1) (IntKind.u32.wrap (ibits .and .u32 c 1 * 2197175160))
def bitsT : Nat → Int → Int
  | 0, c => c
  | n + 1, c => bitT (bitsT n c)
def tabF (j : Nat) : Int := bitsT 8 (IntKind.u32.wrap j)
/-- The table when its first i rows are made. -/
def tblF (i : Nat) : List D := (List.range 256).map fun j => D.int .u32 (if j < i then tabF j else 0)

theorem tblF_len (i : Nat) : (tblF i).length = 256 := by simp [tblF]
theorem tblF_set (i : Nat) (hi : i < 256) : (tblF i).set i (.int .u32 (tabF i)) = tblF (i + 1) := by
  apply List.ext_getElem?
  intro j
  rw [List.getElem?_set]
  unfold tblF
  simp only [List.length_map, List.length_range, List.getElem?_map]
  by_cases hj : i = j
  · subst hj
    simp [hi]
  · rw [if_neg hj]
    by_cases hj2 : j < 256
    · rw [List.getElem?_range hj2]
      simp only [Option.map_some, Option.some.injEq, D.int.injEq, true_and]
      by_cases h1 : j < i
      · rw [if_pos h1, if_pos (by omega)]
      · rw [if_neg h1, if_neg (by omega)]
    · simp [hj2]

theorem leL_map_d : ∀ (l : List D), AV.leL (l.map AV.d) (l.map AV.d)
  | [] => by simp [AV.leL]
  | x :: l => by simp only [List.map_cons, AV.leL, AV.le, true_and]; exact leL_map_d l

theorem sumfill_ok (x y z : D) : ACall Try.prog 67 1 [.vp 0 0] [(0, .var (.d x :: .d y :: .d z :: (tblF 0).map AV.d))] (fun r h' => r = .tup [] ∧ h' = [(0, .var (.d x :: .d y :: .d z :: (tblF 256).map AV.d))]) := by
  refine acall_of_body Try.func67 rfl (enters Try.func67 (by kernel_rfl) rfl) Try.ntmps67 (by simp) (fun base => ?_)
  refine aw_seq_regionT noTab (noTab_ok _) (fun K hK => ?_); simp only [go_sem, List.append_toArray, List.range_zero, ↓reduceIte, List.append_eq, Int.toNat_natCast, Nat.reduceAdd, Nat.reduceMul, Nat.reduceSub, Nat.reduceLT, Nat.reduceLeDiff, Nat.reduceEqDiff, Nat.reduceBEq, Int.reduceToNat, Int.reduceLT, Int.reduceLE, Int.reduceAdd, Int.reduceSub, Int.reduceMul, Int.reduceNeg, Int.reduceEq]
  refine hK _ ?_; clear hK K
  refine aw_block ?_
  refine aw_loop (fun i : {i : Nat // i ≤ 256} => ⟨[(0, true, .vp 0 0), (4, true, .d (.int .i64 i.1))], [(0, .var (.d x :: .d y :: .d z :: (tblF i.1).map AV.d))], some []⟩) (fun i => 256 - i.1) ⟨0, by omega⟩ (by simp only [AS.le, leT, leH, AV.le, AV.leL, AObj.le, inH, idsT, idsH, AV.ids, AV.idsL, AV.idsR, AObj.ids, lk, hget, go_sem, List.append_toArray, List.range_zero, ↓reduceIte, List.append_eq, Int.toNat_natCast, Nat.reduceAdd, Nat.reduceMul, Nat.reduceSub, Nat.reduceLT, Nat.reduceLeDiff, Nat.reduceEqDiff, Nat.reduceBEq, Int.reduceToNat, Int.reduceLT, Int.reduceLE, Int.reduceAdd, Int.reduceSub, Int.reduceMul, Int.reduceNeg, Int.reduceEq]; simp [leL_map_d, idsL_map_d, inH]) (fun i => ?_)
  obtain ⟨i, hi⟩ := i
  refine aw_seq_regionT noTab (noTab_ok _) (fun K hK => ?_); simp only [go_sem, List.append_toArray, List.range_zero, ↓reduceIte, List.append_eq, Int.toNat_natCast, Nat.reduceAdd, Nat.reduceMul, Nat.reduceSub, Nat.reduceLT, Nat.reduceLeDiff, Nat.reduceEqDiff, Nat.reduceBEq, Int.reduceToNat, Int.reduceLT, Int.reduceLE, Int.reduceAdd, Int.reduceSub, Int.reduceMul, Int.reduceNeg, Int.reduceEq]
  refine hK _ ?_; clear hK K
  refine aw_seq (fun K hK => ?_)
  refine aw_cond rfl (fun hc => ?_) (fun hc => ?_)
  · refine aw_skip ?_; simp only [go_sem, List.append_toArray, List.range_zero, ↓reduceIte, List.append_eq, Int.toNat_natCast, Nat.reduceAdd, Nat.reduceMul, Nat.reduceSub, Nat.reduceLT, Nat.reduceLeDiff, Nat.reduceEqDiff, Nat.reduceBEq, Int.reduceToNat, Int.reduceLT, Int.reduceLE, Int.reduceAdd, Int.reduceSub, Int.reduceMul, Int.reduceNeg, Int.reduceEq]; refine hK _ ?_; clear hK K
    have hil : i < 256 := by simp at hc; omega
    refine aw_seq (fun K hK => ?_)
    refine aw_block ?_
    refine aw_seq_regionT noTab (noTab_ok _) (fun K hK => ?_); simp only [go_sem, List.append_toArray, List.range_zero, ↓reduceIte, List.append_eq, Int.toNat_natCast, Nat.reduceAdd, Nat.reduceMul, Nat.reduceSub, Nat.reduceLT, Nat.reduceLeDiff, Nat.reduceEqDiff, Nat.reduceBEq, Int.reduceToNat, Int.reduceLT, Int.reduceLE, Int.reduceAdd, Int.reduceSub, Int.reduceMul, Int.reduceNeg, Int.reduceEq]
    refine hK _ ?_; clear hK K
    refine aw_seq_regionT noTab (noTab_ok _) (fun K hK => ?_); simp only [go_sem, List.append_toArray, List.range_zero, ↓reduceIte, List.append_eq, Int.toNat_natCast, Nat.reduceAdd, Nat.reduceMul, Nat.reduceSub, Nat.reduceLT, Nat.reduceLeDiff, Nat.reduceEqDiff, Nat.reduceBEq, Int.reduceToNat, Int.reduceLT, Int.reduceLE, Int.reduceAdd, Int.reduceSub, Int.reduceMul, Int.reduceNeg, Int.reduceEq]
    refine hK _ ?_; clear hK K
    refine aw_seq (fun K2 hK2 => ?_)
    refine aw_seq_regionT noTab (noTab_ok _) (fun K hK => ?_); simp only [go_sem, List.append_toArray, List.range_zero, ↓reduceIte, List.append_eq, Int.toNat_natCast, Nat.reduceAdd, Nat.reduceMul, Nat.reduceSub, Nat.reduceLT, Nat.reduceLeDiff, Nat.reduceEqDiff, Nat.reduceBEq, Int.reduceToNat, Int.reduceLT, Int.reduceLE, Int.reduceAdd, Int.reduceSub, Int.reduceMul, Int.reduceNeg, Int.reduceEq]
    refine hK _ ?_; clear hK K
    refine aw_block ?_
    refine aw_loop (fun k : {k : Nat // k ≤ 8} => ⟨[(0, true, .vp 0 0), (4, true, .d (.int .i64 i)), (2, true, .d (.int .i64 i)), (3, true, .d (.int .u32 (bitsT k.1 (IntKind.u32.wrap i)))), (9, true, .d (.int .i64 k.1))], [(0, .var (.d x :: .d y :: .d z :: (tblF i).map AV.d))], some []⟩) (fun k => 8 - k.1) ⟨0, by omega⟩ (by simp only [AS.le, leT, leH, AV.le, AV.leL, AObj.le, inH, idsT, idsH, AV.ids, AV.idsL, AV.idsR, AObj.ids, lk, hget, go_sem, List.append_toArray, List.range_zero, ↓reduceIte, List.append_eq, Int.toNat_natCast, Nat.reduceAdd, Nat.reduceMul, Nat.reduceSub, Nat.reduceLT, Nat.reduceLeDiff, Nat.reduceEqDiff, Nat.reduceBEq, Int.reduceToNat, Int.reduceLT, Int.reduceLE, Int.reduceAdd, Int.reduceSub, Int.reduceMul, Int.reduceNeg, Int.reduceEq]; simp [leL_map_d, idsL_map_d, inH, bitsT]) (fun k => ?_)
    obtain ⟨k, hk⟩ := k
    refine aw_seq_regionT noTab (noTab_ok _) (fun K hK => ?_); simp only [go_sem, List.append_toArray, List.range_zero, ↓reduceIte, List.append_eq, Int.toNat_natCast, Nat.reduceAdd, Nat.reduceMul, Nat.reduceSub, Nat.reduceLT, Nat.reduceLeDiff, Nat.reduceEqDiff, Nat.reduceBEq, Int.reduceToNat, Int.reduceLT, Int.reduceLE, Int.reduceAdd, Int.reduceSub, Int.reduceMul, Int.reduceNeg, Int.reduceEq]
    refine hK _ ?_; clear hK K
    refine aw_seq (fun K3 hK3 => ?_)
    refine aw_cond rfl (fun hc => ?_) (fun hc => ?_)
    · refine aw_skip ?_; simp only [go_sem, List.append_toArray, List.range_zero, ↓reduceIte, List.append_eq, Int.toNat_natCast, Nat.reduceAdd, Nat.reduceMul, Nat.reduceSub, Nat.reduceLT, Nat.reduceLeDiff, Nat.reduceEqDiff, Nat.reduceBEq, Int.reduceToNat, Int.reduceLT, Int.reduceLE, Int.reduceAdd, Int.reduceSub, Int.reduceMul, Int.reduceNeg, Int.reduceEq]; refine hK3 _ ?_; clear hK3 K3
      have hkl : k < 8 := by simp at hc; omega
      refine aw_seq (fun K hK => ?_)
      refine aw_block ?_
      refine aw_regionT noTab (noTab_ok _) ?_; simp only [go_sem, List.append_toArray, List.range_zero, ↓reduceIte, List.append_eq, Int.toNat_natCast, Nat.reduceAdd, Nat.reduceMul, Nat.reduceSub, Nat.reduceLT, Nat.reduceLeDiff, Nat.reduceEqDiff, Nat.reduceBEq, Int.reduceToNat, Int.reduceLT, Int.reduceLE, Int.reduceAdd, Int.reduceSub, Int.reduceMul, Int.reduceNeg, Int.reduceEq]
      refine hK _ ?_; clear hK K
      refine aw_regionT noTab (noTab_ok _) ?_; simp only [go_sem, List.append_toArray, List.range_zero, ↓reduceIte, List.append_eq, Int.toNat_natCast, Nat.reduceAdd, Nat.reduceMul, Nat.reduceSub, Nat.reduceLT, Nat.reduceLeDiff, Nat.reduceEqDiff, Nat.reduceBEq, Int.reduceToNat, Int.reduceLT, Int.reduceLE, Int.reduceAdd, Int.reduceSub, Int.reduceMul, Int.reduceNeg, Int.reduceEq]
      have hw : IntKind.i64.wrap ((k : Int) + 1) = ((k + 1 : Nat) : Int) := by rw [IntKind.wrap_i64]; omega
      refine ⟨⟨k + 1, by omega⟩, ?_, by simp; omega⟩
      rw [hw]
      simp only [AS.le, leT, leH, AV.le, AV.leL, AObj.le, inH, idsT, idsH, AV.ids, AV.idsL, AV.idsR, AObj.ids, lk, hget, go_sem, List.append_toArray, List.range_zero, ↓reduceIte, List.append_eq, Int.toNat_natCast, Nat.reduceAdd, Nat.reduceMul, Nat.reduceSub, Nat.reduceLT, Nat.reduceLeDiff, Nat.reduceEqDiff, Nat.reduceBEq, Int.reduceToNat, Int.reduceLT, Int.reduceLE, Int.reduceAdd, Int.reduceSub, Int.reduceMul, Int.reduceNeg, Int.reduceEq]
      simp [leL_map_d, idsL_map_d, inH, bitsT, bitT]
    · refine aw_exit ?_; simp only [go_sem, List.append_toArray, List.range_zero, ↓reduceIte, List.append_eq, Int.toNat_natCast, Nat.reduceAdd, Nat.reduceMul, Nat.reduceSub, Nat.reduceLT, Nat.reduceLeDiff, Nat.reduceEqDiff, Nat.reduceBEq, Int.reduceToNat, Int.reduceLT, Int.reduceLE, Int.reduceAdd, Int.reduceSub, Int.reduceMul, Int.reduceNeg, Int.reduceEq]; refine hK2 _ ?_
      have hk8 : k = 8 := by simp at hc; omega
      subst hk8
      refine aw_regionT noTab (noTab_ok _) ?_; simp only [go_sem, List.append_toArray, List.range_zero, ↓reduceIte, List.append_eq, Int.toNat_natCast, Nat.reduceAdd, Nat.reduceMul, Nat.reduceSub, Nat.reduceLT, Nat.reduceLeDiff, Nat.reduceEqDiff, Nat.reduceBEq, Int.reduceToNat, Int.reduceLT, Int.reduceLE, Int.reduceAdd, Int.reduceSub, Int.reduceMul, Int.reduceNeg, Int.reduceEq]
      refine ⟨⟨by omega, by omega⟩, by simp [tblF_len]; omega, ?_⟩
      have hset : (AV.d x :: AV.d y :: AV.d z :: (tblF i).map AV.d).set (3 + i * 1) (.d (.int .u32 (bitsT 8 (IntKind.u32.wrap i)))) = AV.d x :: AV.d y :: AV.d z :: (tblF (i + 1)).map AV.d := by
        rw [show 3 + i * 1 = i + 1 + 1 + 1 by omega, List.set_cons_succ, List.set_cons_succ, List.set_cons_succ, ← List.map_set]
        have := tblF_set i hil
        unfold tabF at this
        rw [this]
      rw [hset]
      refine hK _ ?_
      refine aw_regionT noTab (noTab_ok _) ?_; simp only [go_sem, List.append_toArray, List.range_zero, ↓reduceIte, List.append_eq, Int.toNat_natCast, Nat.reduceAdd, Nat.reduceMul, Nat.reduceSub, Nat.reduceLT, Nat.reduceLeDiff, Nat.reduceEqDiff, Nat.reduceBEq, Int.reduceToNat, Int.reduceLT, Int.reduceLE, Int.reduceAdd, Int.reduceSub, Int.reduceMul, Int.reduceNeg, Int.reduceEq]
      have hw : IntKind.i64.wrap ((i : Int) + 1) = ((i + 1 : Nat) : Int) := by rw [IntKind.wrap_i64]; omega
      refine ⟨⟨i + 1, by omega⟩, ?_, by simp; omega⟩
      rw [hw]
      simp only [AS.le, leT, leH, AV.le, AV.leL, AObj.le, inH, idsT, idsH, AV.ids, AV.idsL, AV.idsR, AObj.ids, lk, hget, go_sem, List.append_toArray, List.range_zero, ↓reduceIte, List.append_eq, Int.toNat_natCast, Nat.reduceAdd, Nat.reduceMul, Nat.reduceSub, Nat.reduceLT, Nat.reduceLeDiff, Nat.reduceEqDiff, Nat.reduceBEq, Int.reduceToNat, Int.reduceLT, Int.reduceLE, Int.reduceAdd, Int.reduceSub, Int.reduceMul, Int.reduceNeg, Int.reduceEq]
      simp [leL_map_d, idsL_map_d, inH]
  · refine aw_exit ?_
    simp only [go_sem, List.append_toArray, List.range_zero, ↓reduceIte, List.append_eq, Int.toNat_natCast, Nat.reduceAdd, Nat.reduceMul, Nat.reduceSub, Nat.reduceLT, Nat.reduceLeDiff, Nat.reduceEqDiff, Nat.reduceBEq, Int.reduceToNat, Int.reduceLT, Int.reduceLE, Int.reduceAdd, Int.reduceSub, Int.reduceMul, Int.reduceNeg, Int.reduceEq, Try.results67]
    have : i = 256 := by simp at hc; omega
    subst this
    rfl
end Go.Aw
