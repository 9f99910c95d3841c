/-
  A cache's blocks in plain numbers; Fit, that keeps a map.
-/
import Derived.Test.YtoofpcploeanpaaTy
import Derived.Test.YtoofpcploeanpaaAwSimp
import Derived.Test.YtoofpcploeanpaaAwConv
import Derived.Test.YtoofpcploeanpaaAwRange3
import Derived.Test.YtoofpcploeanpaaAwDraw6
namespace Go.Aw
set_option maxRecDepth 100000
set_option linter.unusedSimpArgs false
set_option linter.unusedVariables false
open Go Go.Proofs

abbrev Blk := Int × List UInt8 × Bool
def blkD (q : Blk) : List D := [.int .i64 q.1, .str q.2.1, .bool q.2.2]

/-- The map of the numbers seen. -/
def seenM (l : List Int) : List (D × D) := l.map fun n => (.int .i64 n, .bool true)

theorem seen_alike (l : List Int) : ((seenM l).all fun p => alike (.int .i64) p.1) = true := by
  simp [seenM, alike]
theorem mat_int (n m : Int) (v : D) (l : List (D × D)) : mat (.int .i64 n) ((.int .i64 m, v) :: l) = if n = m then some v else mat (.int .i64 n) l := by
  by_cases h : n = m <;> simp [mat, sameS, h]
theorem mput_int (n m : Int) (w v : D) (l : List (D × D)) : mput (.int .i64 n) w ((.int .i64 m, v) :: l) = if n = m then (.int .i64 n, w) :: l else (.int .i64 m, v) :: mput (.int .i64 n) w l := by
  by_cases h : n = m <;> simp [mput, sameS, h]

theorem seen_mat (n : Int) : ∀ l : List Int, ((mat (.int .i64 n) (seenM l)).getD (.bool false)) = .bool (l.contains n)
  | [] => rfl
  | m :: l => by
    have ih := seen_mat n l
    have e : seenM (m :: l) = (.int .i64 m, .bool true) :: seenM l := rfl
    rw [e, mat_int, List.contains_cons]
    by_cases h : n = m
    · subst h; simp
    · rw [if_neg h, ih]
      simp [h]
theorem seen_put (n : Int) : ∀ l : List Int, l.contains n = false → mput (.int .i64 n) (.bool true) (seenM l) = seenM (l ++ [n])
  | [], _ => rfl
  | m :: l, h => by
    simp only [List.contains_cons, Bool.or_eq_false_iff] at h
    have ih := seen_put n l h.2
    have e : seenM (m :: l) = (.int .i64 m, .bool true) :: seenM l := rfl
    rw [e, mput_int, if_neg (by simpa using h.1), ih]
    rfl

def fitM : List Blk → List Int → Bool
  | [], _ => true
  | q :: r, seen => !(decide (q.1 < 0) || decide (1073741824 < q.1) || ((q.2.1.length : Int) != 128) || seen.contains q.1) && fitM r (seen ++ [q.1])
def fit (l : List Blk) : Bool := fitM l [] && decide (l.length ≤ 8)

abbrev Fst (l : List Blk) := { i : Nat // i ≤ l.length ∧ fitM l [] = fitM (l.drop i) ((l.take i).map (·.1)) }

theorem fit_ok (l : List Blk) (hl : l.length ≤ 300) : ACall Try.prog 25 0 [.d (.sl 3 (l.map blkD))] [] (fun r _ => r = .d (.bool (fit l))) := by
  refine acall_of_body Try.func25 rfl (enters Try.func25 (by kernel_rfl) rfl) Try.ntmps25 (by simp) (fun base => ?_)
  refine aw_seq_regionT noTab (noTab_ok _) (fun K hK => ?_); simp only [go_sem, Nat.le_refl, List.append_toArray, List.range_zero, List.append_eq, Int.toNat_natCast, ↓reduceIte, Nat.reduceAdd, Nat.reduceMul, Nat.reduceSub, Nat.reduceLT, Nat.reduceLeDiff, Nat.reduceEqDiff, Nat.reduceBEq, Int.reduceToNat, Int.reduceLT, Int.reduceLE, Int.reduceAdd, Int.reduceSub, Int.reduceMul, Int.reduceNeg, Int.reduceEq]
  refine hK _ ?_; clear hK K
  refine aw_seq_regionT noTab (noTab_ok _) (fun K hK => ?_); simp only [go_sem, Nat.le_refl, List.append_toArray, List.range_zero, List.append_eq, Int.toNat_natCast, ↓reduceIte, Nat.reduceAdd, Nat.reduceMul, Nat.reduceSub, Nat.reduceLT, Nat.reduceLeDiff, Nat.reduceEqDiff, Nat.reduceBEq, Int.reduceToNat, Int.reduceLT, Int.reduceLE, Int.reduceAdd, Int.reduceSub, Int.reduceMul, Int.reduceNeg, Int.reduceEq]
  refine hK _ ?_; clear hK K
  refine aw_seq (fun K1 hK1 => ?_)
  refine aw_seq_regionT noTab (noTab_ok _) (fun K hK => ?_); simp only [go_sem, Nat.le_refl, List.append_toArray, List.range_zero, List.append_eq, Int.toNat_natCast, ↓reduceIte, Nat.reduceAdd, Nat.reduceMul, Nat.reduceSub, Nat.reduceLT, Nat.reduceLeDiff, Nat.reduceEqDiff, Nat.reduceBEq, Int.reduceToNat, Int.reduceLT, Int.reduceLE, Int.reduceAdd, Int.reduceSub, Int.reduceMul, Int.reduceNeg, Int.reduceEq]
  refine hK _ ?_; clear hK K
  refine aw_block ?_
  refine aw_loop (fun q : Fst l => ⟨[(7, true, .d (.sl 3 (l.map blkD))), (0, true, .d (.sl 3 (l.map blkD))), (8, true, .d (.int .i64 l.length)), (9, true, .d (.int .i64 q.1)), (3, true, .map 0)], [(0, .omap (seenM ((l.take q.1).map (·.1))))], some []⟩) (fun q => l.length - q.1) ⟨0, Nat.zero_le _, by simp⟩ (by simp only [AS.le, leT, leH, RoundK, AsgK, AV.le, AV.leL, AObj.le, inH, idsT, idsH, AV.ids, AV.idsL, AV.idsR, AObj.ids, lk, hget, go_sem, Nat.le_refl, List.append_toArray, List.range_zero, List.append_eq, Int.toNat_natCast, ↓reduceIte, Nat.reduceAdd, Nat.reduceMul, Nat.reduceSub, Nat.reduceLT, Nat.reduceLeDiff, Nat.reduceEqDiff, Nat.reduceBEq, Int.reduceToNat, Int.reduceLT, Int.reduceLE, Int.reduceAdd, Int.reduceSub, Int.reduceMul, Int.reduceNeg, Int.reduceEq]; exact ⟨⟨by rw [List.length_map], rfl⟩, rfl⟩) (fun q => ?_)
  obtain ⟨i, hi, hf⟩ := q
  simp only at hi hf ⊢
  refine aw_seq_regionT noTab (noTab_ok _) (fun K hK => ?_); simp only [go_sem, Nat.le_refl, List.append_toArray, List.range_zero, List.append_eq, Int.toNat_natCast, ↓reduceIte, Nat.reduceAdd, Nat.reduceMul, Nat.reduceSub, Nat.reduceLT, Nat.reduceLeDiff, Nat.reduceEqDiff, Nat.reduceBEq, Int.reduceToNat, Int.reduceLT, Int.reduceLE, Int.reduceAdd, Int.reduceSub, Int.reduceMul, Int.reduceNeg, Int.reduceEq]
  refine hK _ ?_; clear hK K
  refine aw_seq (fun K2 hK2 => ?_)
  refine aw_cond rfl (fun hc => ?_) (fun hc => ?_)
  · refine aw_skip ?_; simp only [go_sem, Nat.le_refl, List.append_toArray, List.range_zero, List.append_eq, Int.toNat_natCast, ↓reduceIte, Nat.reduceAdd, Nat.reduceMul, Nat.reduceSub, Nat.reduceLT, Nat.reduceLeDiff, Nat.reduceEqDiff, Nat.reduceBEq, Int.reduceToNat, Int.reduceLT, Int.reduceLE, Int.reduceAdd, Int.reduceSub, Int.reduceMul, Int.reduceNeg, Int.reduceEq]; refine hK2 _ ?_; clear hK2 K2
    have hin : i < l.length := by simp at hc; omega
    obtain ⟨q, hq⟩ : ∃ q, l[i]? = some q := ⟨l[i], List.getElem?_eq_getElem hin⟩
    obtain ⟨n, d, b⟩ := q
    have hdr : l.drop i = (n, d, b) :: l.drop (i + 1) := by
      rw [List.drop_eq_getElem_cons hin]
      rw [List.getElem?_eq_getElem hin] at hq
      rw [Option.some.inj hq]
    have hrow : (l.map blkD).getD i [] = [D.int .i64 n, D.str d, D.bool b] := by
      rw [List.getD_eq_getElem?_getD, List.getElem?_map, hq]; rfl
    have hw : IntKind.i64.wrap ((i : Int) + 1) = ((i + 1 : Nat) : Int) := by rw [IntKind.wrap_i64]; omega
    have htk : (l.take (i + 1)).map (·.1) = (l.take i).map (·.1) ++ [n] := by
      rw [List.take_add_one, hq]; simp
    refine aw_seq (fun K3 hK3 => ?_)
    refine aw_block ?_
    refine aw_seq_regionT noTab (noTab_ok _) (fun K hK => ?_); simp only [go_sem, Nat.le_refl, List.append_toArray, List.range_zero, List.append_eq, Int.toNat_natCast, ↓reduceIte, Nat.reduceAdd, Nat.reduceMul, Nat.reduceSub, Nat.reduceLT, Nat.reduceLeDiff, Nat.reduceEqDiff, Nat.reduceBEq, Int.reduceToNat, Int.reduceLT, Int.reduceLE, Int.reduceAdd, Int.reduceSub, Int.reduceMul, Int.reduceNeg, Int.reduceEq]
    simp only [go_sem, Nat.le_refl, List.append_toArray, List.range_zero, List.append_eq, Int.toNat_natCast, ↓reduceIte, Nat.reduceAdd, Nat.reduceMul, Nat.reduceSub, Nat.reduceLT, Nat.reduceLeDiff, Nat.reduceEqDiff, Nat.reduceBEq, Int.reduceToNat, Int.reduceLT, Int.reduceLE, Int.reduceAdd, Int.reduceSub, Int.reduceMul, Int.reduceNeg, Int.reduceEq, hrow, List.map_cons, List.map_nil]
    refine ⟨⟨by omega, by rw [List.length_map]; omega⟩, ?_⟩
    refine hK _ ?_; clear hK K
    refine aw_seq (fun K4 hK4 => ?_)
    refine aw_seq_regionT noTab (noTab_ok _) (fun K hK => ?_); simp only [go_sem, Nat.le_refl, List.append_toArray, List.range_zero, List.append_eq, Int.toNat_natCast, ↓reduceIte, Nat.reduceAdd, Nat.reduceMul, Nat.reduceSub, Nat.reduceLT, Nat.reduceLeDiff, Nat.reduceEqDiff, Nat.reduceBEq, Int.reduceToNat, Int.reduceLT, Int.reduceLE, Int.reduceAdd, Int.reduceSub, Int.reduceMul, Int.reduceNeg, Int.reduceEq]
    simp only [seen_mat, seen_alike]
    simp only [go_sem, Nat.le_refl, List.append_toArray, List.range_zero, List.append_eq, Int.toNat_natCast, ↓reduceIte, Nat.reduceAdd, Nat.reduceMul, Nat.reduceSub, Nat.reduceLT, Nat.reduceLeDiff, Nat.reduceEqDiff, Nat.reduceBEq, Int.reduceToNat, Int.reduceLT, Int.reduceLE, Int.reduceAdd, Int.reduceSub, Int.reduceMul, Int.reduceNeg, Int.reduceEq]
    refine hK _ ?_; clear hK K
    rw [hdr] at hf
    simp only [fitM] at hf
    refine aw_cond rfl (fun hc => ?_) (fun hc => ?_)
    · rw [hc] at hf
      refine aw_seq_regionT noTab (noTab_ok _) (fun K hK => ?_); simp only [go_sem, Nat.le_refl, List.append_toArray, List.range_zero, List.append_eq, Int.toNat_natCast, ↓reduceIte, Nat.reduceAdd, Nat.reduceMul, Nat.reduceSub, Nat.reduceLT, Nat.reduceLeDiff, Nat.reduceEqDiff, Nat.reduceBEq, Int.reduceToNat, Int.reduceLT, Int.reduceLE, Int.reduceAdd, Int.reduceSub, Int.reduceMul, Int.reduceNeg, Int.reduceEq]
      refine hK _ ?_; clear hK K
      refine aw_ret ?_; simp only [go_sem, Nat.le_refl, List.append_toArray, List.range_zero, List.append_eq, Int.toNat_natCast, ↓reduceIte, Nat.reduceAdd, Nat.reduceMul, Nat.reduceSub, Nat.reduceLT, Nat.reduceLeDiff, Nat.reduceEqDiff, Nat.reduceBEq, Int.reduceToNat, Int.reduceLT, Int.reduceLE, Int.reduceAdd, Int.reduceSub, Int.reduceMul, Int.reduceNeg, Int.reduceEq, Try.results25]
      simp only [fit, hf]
      rfl
    · refine aw_skip ?_; simp only [go_sem, Nat.le_refl, List.append_toArray, List.range_zero, List.append_eq, Int.toNat_natCast, ↓reduceIte, Nat.reduceAdd, Nat.reduceMul, Nat.reduceSub, Nat.reduceLT, Nat.reduceLeDiff, Nat.reduceEqDiff, Nat.reduceBEq, Int.reduceToNat, Int.reduceLT, Int.reduceLE, Int.reduceAdd, Int.reduceSub, Int.reduceMul, Int.reduceNeg, Int.reduceEq]; refine hK4 _ ?_; clear hK4 K4
      rw [hc] at hf
      simp only [Bool.or_eq_false_iff] at hc
      refine aw_regionT noTab (noTab_ok _) ?_; simp only [go_sem, Nat.le_refl, List.append_toArray, List.range_zero, List.append_eq, Int.toNat_natCast, ↓reduceIte, Nat.reduceAdd, Nat.reduceMul, Nat.reduceSub, Nat.reduceLT, Nat.reduceLeDiff, Nat.reduceEqDiff, Nat.reduceBEq, Int.reduceToNat, Int.reduceLT, Int.reduceLE, Int.reduceAdd, Int.reduceSub, Int.reduceMul, Int.reduceNeg, Int.reduceEq]
      simp only [seen_alike, seen_put _ _ hc.2]
      simp only [go_sem, Nat.le_refl, List.append_toArray, List.range_zero, List.append_eq, Int.toNat_natCast, ↓reduceIte, Nat.reduceAdd, Nat.reduceMul, Nat.reduceSub, Nat.reduceLT, Nat.reduceLeDiff, Nat.reduceEqDiff, Nat.reduceBEq, Int.reduceToNat, Int.reduceLT, Int.reduceLE, Int.reduceAdd, Int.reduceSub, Int.reduceMul, Int.reduceNeg, Int.reduceEq]
      refine hK3 _ ?_; clear hK3 K3
      refine aw_regionT noTab (noTab_ok _) ?_; simp only [go_sem, Nat.le_refl, List.append_toArray, List.range_zero, List.append_eq, Int.toNat_natCast, ↓reduceIte, Nat.reduceAdd, Nat.reduceMul, Nat.reduceSub, Nat.reduceLT, Nat.reduceLeDiff, Nat.reduceEqDiff, Nat.reduceBEq, Int.reduceToNat, Int.reduceLT, Int.reduceLE, Int.reduceAdd, Int.reduceSub, Int.reduceMul, Int.reduceNeg, Int.reduceEq]
      rw [hw, ← htk]
      exact ⟨⟨i + 1, by omega, by rw [hf, htk]; rfl⟩, by simp only [AS.le, leT, leH, RoundK, AsgK, AV.le, AV.leL, AObj.le, inH, idsT, idsH, AV.ids, AV.idsL, AV.idsR, AObj.ids, lk, hget, go_sem, Nat.le_refl, List.append_toArray, List.range_zero, List.append_eq, Int.toNat_natCast, ↓reduceIte, Nat.reduceAdd, Nat.reduceMul, Nat.reduceSub, Nat.reduceLT, Nat.reduceLeDiff, Nat.reduceEqDiff, Nat.reduceBEq, Int.reduceToNat, Int.reduceLT, Int.reduceLE, Int.reduceAdd, Int.reduceSub, Int.reduceMul, Int.reduceNeg, Int.reduceEq], by show l.length - (i + 1) < l.length - i; omega⟩
  · have hi2 : i = l.length := by simp at hc; omega
    refine aw_exit ?_; simp only [go_sem, Nat.le_refl, List.append_toArray, List.range_zero, List.append_eq, Int.toNat_natCast, ↓reduceIte, Nat.reduceAdd, Nat.reduceMul, Nat.reduceSub, Nat.reduceLT, Nat.reduceLeDiff, Nat.reduceEqDiff, Nat.reduceBEq, Int.reduceToNat, Int.reduceLT, Int.reduceLE, Int.reduceAdd, Int.reduceSub, Int.reduceMul, Int.reduceNeg, Int.reduceEq]; refine hK1 _ ?_
    refine aw_seq_regionT noTab (noTab_ok _) (fun K hK => ?_); simp only [go_sem, Nat.le_refl, List.append_toArray, List.range_zero, List.append_eq, Int.toNat_natCast, ↓reduceIte, Nat.reduceAdd, Nat.reduceMul, Nat.reduceSub, Nat.reduceLT, Nat.reduceLeDiff, Nat.reduceEqDiff, Nat.reduceBEq, Int.reduceToNat, Int.reduceLT, Int.reduceLE, Int.reduceAdd, Int.reduceSub, Int.reduceMul, Int.reduceNeg, Int.reduceEq]
    refine hK _ ?_; clear hK K
    refine aw_ret ?_; simp only [go_sem, Nat.le_refl, List.append_toArray, List.range_zero, List.append_eq, Int.toNat_natCast, ↓reduceIte, Nat.reduceAdd, Nat.reduceMul, Nat.reduceSub, Nat.reduceLT, Nat.reduceLeDiff, Nat.reduceEqDiff, Nat.reduceBEq, Int.reduceToNat, Int.reduceLT, Int.reduceLE, Int.reduceAdd, Int.reduceSub, Int.reduceMul, Int.reduceNeg, Int.reduceEq, Try.results25]
    have : fitM l [] = true := by rw [hf, hi2, List.drop_length]; rfl
    simp only [fit, this]
    simp
    omega
end Go.Aw
