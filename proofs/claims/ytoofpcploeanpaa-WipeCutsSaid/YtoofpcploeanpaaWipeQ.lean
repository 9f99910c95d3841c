/-
  Cut, and the law WipeCuts.
-/
import Derived.Test.YtoofpcploeanpaaWipeC
namespace Go.Aw
set_option maxRecDepth 100000
set_option linter.unusedSimpArgs false
set_option linter.unusedVariables false
open Go Go.Proofs

theorem pieces_ok (a n : Nat) : ACall Try.prog 45 0 [.d (.int .i64 a), .d (.int .i64 n)] [] (fun r h' => r = .fn (.func 62) [] [.vp 1 0, .vp 0 0] ∧ h' = [(1, .var [.d (.int .i64 n)]), (0, .var [.d (.int .i64 a)])]) := by
  refine acall_of_body Try.func45 rfl (enters Try.func45 (by kernel_rfl) rfl) Try.ntmps45 (by simp) (fun base => ?_)
  refine aw_seq_regionT noTab (noTab_ok _) (fun K hK => ?_); simp only [go_sem, Nat.le_refl, List.append_toArray, List.range_zero, ↓reduceIte, List.append_eq, Int.toNat_natCast, Nat.reduceAdd, Nat.reduceMul, Nat.reduceSub, Nat.reduceLT, Nat.reduceLeDiff, Nat.reduceEqDiff, Nat.reduceBEq, Int.reduceToNat, Int.reduceLT, Int.reduceLE, Int.reduceAdd, Int.reduceSub, Int.reduceMul, Int.reduceNeg, Int.reduceEq]
  refine hK _ ?_; clear hK K
  refine aw_seq_regionT noTab (noTab_ok _) (fun K hK => ?_); simp only [go_sem, Nat.le_refl, List.append_toArray, List.range_zero, ↓reduceIte, List.append_eq, Int.toNat_natCast, Nat.reduceAdd, Nat.reduceMul, Nat.reduceSub, Nat.reduceLT, Nat.reduceLeDiff, Nat.reduceEqDiff, Nat.reduceBEq, Int.reduceToNat, Int.reduceLT, Int.reduceLE, Int.reduceAdd, Int.reduceSub, Int.reduceMul, Int.reduceNeg, Int.reduceEq]
  refine hK _ ?_; clear hK K
  refine aw_ret ?_; simp only [go_sem, Nat.le_refl, List.append_toArray, List.range_zero, ↓reduceIte, List.append_eq, Int.toNat_natCast, Nat.reduceAdd, Nat.reduceMul, Nat.reduceSub, Nat.reduceLT, Nat.reduceLeDiff, Nat.reduceEqDiff, Nat.reduceBEq, Int.reduceToNat, Int.reduceLT, Int.reduceLE, Int.reduceAdd, Int.reduceSub, Int.reduceMul, Int.reduceNeg, Int.reduceEq, Try.results45]

theorem cutItem_row (q : Nat × Nat × Nat) : rowOf3 (cutItem q) = cutD q := rowOf3_eq (cutD q)

/-- What Cut comes to. -/
def cutsD (a n : Int) : List (List D) := if a < 0 ∨ n < 0 ∨ a > 1073741824 ∨ n > 65536 then [] else (cuts a.toNat n.toNat).map cutD

theorem cut_ok (a n : Int) : ACall Try.prog 16 0 [.d (.int .i64 a), .d (.int .i64 n)] [] (fun r _ => r = .d (.sl 3 (cutsD a n))) := by
  refine acall_of_body Try.func16 rfl (enters Try.func16 (by kernel_rfl) rfl) Try.ntmps16 (by simp) (fun base => ?_)
  refine aw_seq_regionT noTab (noTab_ok _) (fun K hK => ?_); simp only [go_sem, Nat.le_refl, List.append_toArray, List.range_zero, ↓reduceIte, List.append_eq, Int.toNat_natCast, Nat.reduceAdd, Nat.reduceMul, Nat.reduceSub, Nat.reduceLT, Nat.reduceLeDiff, Nat.reduceEqDiff, Nat.reduceBEq, Int.reduceToNat, Int.reduceLT, Int.reduceLE, Int.reduceAdd, Int.reduceSub, Int.reduceMul, Int.reduceNeg, Int.reduceEq]
  refine hK _ ?_; clear hK K
  refine aw_seq (fun K1 hK1 => ?_)
  refine aw_seq_regionT noTab (noTab_ok _) (fun K hK => ?_); simp only [go_sem, Nat.le_refl, List.append_toArray, List.range_zero, ↓reduceIte, List.append_eq, Int.toNat_natCast, Nat.reduceAdd, Nat.reduceMul, Nat.reduceSub, Nat.reduceLT, Nat.reduceLeDiff, Nat.reduceEqDiff, Nat.reduceBEq, Int.reduceToNat, Int.reduceLT, Int.reduceLE, Int.reduceAdd, Int.reduceSub, Int.reduceMul, Int.reduceNeg, Int.reduceEq]
  refine hK _ ?_; clear hK K
  refine aw_cond rfl (fun hc => ?_) (fun hc => ?_)
  · simp only [Bool.or_eq_true, decide_eq_true_eq] at hc
    have hD : cutsD a n = [] := by unfold cutsD; rw [if_pos (by omega)]
    refine aw_seq_regionT noTab (noTab_ok _) (fun K hK => ?_); simp only [go_sem, Nat.le_refl, List.append_toArray, List.range_zero, ↓reduceIte, List.append_eq, Int.toNat_natCast, Nat.reduceAdd, Nat.reduceMul, Nat.reduceSub, Nat.reduceLT, Nat.reduceLeDiff, Nat.reduceEqDiff, Nat.reduceBEq, Int.reduceToNat, Int.reduceLT, Int.reduceLE, Int.reduceAdd, Int.reduceSub, Int.reduceMul, Int.reduceNeg, Int.reduceEq]
    refine hK _ ?_; clear hK K
    refine aw_adopt 4 3 rfl ?_
    simp only [go_sem, Nat.le_refl, List.append_toArray, List.range_zero, ↓reduceIte, List.append_eq, Int.toNat_natCast, Nat.reduceAdd, Nat.reduceMul, Nat.reduceSub, Nat.reduceLT, Nat.reduceLeDiff, Nat.reduceEqDiff, Nat.reduceBEq, Int.reduceToNat, Int.reduceLT, Int.reduceLE, Int.reduceAdd, Int.reduceSub, Int.reduceMul, Int.reduceNeg, Int.reduceEq]
    refine aw_freeze 0 rfl ?_; simp only [go_sem, Nat.le_refl, List.append_toArray, List.range_zero, ↓reduceIte, List.append_eq, Int.toNat_natCast, Nat.reduceAdd, Nat.reduceMul, Nat.reduceSub, Nat.reduceLT, Nat.reduceLeDiff, Nat.reduceEqDiff, Nat.reduceBEq, Int.reduceToNat, Int.reduceLT, Int.reduceLE, Int.reduceAdd, Int.reduceSub, Int.reduceMul, Int.reduceNeg, Int.reduceEq]
    refine aw_ret ?_; simp only [go_sem, Nat.le_refl, List.append_toArray, List.range_zero, ↓reduceIte, List.append_eq, Int.toNat_natCast, Nat.reduceAdd, Nat.reduceMul, Nat.reduceSub, Nat.reduceLT, Nat.reduceLeDiff, Nat.reduceEqDiff, Nat.reduceBEq, Int.reduceToNat, Int.reduceLT, Int.reduceLE, Int.reduceAdd, Int.reduceSub, Int.reduceMul, Int.reduceNeg, Int.reduceEq, Try.results16]
    rw [hD]
  · refine aw_skip ?_; simp only [go_sem, Nat.le_refl, List.append_toArray, List.range_zero, ↓reduceIte, List.append_eq, Int.toNat_natCast, Nat.reduceAdd, Nat.reduceMul, Nat.reduceSub, Nat.reduceLT, Nat.reduceLeDiff, Nat.reduceEqDiff, Nat.reduceBEq, Int.reduceToNat, Int.reduceLT, Int.reduceLE, Int.reduceAdd, Int.reduceSub, Int.reduceMul, Int.reduceNeg, Int.reduceEq]; refine hK1 _ ?_; clear hK1 K1
    simp only [Bool.or_eq_false_iff, decide_eq_false_iff_not] at hc
    obtain ⟨x, rfl⟩ : ∃ x : Nat, a = x := ⟨a.toNat, by omega⟩
    obtain ⟨y, rfl⟩ : ∃ y : Nat, n = y := ⟨n.toNat, by omega⟩
    have hD : cutsD x y = (cuts x y).map cutD := by unfold cutsD; rw [if_neg (by omega)]; simp
    refine aw_seq_regionT noTab (noTab_ok _) (fun K hK => ?_); simp only [go_sem, Nat.le_refl, List.append_toArray, List.range_zero, ↓reduceIte, List.append_eq, Int.toNat_natCast, Nat.reduceAdd, Nat.reduceMul, Nat.reduceSub, Nat.reduceLT, Nat.reduceLeDiff, Nat.reduceEqDiff, Nat.reduceBEq, Int.reduceToNat, Int.reduceLT, Int.reduceLE, Int.reduceAdd, Int.reduceSub, Int.reduceMul, Int.reduceNeg, Int.reduceEq]
    refine ((pieces_ok x y).whole (fun i hi => by simp [hget] at hi) (Nat.le_refl _) (fun r h' _ i hi => by simp [hget] at hi)).mono ?_
    rintro r h' ⟨rfl, rfl⟩
    dsimp only
    have hK0 : ∀ (u v : AObj) (i : Nat), (hget [(1, u), (0, v)] i).isSome → i < 2 := fun u v i hi => by
      simp only [hget] at hi
      split at hi
      · omega
      · split at hi
        · omega
        · simp at hi
    refine ((collect3_ok (fl := 2) (hK0 _ _) (by simp [idsH, AObj.ids, AV.idsL, AV.ids]) (by simp [AV.idsL, AV.ids]) (piecesIter_ok x y (by omega)) ?_ ?_ ?_ ?_).whole (hK0 _ _) (Nat.zero_le _) ?_).mono ?_
    · rintro g h' ⟨h1, u, v, rfl⟩
      exact ⟨hK0 _ _, h1⟩
    · rintro h' ⟨h1, u, v, rfl⟩ i hi
      have := hK0 _ _ i hi
      have : i = 0 ∨ i = 1 := by omega
      rcases this with rfl | rfl <;> simp [hget]
    · intro z hz
      obtain ⟨q, _, rfl⟩ := List.mem_map.1 hz
      exact ⟨cutD q, rfl, rfl⟩
    · have := cuts_len y x
      rw [List.length_map]; omega
    · rintro r h' ⟨_, h1, ⟨_, u, v, rfl⟩, rfl⟩ i hi
      have := hK0 _ _ i hi
      have : i = 0 ∨ i = 1 := by omega
      rcases this with rfl | rfl <;> simp [hget]
    rintro r h' ⟨rfl, h1, ⟨_, u, v, rfl⟩, rfl⟩
    refine hK _ ?_
    clear hK K
    simp only [List.cons_append, List.nil_append]
    refine aw_freeze 3 rfl ?_; simp only [go_sem, Nat.le_refl, List.append_toArray, List.range_zero, ↓reduceIte, List.append_eq, Int.toNat_natCast, Nat.reduceAdd, Nat.reduceMul, Nat.reduceSub, Nat.reduceLT, Nat.reduceLeDiff, Nat.reduceEqDiff, Nat.reduceBEq, Int.reduceToNat, Int.reduceLT, Int.reduceLE, Int.reduceAdd, Int.reduceSub, Int.reduceMul, Int.reduceNeg, Int.reduceEq,  List.length_map, Nat.zero_add]
    refine aw_ret ?_; simp only [go_sem, Nat.le_refl, List.append_toArray, List.range_zero, ↓reduceIte, List.append_eq, Int.toNat_natCast, Nat.reduceAdd, Nat.reduceMul, Nat.reduceSub, Nat.reduceLT, Nat.reduceLeDiff, Nat.reduceEqDiff, Nat.reduceBEq, Int.reduceToNat, Int.reduceLT, Int.reduceLE, Int.reduceAdd, Int.reduceSub, Int.reduceMul, Int.reduceNeg, Int.reduceEq, Try.results16]
    rw [hD]
    congr 2
    have : List.map rowOf3 (List.map cutItem (cuts x y)) = List.map cutD (cuts x y) := by
      rw [List.map_map]
      rfl
    rw [this]
    exact List.take_of_length_le (by simp)

def tabW : Tab := fun f args =>
  if f = 16 then (match args with
    | [.d (.int .i64 a), .d (.int .i64 n)] => some (True, .d (.sl 3 (cutsD a n)))
    | _ => none)
  else none
@[go_sem] theorem tabW16 (a n : Int) : tabW 16 [.d (.int .i64 a), .d (.int .i64 n)] = some (True, .d (.sl 3 (cutsD a n))) := rfl
theorem tabW_ok : TabOk Try.prog tabW := ⟨fun f args pre r h hp => by
  unfold tabW at h
  split at h
  · rename_i hf; subst hf
    split at h
    · cases h; exact ⟨rfl, cut_ok _ _⟩
    · cases h
  · cases h⟩

/-- Rows of three numbers, one by one the same. -/
theorem piecesEq_ok (x y z : Nat × Nat × Nat) : ACall Try.prog 46 0 [.d (.sl 3 [cutD x, cutD y, cutD z]), .d (.sl 3 [cutD x, cutD y, cutD z])] [] (fun r _ => r = .d (.bool true)) := by
  refine acall_of_body Try.func46 rfl (enters Try.func46 (by kernel_rfl) rfl) Try.ntmps46 (by simp) (fun base => ?_)
  refine aw_seq_regionT noTab (noTab_ok _) (fun K hK => ?_); simp only [go_sem, Nat.le_refl, List.append_toArray, List.range_zero, ↓reduceIte, List.append_eq, Int.toNat_natCast, Nat.reduceAdd, Nat.reduceMul, Nat.reduceSub, Nat.reduceLT, Nat.reduceLeDiff, Nat.reduceEqDiff, Nat.reduceBEq, Int.reduceToNat, Int.reduceLT, Int.reduceLE, Int.reduceAdd, Int.reduceSub, Int.reduceMul, Int.reduceNeg, Int.reduceEq]
  refine hK _ ?_; clear hK K
  refine aw_seq (fun K1 hK1 => ?_)
  refine aw_seq_regionT noTab (noTab_ok _) (fun K hK => ?_); simp only [go_sem, Nat.le_refl, List.append_toArray, List.range_zero, ↓reduceIte, List.append_eq, Int.toNat_natCast, Nat.reduceAdd, Nat.reduceMul, Nat.reduceSub, Nat.reduceLT, Nat.reduceLeDiff, Nat.reduceEqDiff, Nat.reduceBEq, Int.reduceToNat, Int.reduceLT, Int.reduceLE, Int.reduceAdd, Int.reduceSub, Int.reduceMul, Int.reduceNeg, Int.reduceEq]
  refine hK _ ?_; clear hK K
  refine aw_cond rfl (fun hc => ?_) (fun hc => ?_)
  · simp at hc
  · refine aw_skip ?_; simp only [go_sem, Nat.le_refl, List.append_toArray, List.range_zero, ↓reduceIte, List.append_eq, Int.toNat_natCast, Nat.reduceAdd, Nat.reduceMul, Nat.reduceSub, Nat.reduceLT, Nat.reduceLeDiff, Nat.reduceEqDiff, Nat.reduceBEq, Int.reduceToNat, Int.reduceLT, Int.reduceLE, Int.reduceAdd, Int.reduceSub, Int.reduceMul, Int.reduceNeg, Int.reduceEq]; refine hK1 _ ?_; clear hK1 K1
    refine aw_seq (fun K2 hK2 => ?_)
    refine aw_seq_regionT noTab (noTab_ok _) (fun K hK => ?_); simp only [go_sem, Nat.le_refl, List.append_toArray, List.range_zero, ↓reduceIte, List.append_eq, Int.toNat_natCast, Nat.reduceAdd, Nat.reduceMul, Nat.reduceSub, Nat.reduceLT, Nat.reduceLeDiff, Nat.reduceEqDiff, Nat.reduceBEq, Int.reduceToNat, Int.reduceLT, Int.reduceLE, Int.reduceAdd, Int.reduceSub, Int.reduceMul, Int.reduceNeg, Int.reduceEq]
    refine hK _ ?_; clear hK K
    refine aw_block ?_
    refine aw_loop (fun i : {i : Nat // i ≤ 3} => ⟨[(0, true, .d (.sl 3 [cutD x, cutD y, cutD z])), (1, true, .d (.sl 3 [cutD x, cutD y, cutD z])), (12, true, .d (.int .i64 3)), (13, true, .d (.int .i64 i.1))], [], some []⟩) (fun i => 3 - i.1) ⟨0, by omega⟩ (by simp only [AS.le, leT, leH, RoundK, AsgK, AV.le, AV.leL, AObj.le, inH, idsT, idsH, AV.ids, AV.idsL, AV.idsR, AObj.ids, lk, hget, go_sem, Nat.le_refl, List.append_toArray, List.range_zero, ↓reduceIte, List.append_eq, Int.toNat_natCast, Nat.reduceAdd, Nat.reduceMul, Nat.reduceSub, Nat.reduceLT, Nat.reduceLeDiff, Nat.reduceEqDiff, Nat.reduceBEq, Int.reduceToNat, Int.reduceLT, Int.reduceLE, Int.reduceAdd, Int.reduceSub, Int.reduceMul, Int.reduceNeg, Int.reduceEq]; simp) (fun i => ?_)
    obtain ⟨i, hi⟩ := i
    refine aw_seq_regionT noTab (noTab_ok _) (fun K hK => ?_); simp only [go_sem, Nat.le_refl, List.append_toArray, List.range_zero, ↓reduceIte, List.append_eq, Int.toNat_natCast, Nat.reduceAdd, Nat.reduceMul, Nat.reduceSub, Nat.reduceLT, Nat.reduceLeDiff, Nat.reduceEqDiff, Nat.reduceBEq, Int.reduceToNat, Int.reduceLT, Int.reduceLE, Int.reduceAdd, Int.reduceSub, Int.reduceMul, Int.reduceNeg, Int.reduceEq]
    refine hK _ ?_; clear hK K
    refine aw_seq (fun K3 hK3 => ?_)
    refine aw_cond rfl (fun hc => ?_) (fun hc => ?_)
    · refine aw_skip ?_; simp only [go_sem, Nat.le_refl, List.append_toArray, List.range_zero, ↓reduceIte, List.append_eq, Int.toNat_natCast, Nat.reduceAdd, Nat.reduceMul, Nat.reduceSub, Nat.reduceLT, Nat.reduceLeDiff, Nat.reduceEqDiff, Nat.reduceBEq, Int.reduceToNat, Int.reduceLT, Int.reduceLE, Int.reduceAdd, Int.reduceSub, Int.reduceMul, Int.reduceNeg, Int.reduceEq]; refine hK3 _ ?_; clear hK3 K3
      have hi3 : i < 3 := by simp at hc; omega
      have hw : IntKind.i64.wrap ((i : Int) + 1) = ((i + 1 : Nat) : Int) := by rw [IntKind.wrap_i64]; omega
      obtain ⟨q, hq⟩ : ∃ q : Nat × Nat × Nat, [cutD x, cutD y, cutD z].getD i [] = [D.int .i64 q.1, D.int .i64 q.2.1, D.int .i64 q.2.2] := by
        have : i = 0 ∨ i = 1 ∨ i = 2 := by omega
        rcases this with rfl | rfl | rfl <;> exact ⟨_, rfl⟩
      refine aw_seq (fun K4 hK4 => ?_)
      refine aw_block ?_
      refine aw_seq_regionT noTab (noTab_ok _) (fun K hK => ?_); simp only [go_sem, Nat.le_refl, List.append_toArray, List.range_zero, ↓reduceIte, List.append_eq, Int.toNat_natCast, Nat.reduceAdd, Nat.reduceMul, Nat.reduceSub, Nat.reduceLT, Nat.reduceLeDiff, Nat.reduceEqDiff, Nat.reduceBEq, Int.reduceToNat, Int.reduceLT, Int.reduceLE, Int.reduceAdd, Int.reduceSub, Int.reduceMul, Int.reduceNeg, Int.reduceEq]
      refine hK _ ?_; clear hK K
      refine aw_seq (fun K6 hK6 => ?_)
      refine aw_region_draw noTab (noTab_ok _) (by kernel_rfl) (by kernel_rfl) ?_; simp only [go_sem, Nat.le_refl, List.append_toArray, List.range_zero, ↓reduceIte, List.append_eq, Int.toNat_natCast, Nat.reduceAdd, Nat.reduceMul, Nat.reduceSub, Nat.reduceLT, Nat.reduceLeDiff, Nat.reduceEqDiff, Nat.reduceBEq, Int.reduceToNat, Int.reduceLT, Int.reduceLE, Int.reduceAdd, Int.reduceSub, Int.reduceMul, Int.reduceNeg, Int.reduceEq]
      simp only [go_sem, Nat.le_refl, List.append_toArray, List.range_zero, ↓reduceIte, List.append_eq, Int.toNat_natCast, Nat.reduceAdd, Nat.reduceMul, Nat.reduceSub, Nat.reduceLT, Nat.reduceLeDiff, Nat.reduceEqDiff, Nat.reduceBEq, Int.reduceToNat, Int.reduceLT, Int.reduceLE, Int.reduceAdd, Int.reduceSub, Int.reduceMul, Int.reduceNeg, Int.reduceEq, hq, List.map_cons, List.map_nil]
      refine ⟨⟨by omega, by omega⟩, ⟨by omega, by omega⟩, ?_⟩
      refine hK6 _ ?_; clear hK6 K6
      refine aw_cond rfl (fun hc => ?_) (fun hc => ?_)
      · simp at hc
      · refine aw_skip ?_; simp only [go_sem, Nat.le_refl, List.append_toArray, List.range_zero, ↓reduceIte, List.append_eq, Int.toNat_natCast, Nat.reduceAdd, Nat.reduceMul, Nat.reduceSub, Nat.reduceLT, Nat.reduceLeDiff, Nat.reduceEqDiff, Nat.reduceBEq, Int.reduceToNat, Int.reduceLT, Int.reduceLE, Int.reduceAdd, Int.reduceSub, Int.reduceMul, Int.reduceNeg, Int.reduceEq]; refine hK4 _ ?_; clear hK4 K4
        refine aw_regionT noTab (noTab_ok _) ?_; simp only [go_sem, Nat.le_refl, List.append_toArray, List.range_zero, ↓reduceIte, List.append_eq, Int.toNat_natCast, Nat.reduceAdd, Nat.reduceMul, Nat.reduceSub, Nat.reduceLT, Nat.reduceLeDiff, Nat.reduceEqDiff, Nat.reduceBEq, Int.reduceToNat, Int.reduceLT, Int.reduceLE, Int.reduceAdd, Int.reduceSub, Int.reduceMul, Int.reduceNeg, Int.reduceEq]
        rw [hw]
        exact ⟨⟨i + 1, by omega⟩, by simp only [AS.le, leT, leH, RoundK, AsgK, AV.le, AV.leL, AObj.le, inH, idsT, idsH, AV.ids, AV.idsL, AV.idsR, AObj.ids, lk, hget, go_sem, Nat.le_refl, List.append_toArray, List.range_zero, ↓reduceIte, List.append_eq, Int.toNat_natCast, Nat.reduceAdd, Nat.reduceMul, Nat.reduceSub, Nat.reduceLT, Nat.reduceLeDiff, Nat.reduceEqDiff, Nat.reduceBEq, Int.reduceToNat, Int.reduceLT, Int.reduceLE, Int.reduceAdd, Int.reduceSub, Int.reduceMul, Int.reduceNeg, Int.reduceEq], by show 3 - (i + 1) < 3 - i; omega⟩
    · refine aw_exit ?_; simp only [go_sem, Nat.le_refl, List.append_toArray, List.range_zero, ↓reduceIte, List.append_eq, Int.toNat_natCast, Nat.reduceAdd, Nat.reduceMul, Nat.reduceSub, Nat.reduceLT, Nat.reduceLeDiff, Nat.reduceEqDiff, Nat.reduceBEq, Int.reduceToNat, Int.reduceLT, Int.reduceLE, Int.reduceAdd, Int.reduceSub, Int.reduceMul, Int.reduceNeg, Int.reduceEq]; refine hK2 _ ?_
      refine aw_seq_regionT noTab (noTab_ok _) (fun K hK => ?_); simp only [go_sem, Nat.le_refl, List.append_toArray, List.range_zero, ↓reduceIte, List.append_eq, Int.toNat_natCast, Nat.reduceAdd, Nat.reduceMul, Nat.reduceSub, Nat.reduceLT, Nat.reduceLeDiff, Nat.reduceEqDiff, Nat.reduceBEq, Int.reduceToNat, Int.reduceLT, Int.reduceLE, Int.reduceAdd, Int.reduceSub, Int.reduceMul, Int.reduceNeg, Int.reduceEq]
      refine hK _ ?_; clear hK K
      refine aw_ret ?_; simp only [go_sem, Nat.le_refl, List.append_toArray, List.range_zero, ↓reduceIte, List.append_eq, Int.toNat_natCast, Nat.reduceAdd, Nat.reduceMul, Nat.reduceSub, Nat.reduceLT, Nat.reduceLeDiff, Nat.reduceEqDiff, Nat.reduceBEq, Int.reduceToNat, Int.reduceLT, Int.reduceLE, Int.reduceAdd, Int.reduceSub, Int.reduceMul, Int.reduceNeg, Int.reduceEq, Try.results46]

theorem cutsD_100_200 : cutsD 100 200 = [[.int .i64 0, .int .i64 100, .int .i64 28], [.int .i64 1, .int .i64 0, .int .i64 128], [.int .i64 2, .int .i64 0, .int .i64 44]] := by
  unfold cutsD
  rw [if_neg (by omega)]
  rfl

def tabX : Tab := fun f args =>
  if f = 16 then tabW 16 args
  else if f = 46 then (match args with
    | [.d (.sl 3 a), .d (.sl 3 b)] => some ((∃ x y z, a = [cutD x, cutD y, cutD z]) ∧ b = a, .d (.bool true))
    | _ => none)
  else none
@[go_sem] theorem tabX16 (a n : Int) : tabX 16 [.d (.int .i64 a), .d (.int .i64 n)] = some (True, .d (.sl 3 (cutsD a n))) := rfl
@[go_sem] theorem tabX46 (a b : List (List D)) : tabX 46 [.d (.sl 3 a), .d (.sl 3 b)] = some ((∃ x y z, a = [cutD x, cutD y, cutD z]) ∧ b = a, .d (.bool true)) := rfl
theorem tabX_ok : TabOk Try.prog tabX := ⟨fun f args pre r h hp => by
  unfold tabX at h
  split at h
  · rename_i hf; subst hf
    exact tabW_ok.1 _ _ _ _ h hp
  · split at h
    · rename_i hf; subst hf
      split at h
      · cases h
        obtain ⟨⟨x, y, z, rfl⟩, rfl⟩ := hp
        exact ⟨rfl, piecesEq_ok _ _ _⟩
      · cases h
    · cases h⟩

theorem awake_ok : ACall Try.prog 17 0 [] [] (fun r _ => r = .d (.bool true)) := by
  refine acall_of_body Try.func17 rfl (enters Try.func17 (by kernel_rfl) rfl) Try.ntmps17 (by simp) (fun base => ?_)
  refine aw_seq_regionT noTab (noTab_ok _) (fun K hK => ?_); simp only [go_sem, Nat.le_refl, List.append_toArray, List.range_zero, ↓reduceIte, List.append_eq, Int.toNat_natCast, Nat.reduceAdd, Nat.reduceMul, Nat.reduceSub, Nat.reduceLT, Nat.reduceLeDiff, Nat.reduceEqDiff, Nat.reduceBEq, Int.reduceToNat, Int.reduceLT, Int.reduceLE, Int.reduceAdd, Int.reduceSub, Int.reduceMul, Int.reduceNeg, Int.reduceEq]
  refine hK _ ?_; clear hK K
  refine aw_seq_regionT tabX (tabX_ok) (fun K hK => ?_); simp only [go_sem, Nat.le_refl, List.append_toArray, List.range_zero, ↓reduceIte, List.append_eq, Int.toNat_natCast, Nat.reduceAdd, Nat.reduceMul, Nat.reduceSub, Nat.reduceLT, Nat.reduceLeDiff, Nat.reduceEqDiff, Nat.reduceBEq, Int.reduceToNat, Int.reduceLT, Int.reduceLE, Int.reduceAdd, Int.reduceSub, Int.reduceMul, Int.reduceNeg, Int.reduceEq]
  refine ⟨Or.inr trivial, ?_⟩
  refine ⟨⟨⟨⟨(0, 100, 28), (1, 0, 128), (2, 0, 44), cutsD_100_200⟩, cutsD_100_200.symm⟩, Or.inl trivial⟩, ?_⟩
  refine hK _ ?_; clear hK K
  refine aw_ret ?_; simp only [go_sem, Nat.le_refl, List.append_toArray, List.range_zero, ↓reduceIte, List.append_eq, Int.toNat_natCast, Nat.reduceAdd, Nat.reduceMul, Nat.reduceSub, Nat.reduceLT, Nat.reduceLeDiff, Nat.reduceEqDiff, Nat.reduceBEq, Int.reduceToNat, Int.reduceLT, Int.reduceLE, Int.reduceAdd, Int.reduceSub, Int.reduceMul, Int.reduceNeg, Int.reduceEq, Try.results17]

def tabV : Tab := fun f args =>
  if f = 16 then tabW 16 args
  else if f = 17 then (match args with
    | [] => some (True, .d (.bool true))
    | _ => none)
  else none
@[go_sem] theorem tabV16 (a n : Int) : tabV 16 [.d (.int .i64 a), .d (.int .i64 n)] = some (True, .d (.sl 3 (cutsD a n))) := rfl
@[go_sem] theorem tabV17 : tabV 17 [] = some (True, .d (.bool true)) := rfl
theorem tabV_ok : TabOk Try.prog tabV := ⟨fun f args pre r h hp => by
  unfold tabV at h
  split at h
  · rename_i hf; subst hf
    exact tabW_ok.1 _ _ _ _ h hp
  · split at h
    · rename_i hf; subst hf
      split at h
      · cases h
        exact ⟨rfl, awake_ok⟩
      · cases h
    · cases h⟩

abbrev Wst (Q : List (Nat × Nat × Nat)) (b : Nat) := { q : Nat × Nat × Nat // Q.drop q.1 = cuts q.2.1 q.2.2 ∧ q.1 ≤ Q.length ∧ q.2.1 + q.2.2 ≤ b }

theorem wipeCuts_law (a n : Int) : ACall Try.prog 3 0 [.d (.int .i64 a), .d (.int .i64 n)] [] (fun r _ => r = .d (.bool true)) := by
  refine acall_of_body Try.func3 rfl (enters Try.func3 (by kernel_rfl) rfl) Try.ntmps3 (by simp) (fun base => ?_)
  refine aw_seq_regionT noTab (noTab_ok _) (fun K hK => ?_); simp only [go_sem, Nat.le_refl, List.append_toArray, List.range_zero, ↓reduceIte, List.append_eq, Int.toNat_natCast, Nat.reduceAdd, Nat.reduceMul, Nat.reduceSub, Nat.reduceLT, Nat.reduceLeDiff, Nat.reduceEqDiff, Nat.reduceBEq, Int.reduceToNat, Int.reduceLT, Int.reduceLE, Int.reduceAdd, Int.reduceSub, Int.reduceMul, Int.reduceNeg, Int.reduceEq]
  refine hK _ ?_; clear hK K
  refine aw_seq_regionT tabV (tabV_ok) (fun K hK => ?_); simp only [go_sem, Nat.le_refl, List.append_toArray, List.range_zero, ↓reduceIte, List.append_eq, Int.toNat_natCast, Nat.reduceAdd, Nat.reduceMul, Nat.reduceSub, Nat.reduceLT, Nat.reduceLeDiff, Nat.reduceEqDiff, Nat.reduceBEq, Int.reduceToNat, Int.reduceLT, Int.reduceLE, Int.reduceAdd, Int.reduceSub, Int.reduceMul, Int.reduceNeg, Int.reduceEq]
  refine ⟨Or.inr trivial, ?_⟩
  refine hK _ ?_; clear hK K
  refine aw_seq (fun K1 hK1 => ?_)
  refine aw_seq_regionT noTab (noTab_ok _) (fun K hK => ?_); simp only [go_sem, Nat.le_refl, List.append_toArray, List.range_zero, ↓reduceIte, List.append_eq, Int.toNat_natCast, Nat.reduceAdd, Nat.reduceMul, Nat.reduceSub, Nat.reduceLT, Nat.reduceLeDiff, Nat.reduceEqDiff, Nat.reduceBEq, Int.reduceToNat, Int.reduceLT, Int.reduceLE, Int.reduceAdd, Int.reduceSub, Int.reduceMul, Int.reduceNeg, Int.reduceEq]
  refine hK _ ?_; clear hK K
  refine aw_cond rfl (fun hc => ?_) (fun hc => ?_)
  · simp only [Bool.or_eq_true, decide_eq_true_eq] at hc
    have hD : cutsD a n = [] := by unfold cutsD; rw [if_pos (by omega)]
    rw [hD]
    refine aw_seq_regionT tabV (tabV_ok) (fun K hK => ?_); simp only [go_sem, Nat.le_refl, List.append_toArray, List.range_zero, ↓reduceIte, List.append_eq, Int.toNat_natCast, Nat.reduceAdd, Nat.reduceMul, Nat.reduceSub, Nat.reduceLT, Nat.reduceLeDiff, Nat.reduceEqDiff, Nat.reduceBEq, Int.reduceToNat, Int.reduceLT, Int.reduceLE, Int.reduceAdd, Int.reduceSub, Int.reduceMul, Int.reduceNeg, Int.reduceEq]
    refine ⟨fun _ => Or.inl trivial, ?_⟩
    refine hK _ ?_; clear hK K
    refine aw_ret ?_; simp only [go_sem, Nat.le_refl, List.append_toArray, List.range_zero, ↓reduceIte, List.append_eq, Int.toNat_natCast, Nat.reduceAdd, Nat.reduceMul, Nat.reduceSub, Nat.reduceLT, Nat.reduceLeDiff, Nat.reduceEqDiff, Nat.reduceBEq, Int.reduceToNat, Int.reduceLT, Int.reduceLE, Int.reduceAdd, Int.reduceSub, Int.reduceMul, Int.reduceNeg, Int.reduceEq, Try.results3]
    rfl
  · refine aw_skip ?_; simp only [go_sem, Nat.le_refl, List.append_toArray, List.range_zero, ↓reduceIte, List.append_eq, Int.toNat_natCast, Nat.reduceAdd, Nat.reduceMul, Nat.reduceSub, Nat.reduceLT, Nat.reduceLeDiff, Nat.reduceEqDiff, Nat.reduceBEq, Int.reduceToNat, Int.reduceLT, Int.reduceLE, Int.reduceAdd, Int.reduceSub, Int.reduceMul, Int.reduceNeg, Int.reduceEq]; refine hK1 _ ?_; clear hK1 K1
    simp only [Bool.or_eq_false_iff, decide_eq_false_iff_not] at hc
    obtain ⟨x, rfl⟩ : ∃ x : Nat, a = x := ⟨a.toNat, by omega⟩
    obtain ⟨y, rfl⟩ : ∃ y : Nat, n = y := ⟨n.toNat, by omega⟩
    have hD : cutsD x y = (cuts x y).map cutD := by unfold cutsD; rw [if_neg (by omega)]; simp
    rw [hD]
    refine aw_seq_regionT noTab (noTab_ok _) (fun K hK => ?_); simp only [go_sem, Nat.le_refl, List.append_toArray, List.range_zero, ↓reduceIte, List.append_eq, Int.toNat_natCast, Nat.reduceAdd, Nat.reduceMul, Nat.reduceSub, Nat.reduceLT, Nat.reduceLeDiff, Nat.reduceEqDiff, Nat.reduceBEq, Int.reduceToNat, Int.reduceLT, Int.reduceLE, Int.reduceAdd, Int.reduceSub, Int.reduceMul, Int.reduceNeg, Int.reduceEq]
    refine hK _ ?_; clear hK K
    refine aw_seq (fun K2 hK2 => ?_)
    refine aw_seq_regionT noTab (noTab_ok _) (fun K hK => ?_); simp only [go_sem, Nat.le_refl, List.append_toArray, List.range_zero, ↓reduceIte, List.append_eq, Int.toNat_natCast, Nat.reduceAdd, Nat.reduceMul, Nat.reduceSub, Nat.reduceLT, Nat.reduceLeDiff, Nat.reduceEqDiff, Nat.reduceBEq, Int.reduceToNat, Int.reduceLT, Int.reduceLE, Int.reduceAdd, Int.reduceSub, Int.reduceMul, Int.reduceNeg, Int.reduceEq]
    refine hK _ ?_; clear hK K
    refine aw_block ?_
    have hlen := cuts_len y x
    refine aw_loop (fun q : Wst (cuts x y) (x + y) => ⟨[(35, true, .d (.sl 3 ((cuts x y).map cutD))), (36, true, .d (.int .i64 (cuts x y).length)), (37, true, .d (.int .i64 q.1.1)), (6, true, .d (.int .i64 q.1.2.1)), (7, true, .d (.int .i64 q.1.2.2))], [], some []⟩) (fun q => (cuts x y).length - q.1.1) ⟨(0, x, y), rfl, Nat.zero_le _, Nat.le_refl _⟩ (by simp only [AS.le, leT, leH, RoundK, AsgK, AV.le, AV.leL, AObj.le, inH, idsT, idsH, AV.ids, AV.idsL, AV.idsR, AObj.ids, lk, hget, go_sem, Nat.le_refl, List.append_toArray, List.range_zero, ↓reduceIte, List.append_eq, Int.toNat_natCast, Nat.reduceAdd, Nat.reduceMul, Nat.reduceSub, Nat.reduceLT, Nat.reduceLeDiff, Nat.reduceEqDiff, Nat.reduceBEq, Int.reduceToNat, Int.reduceLT, Int.reduceLE, Int.reduceAdd, Int.reduceSub, Int.reduceMul, Int.reduceNeg, Int.reduceEq]; simp) (fun q => ?_)
    obtain ⟨⟨i, a', n'⟩, hdr, hi, hb⟩ := q
    simp only at hdr hi hb ⊢
    refine aw_seq_regionT noTab (noTab_ok _) (fun K hK => ?_); simp only [go_sem, Nat.le_refl, List.append_toArray, List.range_zero, ↓reduceIte, List.append_eq, Int.toNat_natCast, Nat.reduceAdd, Nat.reduceMul, Nat.reduceSub, Nat.reduceLT, Nat.reduceLeDiff, Nat.reduceEqDiff, Nat.reduceBEq, Int.reduceToNat, Int.reduceLT, Int.reduceLE, Int.reduceAdd, Int.reduceSub, Int.reduceMul, Int.reduceNeg, Int.reduceEq]
    refine hK _ ?_; clear hK K
    refine aw_seq (fun K3 hK3 => ?_)
    refine aw_cond rfl (fun hc => ?_) (fun hc => ?_)
    · refine aw_skip ?_; simp only [go_sem, Nat.le_refl, List.append_toArray, List.range_zero, ↓reduceIte, List.append_eq, Int.toNat_natCast, Nat.reduceAdd, Nat.reduceMul, Nat.reduceSub, Nat.reduceLT, Nat.reduceLeDiff, Nat.reduceEqDiff, Nat.reduceBEq, Int.reduceToNat, Int.reduceLT, Int.reduceLE, Int.reduceAdd, Int.reduceSub, Int.reduceMul, Int.reduceNeg, Int.reduceEq]; refine hK3 _ ?_; clear hK3 K3
      have hin : i < (cuts x y).length := by simp at hc; omega
      have hn0 : 0 < n' := by
        rcases Nat.eq_zero_or_pos n' with h0 | h0
        · subst h0
          rw [cuts_zero] at hdr
          have := congrArg List.length hdr
          simp at this
          omega
        · exact h0
      obtain ⟨m, hm⟩ : ∃ m, m = min n' (128 - a' % 128) := ⟨_, rfl⟩
      have hcp := cuts_pos a' n' hn0
      rw [← hm] at hcp
      obtain ⟨u, v, hu, hv, huv, hv128⟩ : ∃ u v, a' / 128 = u ∧ a' % 128 = v ∧ u * 128 + v = a' ∧ v < 128 := ⟨_, _, rfl, rfl, by omega, by omega⟩
      rw [hu, hv] at hcp
      rw [hv] at hm
      clear hu hv
      have hq : ((cuts x y).map cutD).getD i [] = [D.int .i64 (u : Nat), D.int .i64 (v : Nat), D.int .i64 (m : Nat)] := by
        rw [List.getD_eq_getElem?_getD, List.getElem?_map, ← List.head?_drop, hdr, hcp]
        rfl
      have hdr2 : (cuts x y).drop (i + 1) = cuts (a' + m) (n' - m) := by
        rw [← List.tail_drop, hdr, hcp]
        rfl
      have hw : IntKind.i64.wrap ((i : Int) + 1) = ((i + 1 : Nat) : Int) := by rw [IntKind.wrap_i64]; omega
      refine aw_seq (fun K4 hK4 => ?_)
      refine aw_block ?_
      refine aw_seq_regionT noTab (noTab_ok _) (fun K hK => ?_); simp only [go_sem, Nat.le_refl, List.append_toArray, List.range_zero, ↓reduceIte, List.append_eq, Int.toNat_natCast, Nat.reduceAdd, Nat.reduceMul, Nat.reduceSub, Nat.reduceLT, Nat.reduceLeDiff, Nat.reduceEqDiff, Nat.reduceBEq, Int.reduceToNat, Int.reduceLT, Int.reduceLE, Int.reduceAdd, Int.reduceSub, Int.reduceMul, Int.reduceNeg, Int.reduceEq]
      simp only [go_sem, Nat.le_refl, List.append_toArray, List.range_zero, ↓reduceIte, List.append_eq, Int.toNat_natCast, Nat.reduceAdd, Nat.reduceMul, Nat.reduceSub, Nat.reduceLT, Nat.reduceLeDiff, Nat.reduceEqDiff, Nat.reduceBEq, Int.reduceToNat, Int.reduceLT, Int.reduceLE, Int.reduceAdd, Int.reduceSub, Int.reduceMul, Int.reduceNeg, Int.reduceEq, hq, List.map_cons, List.map_nil]
      have e0 : IntKind.i64.wrap ((u : Int) * 128) = ((u * 128 : Nat) : Int) := by rw [IntKind.wrap_i64]; omega
      have e1 : IntKind.i64.wrap (IntKind.i64.wrap ((u : Int) * 128) + (v : Int)) = (a' : Int) := by
        rw [e0, IntKind.wrap_i64]; omega
      have e2 : IntKind.i64.wrap ((v : Int) + (m : Int)) = ((v + m : Nat) : Int) := by rw [IntKind.wrap_i64]; omega
      have e3 : IntKind.i64.wrap ((a' : Int) + (m : Int)) = ((a' + m : Nat) : Int) := by rw [IntKind.wrap_i64]; omega
      have e4 : IntKind.i64.wrap ((n' : Int) - (m : Int)) = ((n' - m : Nat) : Int) := by rw [IntKind.wrap_i64]; omega
      refine ⟨⟨by omega, by rw [List.length_map]; omega⟩, ?_⟩
      refine hK _ ?_; clear hK K
      refine aw_seq (fun K5 hK5 => ?_)
      refine aw_seq_regionT noTab (noTab_ok _) (fun K hK => ?_); simp only [go_sem, Nat.le_refl, List.append_toArray, List.range_zero, ↓reduceIte, List.append_eq, Int.toNat_natCast, Nat.reduceAdd, Nat.reduceMul, Nat.reduceSub, Nat.reduceLT, Nat.reduceLeDiff, Nat.reduceEqDiff, Nat.reduceBEq, Int.reduceToNat, Int.reduceLT, Int.reduceLE, Int.reduceAdd, Int.reduceSub, Int.reduceMul, Int.reduceNeg, Int.reduceEq]
      refine ⟨by omega, by omega, fun _ => by omega, fun _ => by omega, fun _ => by omega, fun _ => by omega, fun _ => by omega, ?_⟩
      refine hK _ ?_; clear hK K
      refine aw_cond rfl (fun hc => ?_) (fun hc => ?_)
      · exfalso
        rw [e1, e2] at hc
        simp only [Bool.or_eq_true, decide_eq_true_eq, bne_self_eq_false, Bool.false_eq_true, false_or] at hc
        omega
      · refine aw_skip ?_; simp only [go_sem, Nat.le_refl, List.append_toArray, List.range_zero, ↓reduceIte, List.append_eq, Int.toNat_natCast, Nat.reduceAdd, Nat.reduceMul, Nat.reduceSub, Nat.reduceLT, Nat.reduceLeDiff, Nat.reduceEqDiff, Nat.reduceBEq, Int.reduceToNat, Int.reduceLT, Int.reduceLE, Int.reduceAdd, Int.reduceSub, Int.reduceMul, Int.reduceNeg, Int.reduceEq]; refine hK5 _ ?_; clear hK5 K5
        refine aw_le ⟨[(35, true, .d (.sl 3 ((cuts x y).map cutD))), (36, true, .d (.int .i64 (cuts x y).length)), (37, true, .d (.int .i64 i)), (6, true, .d (.int .i64 a')), (7, true, .d (.int .i64 n')), (9, true, .vp 0 0)], [(0, .var [.d (.int .i64 (u : Nat)), .d (.int .i64 (v : Nat)), .d (.int .i64 (m : Nat))])], some []⟩ (by simp only [AS.le, leT, leH, RoundK, AsgK, AV.le, AV.leL, AObj.le, inH, idsT, idsH, AV.ids, AV.idsL, AV.idsR, AObj.ids, lk, hget, go_sem, Nat.le_refl, List.append_toArray, List.range_zero, ↓reduceIte, List.append_eq, Int.toNat_natCast, Nat.reduceAdd, Nat.reduceMul, Nat.reduceSub, Nat.reduceLT, Nat.reduceLeDiff, Nat.reduceEqDiff, Nat.reduceBEq, Int.reduceToNat, Int.reduceLT, Int.reduceLE, Int.reduceAdd, Int.reduceSub, Int.reduceMul, Int.reduceNeg, Int.reduceEq]) ?_
        refine aw_region_draw noTab (noTab_ok _) (by kernel_rfl) (by kernel_rfl) ?_; simp only [go_sem, Nat.le_refl, List.append_toArray, List.range_zero, ↓reduceIte, List.append_eq, Int.toNat_natCast, Nat.reduceAdd, Nat.reduceMul, Nat.reduceSub, Nat.reduceLT, Nat.reduceLeDiff, Nat.reduceEqDiff, Nat.reduceBEq, Int.reduceToNat, Int.reduceLT, Int.reduceLE, Int.reduceAdd, Int.reduceSub, Int.reduceMul, Int.reduceNeg, Int.reduceEq]
        rw [e3, e4]
        refine ⟨by omega, by omega, ?_⟩
        refine hK4 _ ?_; clear hK4 K4
        refine aw_regionT noTab (noTab_ok _) ?_; simp only [go_sem, Nat.le_refl, List.append_toArray, List.range_zero, ↓reduceIte, List.append_eq, Int.toNat_natCast, Nat.reduceAdd, Nat.reduceMul, Nat.reduceSub, Nat.reduceLT, Nat.reduceLeDiff, Nat.reduceEqDiff, Nat.reduceBEq, Int.reduceToNat, Int.reduceLT, Int.reduceLE, Int.reduceAdd, Int.reduceSub, Int.reduceMul, Int.reduceNeg, Int.reduceEq]
        rw [hw]
        exact ⟨⟨(i + 1, a' + m, n' - m), hdr2, by omega, by show a' + m + (n' - m) ≤ x + y; omega⟩, by simp only [AS.le, leT, leH, RoundK, AsgK, AV.le, AV.leL, AObj.le, inH, idsT, idsH, AV.ids, AV.idsL, AV.idsR, AObj.ids, lk, hget, go_sem, Nat.le_refl, List.append_toArray, List.range_zero, ↓reduceIte, List.append_eq, Int.toNat_natCast, Nat.reduceAdd, Nat.reduceMul, Nat.reduceSub, Nat.reduceLT, Nat.reduceLeDiff, Nat.reduceEqDiff, Nat.reduceBEq, Int.reduceToNat, Int.reduceLT, Int.reduceLE, Int.reduceAdd, Int.reduceSub, Int.reduceMul, Int.reduceNeg, Int.reduceEq], by show (cuts x y).length - (i + 1) < (cuts x y).length - i; omega⟩
    · have hi2 : i = (cuts x y).length := by simp at hc; omega
      have hn0 : n' = 0 := by
        rcases Nat.eq_zero_or_pos n' with h0 | h0
        · exact h0
        · rw [hi2, List.drop_length, cuts_pos a' n' h0] at hdr
          cases hdr
      subst hn0
      refine aw_exit ?_; simp only [go_sem, Nat.le_refl, List.append_toArray, List.range_zero, ↓reduceIte, List.append_eq, Int.toNat_natCast, Nat.reduceAdd, Nat.reduceMul, Nat.reduceSub, Nat.reduceLT, Nat.reduceLeDiff, Nat.reduceEqDiff, Nat.reduceBEq, Int.reduceToNat, Int.reduceLT, Int.reduceLE, Int.reduceAdd, Int.reduceSub, Int.reduceMul, Int.reduceNeg, Int.reduceEq]; refine hK2 _ ?_
      refine aw_seq_regionT tabV (tabV_ok) (fun K hK => ?_); simp only [go_sem, Nat.le_refl, List.append_toArray, List.range_zero, ↓reduceIte, List.append_eq, Int.toNat_natCast, Nat.reduceAdd, Nat.reduceMul, Nat.reduceSub, Nat.reduceLT, Nat.reduceLeDiff, Nat.reduceEqDiff, Nat.reduceBEq, Int.reduceToNat, Int.reduceLT, Int.reduceLE, Int.reduceAdd, Int.reduceSub, Int.reduceMul, Int.reduceNeg, Int.reduceEq]
      refine ⟨fun _ => Or.inl trivial, ?_⟩
      refine hK _ ?_; clear hK K
      refine aw_ret ?_; simp only [go_sem, Nat.le_refl, List.append_toArray, List.range_zero, ↓reduceIte, List.append_eq, Int.toNat_natCast, Nat.reduceAdd, Nat.reduceMul, Nat.reduceSub, Nat.reduceLT, Nat.reduceLeDiff, Nat.reduceEqDiff, Nat.reduceBEq, Int.reduceToNat, Int.reduceLT, Int.reduceLE, Int.reduceAdd, Int.reduceSub, Int.reduceMul, Int.reduceNeg, Int.reduceEq, Try.results3]
      rfl
end Go.Aw
