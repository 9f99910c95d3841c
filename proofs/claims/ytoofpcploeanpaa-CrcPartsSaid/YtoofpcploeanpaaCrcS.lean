/-
  The document's sums: what its More, Of, Bytes compute.
-/
import Derived.Test.YtoofpcploeanpaaCrcP
namespace Go.Aw
set_option maxRecDepth 100000
set_option linter.unusedSimpArgs false
set_option linter.unusedVariables false
open Go Go.Proofs

theorem u8B_toI (b : UInt8) : IntKind.u32.wrap (b.toNat : Int) = toI (u8B b) := by
  have := b.toNat_lt
  unfold u8B
  rw [toI_ofNat _ (by omega), IntKind.wrap_u32]
  omega

theorem rem2 (x : B32) : ((toI x).tmod 2 == 1) = x.getLsbD 0 := by
  unfold toI
  have h0 : (x.toNat : Int).tmod 2 = ((x.toNat % 2 : Nat) : Int) := by rw [Int.tmod_eq_emod_of_nonneg (by omega)]; omega
  rw [h0]
  have h1 : x.getLsbD 0 = decide (x.toNat % 2 = 1) := by
    rw [BitVec.getLsbD, Nat.testBit_zero]
  rw [h1]
  rcases Nat.mod_two_eq_zero_or_one x.toNat with h | h <;> rw [h] <;> rfl

theorem step_true (x : B32) (h : x.getLsbD 0 = true) : ibits .xor .u32 (ishr .u32 (toI x) 1) 2197175160 = toI (bT x) := by
  rw [show ishr .u32 (toI x) 1 = toI (x >>> 1) from ishr_toI x 1 (by omega), show (2197175160 : Int) = toI polyB by decide, ibits_xor]
  unfold bT
  rw [h]; rfl
theorem step_false (x : B32) (h : x.getLsbD 0 = false) : ishr .u32 (toI x) 1 = toI (bT x) := by
  rw [show ishr .u32 (toI x) 1 = toI (x >>> 1) from ishr_toI x 1 (by omega)]
  unfold bT
  rw [h]; simp

theorem refmore_ok (x : B32) (l : List UInt8) (hl : l.length ≤ 9223372036854775807) : ACall Try.prog 31 0 [.d (.int .u32 (toI x)), .d (.str l)] [] (fun r _ => r = .d (.int .u32 (toI (onesB ^^^ sumB (onesB ^^^ x) l)))) := by
  have hnot : ∀ y : B32, ibits .xor .u32 (if IntKind.u32.signed = true then (-1 : Int) else IntKind.u32.max) (toI y) = toI (onesB ^^^ y) := notS_toI
  refine acall_of_body Try.func31 rfl (enters Try.func31 (by kernel_rfl) rfl) Try.ntmps31 (by simp) (fun base => ?_)
  refine aw_seq_regionT noTab (noTab_ok _) (fun K hK => ?_); simp only [go_sem, List.append_toArray, List.range_zero, ↓reduceIte, List.append_eq, Int.toNat_natCast, Nat.reduceAdd, Nat.reduceMul, Nat.reduceSub, Nat.reduceLT, Nat.reduceLeDiff, Nat.reduceEqDiff, Nat.reduceBEq, Int.reduceToNat, Int.reduceLT, Int.reduceLE, Int.reduceAdd, Int.reduceSub, Int.reduceMul, Int.reduceNeg, Int.reduceEq]
  refine hK _ ?_; clear hK K
  refine aw_seq_regionT noTab (noTab_ok _) (fun K hK => ?_); simp only [go_sem, List.append_toArray, List.range_zero, ↓reduceIte, List.append_eq, Int.toNat_natCast, Nat.reduceAdd, Nat.reduceMul, Nat.reduceSub, Nat.reduceLT, Nat.reduceLeDiff, Nat.reduceEqDiff, Nat.reduceBEq, Int.reduceToNat, Int.reduceLT, Int.reduceLE, Int.reduceAdd, Int.reduceSub, Int.reduceMul, Int.reduceNeg, Int.reduceEq, hnot]
  refine hK _ ?_; clear hK K
  refine aw_seq (fun K1 hK1 => ?_)
  refine aw_seq_regionT noTab (noTab_ok _) (fun K hK => ?_); simp only [go_sem, List.append_toArray, List.range_zero, ↓reduceIte, List.append_eq, Int.toNat_natCast, Nat.reduceAdd, Nat.reduceMul, Nat.reduceSub, Nat.reduceLT, Nat.reduceLeDiff, Nat.reduceEqDiff, Nat.reduceBEq, Int.reduceToNat, Int.reduceLT, Int.reduceLE, Int.reduceAdd, Int.reduceSub, Int.reduceMul, Int.reduceNeg, Int.reduceEq]
  refine hK _ ?_; clear hK K
  refine aw_block ?_
  refine aw_loop (fun i : {i : Nat // i ≤ l.length} => ⟨[(1, true, .d (.str l)), (5, true, .d (.int .u32 (toI (sumB (onesB ^^^ x) (l.take i.1))))), (6, true, .d (.int .i64 i.1))], [], some []⟩) (fun i => l.length - i.1) ⟨0, by omega⟩ (by simp only [AS.le, leT, leH, AV.le, AV.leL, AObj.le, inH, idsT, idsH, AV.ids, AV.idsL, AV.idsR, AObj.ids, lk, hget, go_sem, List.append_toArray, List.range_zero, ↓reduceIte, List.append_eq, Int.toNat_natCast, Nat.reduceAdd, Nat.reduceMul, Nat.reduceSub, Nat.reduceLT, Nat.reduceLeDiff, Nat.reduceEqDiff, Nat.reduceBEq, Int.reduceToNat, Int.reduceLT, Int.reduceLE, Int.reduceAdd, Int.reduceSub, Int.reduceMul, Int.reduceNeg, Int.reduceEq]; simp [sumB]) (fun i => ?_)
  obtain ⟨i, hi⟩ := i
  refine aw_seq (fun K2 hK2 => ?_)
  refine aw_seq_regionT noTab (noTab_ok _) (fun K hK => ?_); simp only [go_sem, List.append_toArray, List.range_zero, ↓reduceIte, List.append_eq, Int.toNat_natCast, Nat.reduceAdd, Nat.reduceMul, Nat.reduceSub, Nat.reduceLT, Nat.reduceLeDiff, Nat.reduceEqDiff, Nat.reduceBEq, Int.reduceToNat, Int.reduceLT, Int.reduceLE, Int.reduceAdd, Int.reduceSub, Int.reduceMul, Int.reduceNeg, Int.reduceEq]
  refine hK _ ?_; clear hK K
  refine aw_cond rfl (fun hc => ?_) (fun hc => ?_)
  · refine aw_skip ?_; simp only [go_sem, List.append_toArray, List.range_zero, ↓reduceIte, List.append_eq, Int.toNat_natCast, Nat.reduceAdd, Nat.reduceMul, Nat.reduceSub, Nat.reduceLT, Nat.reduceLeDiff, Nat.reduceEqDiff, Nat.reduceBEq, Int.reduceToNat, Int.reduceLT, Int.reduceLE, Int.reduceAdd, Int.reduceSub, Int.reduceMul, Int.reduceNeg, Int.reduceEq]; refine hK2 _ ?_; clear hK2 K2
    have hil : i < l.length := by simp at hc; omega
    obtain ⟨b, hb⟩ : ∃ b, l[i]? = some b := ⟨l[i], by simp [hil]⟩
    have hgd : l.getD i 0 = b := by simp [List.getD_eq_getElem?_getD, hb]
    refine aw_seq (fun K3 hK3 => ?_)
    refine aw_block ?_
    refine aw_seq_regionT noTab (noTab_ok _) (fun K hK => ?_); simp only [go_sem, List.append_toArray, List.range_zero, ↓reduceIte, List.append_eq, Int.toNat_natCast, Nat.reduceAdd, Nat.reduceMul, Nat.reduceSub, Nat.reduceLT, Nat.reduceLeDiff, Nat.reduceEqDiff, Nat.reduceBEq, Int.reduceToNat, Int.reduceLT, Int.reduceLE, Int.reduceAdd, Int.reduceSub, Int.reduceMul, Int.reduceNeg, Int.reduceEq, hgd, u8B_toI, ibits_xor]
    refine ⟨⟨by omega, by omega⟩, hK _ ?_⟩
    clear hK
    refine aw_seq_regionT noTab (noTab_ok _) (fun K hK => ?_); simp only [go_sem, List.append_toArray, List.range_zero, ↓reduceIte, List.append_eq, Int.toNat_natCast, Nat.reduceAdd, Nat.reduceMul, Nat.reduceSub, Nat.reduceLT, Nat.reduceLeDiff, Nat.reduceEqDiff, Nat.reduceBEq, Int.reduceToNat, Int.reduceLT, Int.reduceLE, Int.reduceAdd, Int.reduceSub, Int.reduceMul, Int.reduceNeg, Int.reduceEq]
    refine hK _ ?_; clear hK K
    refine aw_block ?_
    refine aw_loop (fun k : {k : Nat // k ≤ 8} => ⟨[(1, true, .d (.str l)), (6, true, .d (.int .i64 i)), (5, true, .d (.int .u32 (toI (bN k.1 (sumB (onesB ^^^ x) (l.take i) ^^^ u8B b))))), (7, true, .d (.int .i64 k.1))], [], some []⟩) (fun k => 8 - k.1) ⟨0, by omega⟩ (by simp only [AS.le, leT, leH, AV.le, AV.leL, AObj.le, inH, idsT, idsH, AV.ids, AV.idsL, AV.idsR, AObj.ids, lk, hget, go_sem, List.append_toArray, List.range_zero, ↓reduceIte, List.append_eq, Int.toNat_natCast, Nat.reduceAdd, Nat.reduceMul, Nat.reduceSub, Nat.reduceLT, Nat.reduceLeDiff, Nat.reduceEqDiff, Nat.reduceBEq, Int.reduceToNat, Int.reduceLT, Int.reduceLE, Int.reduceAdd, Int.reduceSub, Int.reduceMul, Int.reduceNeg, Int.reduceEq]; simp [bN]) (fun k => ?_)
    obtain ⟨k, hk⟩ := k
    refine aw_seq (fun K4 hK4 => ?_)
    refine aw_seq_regionT noTab (noTab_ok _) (fun K hK => ?_); simp only [go_sem, List.append_toArray, List.range_zero, ↓reduceIte, List.append_eq, Int.toNat_natCast, Nat.reduceAdd, Nat.reduceMul, Nat.reduceSub, Nat.reduceLT, Nat.reduceLeDiff, Nat.reduceEqDiff, Nat.reduceBEq, Int.reduceToNat, Int.reduceLT, Int.reduceLE, Int.reduceAdd, Int.reduceSub, Int.reduceMul, Int.reduceNeg, Int.reduceEq]
    refine hK _ ?_; clear hK K
    refine aw_cond rfl (fun hc => ?_) (fun hc => ?_)
    · refine aw_skip ?_; simp only [go_sem, List.append_toArray, List.range_zero, ↓reduceIte, List.append_eq, Int.toNat_natCast, Nat.reduceAdd, Nat.reduceMul, Nat.reduceSub, Nat.reduceLT, Nat.reduceLeDiff, Nat.reduceEqDiff, Nat.reduceBEq, Int.reduceToNat, Int.reduceLT, Int.reduceLE, Int.reduceAdd, Int.reduceSub, Int.reduceMul, Int.reduceNeg, Int.reduceEq]; refine hK4 _ ?_; clear hK4 K4
      have hkl : k < 8 := by simp at hc; omega
      have hw : IntKind.i64.wrap ((k : Int) + 1) = ((k + 1 : Nat) : Int) := by rw [IntKind.wrap_i64]; omega
      refine aw_seq (fun K5 hK5 => ?_)
      refine aw_block ?_
      refine aw_seq_regionT noTab (noTab_ok _) (fun K hK => ?_); simp only [go_sem, List.append_toArray, List.range_zero, ↓reduceIte, List.append_eq, Int.toNat_natCast, Nat.reduceAdd, Nat.reduceMul, Nat.reduceSub, Nat.reduceLT, Nat.reduceLeDiff, Nat.reduceEqDiff, Nat.reduceBEq, Int.reduceToNat, Int.reduceLT, Int.reduceLE, Int.reduceAdd, Int.reduceSub, Int.reduceMul, Int.reduceNeg, Int.reduceEq, rem2]
      refine hK _ ?_; clear hK K
      refine aw_cond rfl (fun hc => ?_) (fun hc => ?_)
      · have hb1 : (bN k (sumB (onesB ^^^ x) (l.take i) ^^^ u8B b)).getLsbD 0 = true := by simpa using hc
        refine aw_regionT noTab (noTab_ok _) ?_; simp only [go_sem, List.append_toArray, List.range_zero, ↓reduceIte, List.append_eq, Int.toNat_natCast, Nat.reduceAdd, Nat.reduceMul, Nat.reduceSub, Nat.reduceLT, Nat.reduceLeDiff, Nat.reduceEqDiff, Nat.reduceBEq, Int.reduceToNat, Int.reduceLT, Int.reduceLE, Int.reduceAdd, Int.reduceSub, Int.reduceMul, Int.reduceNeg, Int.reduceEq, step_true _ hb1]
        refine hK5 _ ?_; clear hK5 K5
        refine aw_regionT noTab (noTab_ok _) ?_; simp only [go_sem, List.append_toArray, List.range_zero, ↓reduceIte, List.append_eq, Int.toNat_natCast, Nat.reduceAdd, Nat.reduceMul, Nat.reduceSub, Nat.reduceLT, Nat.reduceLeDiff, Nat.reduceEqDiff, Nat.reduceBEq, Int.reduceToNat, Int.reduceLT, Int.reduceLE, Int.reduceAdd, Int.reduceSub, Int.reduceMul, Int.reduceNeg, Int.reduceEq]
        refine ⟨⟨k + 1, by omega⟩, ?_, by simp; omega⟩
        rw [hw]
        simp only [AS.le, leT, leH, AV.le, AV.leL, AObj.le, inH, idsT, idsH, AV.ids, AV.idsL, AV.idsR, AObj.ids, lk, hget, go_sem, List.append_toArray, List.range_zero, ↓reduceIte, List.append_eq, Int.toNat_natCast, Nat.reduceAdd, Nat.reduceMul, Nat.reduceSub, Nat.reduceLT, Nat.reduceLeDiff, Nat.reduceEqDiff, Nat.reduceBEq, Int.reduceToNat, Int.reduceLT, Int.reduceLE, Int.reduceAdd, Int.reduceSub, Int.reduceMul, Int.reduceNeg, Int.reduceEq]
        rfl
      · have hb1 : (bN k (sumB (onesB ^^^ x) (l.take i) ^^^ u8B b)).getLsbD 0 = false := by simpa using hc
        refine aw_regionT noTab (noTab_ok _) ?_; simp only [go_sem, List.append_toArray, List.range_zero, ↓reduceIte, List.append_eq, Int.toNat_natCast, Nat.reduceAdd, Nat.reduceMul, Nat.reduceSub, Nat.reduceLT, Nat.reduceLeDiff, Nat.reduceEqDiff, Nat.reduceBEq, Int.reduceToNat, Int.reduceLT, Int.reduceLE, Int.reduceAdd, Int.reduceSub, Int.reduceMul, Int.reduceNeg, Int.reduceEq, step_false _ hb1]
        refine hK5 _ ?_; clear hK5 K5
        refine aw_regionT noTab (noTab_ok _) ?_; simp only [go_sem, List.append_toArray, List.range_zero, ↓reduceIte, List.append_eq, Int.toNat_natCast, Nat.reduceAdd, Nat.reduceMul, Nat.reduceSub, Nat.reduceLT, Nat.reduceLeDiff, Nat.reduceEqDiff, Nat.reduceBEq, Int.reduceToNat, Int.reduceLT, Int.reduceLE, Int.reduceAdd, Int.reduceSub, Int.reduceMul, Int.reduceNeg, Int.reduceEq]
        refine ⟨⟨k + 1, by omega⟩, ?_, by simp; omega⟩
        rw [hw]
        simp only [AS.le, leT, leH, AV.le, AV.leL, AObj.le, inH, idsT, idsH, AV.ids, AV.idsL, AV.idsR, AObj.ids, lk, hget, go_sem, List.append_toArray, List.range_zero, ↓reduceIte, List.append_eq, Int.toNat_natCast, Nat.reduceAdd, Nat.reduceMul, Nat.reduceSub, Nat.reduceLT, Nat.reduceLeDiff, Nat.reduceEqDiff, Nat.reduceBEq, Int.reduceToNat, Int.reduceLT, Int.reduceLE, Int.reduceAdd, Int.reduceSub, Int.reduceMul, Int.reduceNeg, Int.reduceEq]
        rfl
    · refine aw_exit ?_; simp only [go_sem, List.append_toArray, List.range_zero, ↓reduceIte, List.append_eq, Int.toNat_natCast, Nat.reduceAdd, Nat.reduceMul, Nat.reduceSub, Nat.reduceLT, Nat.reduceLeDiff, Nat.reduceEqDiff, Nat.reduceBEq, Int.reduceToNat, Int.reduceLT, Int.reduceLE, Int.reduceAdd, Int.reduceSub, Int.reduceMul, Int.reduceNeg, Int.reduceEq]; refine hK3 _ ?_
      have hk8 : k = 8 := by simp at hc; omega
      subst hk8
      refine aw_regionT noTab (noTab_ok _) ?_; simp only [go_sem, List.append_toArray, List.range_zero, ↓reduceIte, List.append_eq, Int.toNat_natCast, Nat.reduceAdd, Nat.reduceMul, Nat.reduceSub, Nat.reduceLT, Nat.reduceLeDiff, Nat.reduceEqDiff, Nat.reduceBEq, Int.reduceToNat, Int.reduceLT, Int.reduceLE, Int.reduceAdd, Int.reduceSub, Int.reduceMul, Int.reduceNeg, Int.reduceEq]
      have hw : IntKind.i64.wrap ((i : Int) + 1) = ((i + 1 : Nat) : Int) := by rw [IntKind.wrap_i64]; omega
      refine ⟨⟨i + 1, by omega⟩, ?_, by simp; omega⟩
      rw [hw]
      have hs : sumB (onesB ^^^ x) (l.take (i + 1)) = bN 8 (sumB (onesB ^^^ x) (l.take i) ^^^ u8B b) := by
        rw [List.take_add_one, hb, Option.toList_some, sumB_append]; rfl
      rw [hs]
      simp only [AS.le, leT, leH, AV.le, AV.leL, AObj.le, inH, idsT, idsH, AV.ids, AV.idsL, AV.idsR, AObj.ids, lk, hget, go_sem, List.append_toArray, List.range_zero, ↓reduceIte, List.append_eq, Int.toNat_natCast, Nat.reduceAdd, Nat.reduceMul, Nat.reduceSub, Nat.reduceLT, Nat.reduceLeDiff, Nat.reduceEqDiff, Nat.reduceBEq, Int.reduceToNat, Int.reduceLT, Int.reduceLE, Int.reduceAdd, Int.reduceSub, Int.reduceMul, Int.reduceNeg, Int.reduceEq]
  · refine aw_exit ?_; simp only [go_sem, List.append_toArray, List.range_zero, ↓reduceIte, List.append_eq, Int.toNat_natCast, Nat.reduceAdd, Nat.reduceMul, Nat.reduceSub, Nat.reduceLT, Nat.reduceLeDiff, Nat.reduceEqDiff, Nat.reduceBEq, Int.reduceToNat, Int.reduceLT, Int.reduceLE, Int.reduceAdd, Int.reduceSub, Int.reduceMul, Int.reduceNeg, Int.reduceEq]; refine hK1 _ ?_
    have hil : i = l.length := by simp at hc; omega
    subst hil
    refine aw_seq_regionT noTab (noTab_ok _) (fun K hK => ?_); simp only [go_sem, List.append_toArray, List.range_zero, ↓reduceIte, List.append_eq, Int.toNat_natCast, Nat.reduceAdd, Nat.reduceMul, Nat.reduceSub, Nat.reduceLT, Nat.reduceLeDiff, Nat.reduceEqDiff, Nat.reduceBEq, Int.reduceToNat, Int.reduceLT, Int.reduceLE, Int.reduceAdd, Int.reduceSub, Int.reduceMul, Int.reduceNeg, Int.reduceEq, hnot]
    refine hK _ ?_; clear hK K
    refine aw_ret ?_; simp only [go_sem, List.append_toArray, List.range_zero, ↓reduceIte, List.append_eq, Int.toNat_natCast, Nat.reduceAdd, Nat.reduceMul, Nat.reduceSub, Nat.reduceLT, Nat.reduceLeDiff, Nat.reduceEqDiff, Nat.reduceBEq, Int.reduceToNat, Int.reduceLT, Int.reduceLE, Int.reduceAdd, Int.reduceSub, Int.reduceMul, Int.reduceNeg, Int.reduceEq, Try.results31]
    rw [List.take_length]

theorem refmore_sum (c : Int) (l : List UInt8) (hp : 0 ≤ c ∧ c ≤ 4294967295 ∧ l.length ≤ 9223372036854775807) : ACall Try.prog 31 0 [.d (.int .u32 c), .d (.str l)] [] (fun r _ => r = .d (.int .u32 (sumOf c l))) := by
  obtain ⟨x, rfl⟩ := ofI c hp.1 hp.2.1
  rw [sumOf_toI]
  exact refmore_ok x l hp.2.2

def tabR0 : Tab := fun f args =>
  if f = 31 then (match args with
    | [.d (.int .u32 c), .d (.str l)] => some (0 ≤ c ∧ c ≤ 4294967295 ∧ l.length ≤ 9223372036854775807, .d (.int .u32 (sumOf c l)))
    | _ => none)
  else none
@[go_sem] theorem tabR0_31 (c : Int) (l : List UInt8) : tabR0 31 [.d (.int .u32 c), .d (.str l)] = some (0 ≤ c ∧ c ≤ 4294967295 ∧ l.length ≤ 9223372036854775807, .d (.int .u32 (sumOf c l))) := rfl
theorem tabR0_ok : TabOk Try.prog tabR0 := ⟨fun f args pre r h hp => by
  unfold tabR0 at h
  split at h
  · rename_i hf; subst hf
    split at h
    · cases h; exact ⟨rfl, refmore_sum _ _ hp⟩
    · cases h
  · cases h⟩

theorem refof_ok (l : List UInt8) (hl : l.length ≤ 9223372036854775807) : ACall Try.prog 29 0 [.d (.str l)] [] (fun r _ => r = .d (.int .u32 (sumOf 0 l))) := by
  refine acall_of_body Try.func29 rfl (enters Try.func29 (by kernel_rfl) rfl) Try.ntmps29 (by simp) (fun base => ?_)
  refine aw_seq_regionT noTab (noTab_ok _) (fun K hK => ?_); simp only [go_sem, List.append_toArray, List.range_zero, ↓reduceIte, List.append_eq, Int.toNat_natCast, Nat.reduceAdd, Nat.reduceMul, Nat.reduceSub, Nat.reduceLT, Nat.reduceLeDiff, Nat.reduceEqDiff, Nat.reduceBEq, Int.reduceToNat, Int.reduceLT, Int.reduceLE, Int.reduceAdd, Int.reduceSub, Int.reduceMul, Int.reduceNeg, Int.reduceEq]
  refine hK _ ?_; clear hK K
  refine aw_seq_regionT tabR0 tabR0_ok (fun K hK => ?_); simp only [go_sem, List.append_toArray, List.range_zero, ↓reduceIte, List.append_eq, Int.toNat_natCast, Nat.reduceAdd, Nat.reduceMul, Nat.reduceSub, Nat.reduceLT, Nat.reduceLeDiff, Nat.reduceEqDiff, Nat.reduceBEq, Int.reduceToNat, Int.reduceLT, Int.reduceLE, Int.reduceAdd, Int.reduceSub, Int.reduceMul, Int.reduceNeg, Int.reduceEq]
  refine ⟨hl, hK _ ?_⟩
  clear hK K
  refine aw_ret ?_; simp only [go_sem, List.append_toArray, List.range_zero, ↓reduceIte, List.append_eq, Int.toNat_natCast, Nat.reduceAdd, Nat.reduceMul, Nat.reduceSub, Nat.reduceLT, Nat.reduceLeDiff, Nat.reduceEqDiff, Nat.reduceBEq, Int.reduceToNat, Int.reduceLT, Int.reduceLE, Int.reduceAdd, Int.reduceSub, Int.reduceMul, Int.reduceNeg, Int.reduceEq, Try.results29]

theorem refbytes_ok (c : Int) (h0 : 0 ≤ c) (h1 : c ≤ 4294967295) : ACall Try.prog 33 0 [.d (.int .u32 c)] [] (fun r _ => r = .d (.str (bytesS c))) := by
  refine acall_of_body Try.func33 rfl (enters Try.func33 (by kernel_rfl) rfl) Try.ntmps33 (by simp) (fun base => ?_)
  refine aw_seq_regionT noTab (noTab_ok _) (fun K hK => ?_); simp only [go_sem, List.append_toArray, List.range_zero, ↓reduceIte, List.append_eq, Int.toNat_natCast, Nat.reduceAdd, Nat.reduceMul, Nat.reduceSub, Nat.reduceLT, Nat.reduceLeDiff, Nat.reduceEqDiff, Nat.reduceBEq, Int.reduceToNat, Int.reduceLT, Int.reduceLE, Int.reduceAdd, Int.reduceSub, Int.reduceMul, Int.reduceNeg, Int.reduceEq]
  refine hK _ ?_; clear hK K
  refine aw_seq_regionT noTab (noTab_ok _) (fun K hK => ?_); simp only [go_sem, List.append_toArray, List.range_zero, ↓reduceIte, List.append_eq, Int.toNat_natCast, Nat.reduceAdd, Nat.reduceMul, Nat.reduceSub, Nat.reduceLT, Nat.reduceLeDiff, Nat.reduceEqDiff, Nat.reduceBEq, Int.reduceToNat, Int.reduceLT, Int.reduceLE, Int.reduceAdd, Int.reduceSub, Int.reduceMul, Int.reduceNeg, Int.reduceEq]
  refine ⟨rfl, hK _ ?_⟩
  clear hK K
  refine aw_ret ?_; simp only [go_sem, List.append_toArray, List.range_zero, ↓reduceIte, List.append_eq, Int.toNat_natCast, Nat.reduceAdd, Nat.reduceMul, Nat.reduceSub, Nat.reduceLT, Nat.reduceLeDiff, Nat.reduceEqDiff, Nat.reduceBEq, Int.reduceToNat, Int.reduceLT, Int.reduceLE, Int.reduceAdd, Int.reduceSub, Int.reduceMul, Int.reduceNeg, Int.reduceEq, Try.results33]
  have e3 : byteAt c 3 = IntKind.u8.wrap c := by
    unfold byteAt ishr
    rw [show IntKind.i64.wrap (24 - IntKind.i64.wrap (8 * ((3 : Nat) : Int))) = 0 by decide]
    simp
  have e2 : byteAt c 2 = IntKind.u8.wrap (ishr .u32 c 8) := by
    unfold byteAt
    rw [show IntKind.i64.wrap (24 - IntKind.i64.wrap (8 * ((2 : Nat) : Int))) = 8 by decide]
  have e1 : byteAt c 1 = IntKind.u8.wrap (ishr .u32 c 16) := by
    unfold byteAt
    rw [show IntKind.i64.wrap (24 - IntKind.i64.wrap (8 * ((1 : Nat) : Int))) = 16 by decide]
  have e0 : byteAt c 0 = IntKind.u8.wrap (ishr .u32 c 24) := by
    unfold byteAt
    rw [show IntKind.i64.wrap (24 - IntKind.i64.wrap (8 * ((0 : Nat) : Int))) = 24 by decide]
  simp only [bytesS, bytesOf, List.map_cons, List.map_nil, numOf, e0, e1, e2, e3]

def tabR : Tab := fun f args =>
  if f = 31 then tabR0 31 args
  else if f = 29 then (match args with
    | [.d (.str l)] => some (l.length ≤ 9223372036854775807, .d (.int .u32 (sumOf 0 l)))
    | _ => none)
  else if f = 33 then (match args with
    | [.d (.int .u32 c)] => some (0 ≤ c ∧ c ≤ 4294967295, .d (.str (bytesS c)))
    | _ => none)
  else tabQ f args
@[go_sem] theorem tabR31 (args : List AV) : tabR 31 args = tabR0 31 args := rfl
@[go_sem] theorem tabR29 (l : List UInt8) : tabR 29 [.d (.str l)] = some (l.length ≤ 9223372036854775807, .d (.int .u32 (sumOf 0 l))) := rfl
@[go_sem] theorem tabR33 (c : Int) : tabR 33 [.d (.int .u32 c)] = some (0 ≤ c ∧ c ≤ 4294967295, .d (.str (bytesS c))) := rfl
@[go_sem] theorem tabR26 (args : List AV) : tabR 26 args = tabQ 26 args := rfl
@[go_sem] theorem tabR27 (args : List AV) : tabR 27 args = tabQ 27 args := rfl
@[go_sem] theorem tabR30 (args : List AV) : tabR 30 args = tabQ 30 args := rfl
@[go_sem] theorem tabR28 (args : List AV) : tabR 28 args = tabQ 28 args := rfl
@[go_sem] theorem tabR32 (args : List AV) : tabR 32 args = tabQ 32 args := rfl
theorem tabR_ok : TabOk Try.prog tabR := ⟨fun f args pre r h hp => by
  unfold tabR at h
  split at h
  · rename_i hf; subst hf; exact tabR0_ok.ok _ _ _ _ h hp
  · split at h
    · rename_i hf; subst hf
      split at h
      · cases h; exact ⟨rfl, refof_ok _ hp⟩
      · cases h
    · split at h
      · rename_i hf; subst hf
        split at h
        · cases h; exact ⟨rfl, refbytes_ok _ hp.1 hp.2⟩
        · cases h
      · exact tabQ_ok.ok _ _ _ _ h hp⟩

theorem short1 (a : List UInt8) : shortF (decS [[D.str a]]) = true → a.length ≤ 20000 := by
  intro h
  simpa [shortF, decS] using h

theorem crcSums_law (a : List UInt8) (c : Int) (h0 : 0 ≤ c) (h1 : c ≤ 4294967295) : ACall Try.prog 9 0 [.d (.str a), .d (.int .u32 c)] [] (fun r _ => r = .d (.bool true)) := by
  refine acall_of_body Try.func9 rfl (enters Try.func9 (by kernel_rfl) rfl) Try.ntmps9 (by simp) (fun base => ?_)
  refine aw_seq_regionT noTab (noTab_ok _) (fun K hK => ?_); simp only [go_sem, List.append_toArray, List.range_zero, ↓reduceIte, List.append_eq, Int.toNat_natCast, Nat.reduceAdd, Nat.reduceMul, Nat.reduceSub, Nat.reduceLT, Nat.reduceLeDiff, Nat.reduceEqDiff, Nat.reduceBEq, Int.reduceToNat, Int.reduceLT, Int.reduceLE, Int.reduceAdd, Int.reduceSub, Int.reduceMul, Int.reduceNeg, Int.reduceEq]
  refine hK _ ?_; clear hK K
  refine aw_seq (fun K1 hK1 => ?_)
  refine aw_seq_regionT tabQ tabQ_ok (fun K hK => ?_); simp only [go_sem, List.append_toArray, List.range_zero, ↓reduceIte, List.append_eq, Int.toNat_natCast, Nat.reduceAdd, Nat.reduceMul, Nat.reduceSub, Nat.reduceLT, Nat.reduceLeDiff, Nat.reduceEqDiff, Nat.reduceBEq, Int.reduceToNat, Int.reduceLT, Int.reduceLE, Int.reduceAdd, Int.reduceSub, Int.reduceMul, Int.reduceNeg, Int.reduceEq]
  refine ⟨⟨rfl, by simp [decS]⟩, hK _ ?_⟩
  clear hK K
  refine aw_cond rfl (fun hc => ?_) (fun hc => ?_)
  · refine aw_seq_regionT tabQ tabQ_ok (fun K hK => ?_); simp only [go_sem, List.append_toArray, List.range_zero, ↓reduceIte, List.append_eq, Int.toNat_natCast, Nat.reduceAdd, Nat.reduceMul, Nat.reduceSub, Nat.reduceLT, Nat.reduceLeDiff, Nat.reduceEqDiff, Nat.reduceBEq, Int.reduceToNat, Int.reduceLT, Int.reduceLE, Int.reduceAdd, Int.reduceSub, Int.reduceMul, Int.reduceNeg, Int.reduceEq]
    refine hK _ ?_; clear hK K
    refine aw_ret ?_; simp only [go_sem, List.append_toArray, List.range_zero, ↓reduceIte, List.append_eq, Int.toNat_natCast, Nat.reduceAdd, Nat.reduceMul, Nat.reduceSub, Nat.reduceLT, Nat.reduceLeDiff, Nat.reduceEqDiff, Nat.reduceBEq, Int.reduceToNat, Int.reduceLT, Int.reduceLE, Int.reduceAdd, Int.reduceSub, Int.reduceMul, Int.reduceNeg, Int.reduceEq, Try.results9]
  · refine aw_skip ?_; simp only [go_sem, List.append_toArray, List.range_zero, ↓reduceIte, List.append_eq, Int.toNat_natCast, Nat.reduceAdd, Nat.reduceMul, Nat.reduceSub, Nat.reduceLT, Nat.reduceLeDiff, Nat.reduceEqDiff, Nat.reduceBEq, Int.reduceToNat, Int.reduceLT, Int.reduceLE, Int.reduceAdd, Int.reduceSub, Int.reduceMul, Int.reduceNeg, Int.reduceEq]; refine hK1 _ ?_; clear hK1 K1
    have hs : shortF (decS [[D.str a]]) = true := by simpa using hc
    have ha := short1 a hs
    refine aw_seq_regionT tabR tabR_ok (fun K hK => ?_); simp only [go_sem, List.append_toArray, List.range_zero, ↓reduceIte, List.append_eq, Int.toNat_natCast, Nat.reduceAdd, Nat.reduceMul, Nat.reduceSub, Nat.reduceLT, Nat.reduceLeDiff, Nat.reduceEqDiff, Nat.reduceBEq, Int.reduceToNat, Int.reduceLT, Int.reduceLE, Int.reduceAdd, Int.reduceSub, Int.reduceMul, Int.reduceNeg, Int.reduceEq]
    refine ⟨by omega, by omega, by omega, ⟨h0, h1, by omega⟩, ⟨h0, h1⟩, hK _ ?_⟩
    clear hK K
    refine aw_ret ?_; simp only [go_sem, List.append_toArray, List.range_zero, ↓reduceIte, List.append_eq, Int.toNat_natCast, Nat.reduceAdd, Nat.reduceMul, Nat.reduceSub, Nat.reduceLT, Nat.reduceLeDiff, Nat.reduceEqDiff, Nat.reduceBEq, Int.reduceToNat, Int.reduceLT, Int.reduceLE, Int.reduceAdd, Int.reduceSub, Int.reduceMul, Int.reduceNeg, Int.reduceEq, Try.results9]
end Go.Aw
