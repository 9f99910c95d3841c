/-
  The law CrcParts.
-/
import Derived.Test.YtoofpcploeanpaaCrcN
import Derived.Test.YtoofpcploeanpaaCrcS
namespace Go.Aw
set_option maxRecDepth 100000
set_option linter.unusedSimpArgs false
set_option linter.unusedVariables false
open Go Go.Proofs

/-- Byte number i of a number, the lowest first. -/
def lowB (x : B32) (i : Nat) : UInt8 := UInt8.ofNat ((x >>> (8 * i)).toNat % 256)

theorem u8B_lowB (x : B32) (i : Nat) : u8B (lowB x i) = low8 (x >>> (8 * i)) := by
  apply BitVec.eq_of_toNat_eq
  have h : (x >>> (8 * i)).toNat % 256 < 256 := Nat.mod_lt _ (by omega)
  simp only [u8B, lowB, low8, BitVec.toNat_and, BitVec.toNat_ofNat, UInt8.toNat_ofNat']
  rw [show 255 % 2 ^ 32 = 2 ^ 8 - 1 by decide, Nat.and_two_pow_sub_one_eq_mod, show (2 : Nat) ^ 8 = 256 from rfl, Nat.mod_eq_of_lt h]
  omega

theorem parts4 (x : B32) : u8B (lowB x 0) ^^^ (u8B (lowB x 1) <<< 8) ^^^ (u8B (lowB x 2) <<< 16) ^^^ (u8B (lowB x 3) <<< 24) = x := by
  simp only [u8B_lowB, low8]
  have h255 : ∀ j, j < 32 → (255#32).getLsbD j = decide (j < 8) := by decide
  apply BitVec.eq_of_getLsbD_eq
  intro i hi
  simp only [BitVec.getLsbD_xor, BitVec.getLsbD_shiftLeft, BitVec.getLsbD_and, BitVec.getLsbD_ushiftRight, hi, decide_true, Bool.true_and]
  rw [h255 i hi, h255 (i - 8) (by omega), h255 (i - 16) (by omega), h255 (i - 24) (by omega)]
  have e : i < 8 ∨ (8 ≤ i ∧ i < 16) ∨ (16 ≤ i ∧ i < 24) ∨ (24 ≤ i ∧ i < 32) := by omega
  rcases e with e | ⟨e1, e2⟩ | ⟨e1, e2⟩ | ⟨e1, e2⟩
  · simp [e, show i < 16 by omega, show i < 24 by omega]
  · simp [show ¬ i < 8 by omega, e2, show i < 24 by omega, show i - 8 < 8 by omega, show 8 + (i - 8) = i by omega]
  · simp [show ¬ i < 8 by omega, show ¬ i < 16 by omega, e2, show ¬ (i - 8 < 8) by omega, show i - 16 < 8 by omega, show 16 + (i - 16) = i by omega]
  · simp [show ¬ i < 8 by omega, show ¬ i < 16 by omega, show ¬ i < 24 by omega, show ¬ (i - 8 < 8) by omega, show ¬ (i - 16 < 8) by omega, show i - 24 < 8 by omega, show 24 + (i - 24) = i by omega]

theorem lowB_I (x : B32) (i : Nat) (hi : i < 4) : IntKind.u8.wrap (ishr .u32 (toI x) (IntKind.i64.wrap (8 * (i : Int)))) = ((lowB x i).toNat : Int) := by
  rw [show IntKind.i64.wrap (8 * (i : Int)) = ((8 * i : Nat) : Int) by rw [IntKind.wrap_i64]; omega, ishr_toI _ _ (by omega)]
  have h : (x >>> (8 * i)).toNat % 256 < 256 := Nat.mod_lt _ (by omega)
  unfold toI lowB
  rw [IntKind.wrap_u8, UInt8.toNat_ofNat']
  omega

def es (x : B32) : List UInt8 := [lowB x 0, lowB x 1, lowB x 2, lowB x 3]
def midL (s : List UInt8) (k : Nat) : List UInt8 := (s.drop k).take 4
/-- The text when i of the four bytes are others. -/
def parL (s : List UInt8) (k : Nat) (x : B32) (i : Nat) : List UInt8 := s.take k ++ mixL (xorL (midL s k) (es x)) (midL s k) i ++ s.drop (k + 4)

theorem midL_len (s : List UInt8) (k : Nat) (h : k + 4 ≤ s.length) : (midL s k).length = 4 := by simp [midL]; omega
theorem xm_len (s : List UInt8) (k : Nat) (x : B32) (h : k + 4 ≤ s.length) : (xorL (midL s k) (es x)).length = 4 := by simp [xorL, midL_len s k h, es]
theorem parL_zero (s : List UInt8) (k : Nat) (x : B32) (h : k + 4 ≤ s.length) : parL s k x 0 = s := by
  have e : s.drop (k + 4) = (s.drop k).drop 4 := by rw [List.drop_drop]
  unfold parL mixL midL
  rw [e, List.take_zero, List.drop_zero, List.nil_append, List.append_assoc, List.take_append_drop, List.take_append_drop]
theorem split4 (s : List UInt8) (k : Nat) (h : k + 4 ≤ s.length) : s.take k ++ midL s k ++ s.drop (k + 4) = s := by
  have := parL_zero s k 0#32 h
  unfold parL mixL at this
  rwa [List.take_zero, List.drop_zero, List.nil_append] at this
theorem parL_four (s : List UInt8) (k : Nat) (x : B32) (h : k + 4 ≤ s.length) : parL s k x 4 = s.take k ++ xorL (midL s k) (es x) ++ s.drop (k + 4) := by
  unfold parL mixL
  rw [List.take_of_length_le (l := xorL (midL s k) (es x)) (by rw [xm_len s k x h]; omega), List.drop_eq_nil_of_le (by rw [midL_len s k h]; omega), List.append_nil]
theorem parL_len (s : List UInt8) (k : Nat) (x : B32) (h : k + 4 ≤ s.length) (i : Nat) (hi : i ≤ 4) : (parL s k x i).length = s.length := by
  have h2 : (mixL (xorL (midL s k) (es x)) (midL s k) i).length = 4 := by rw [mixL_len _ _ (by rw [xm_len s k x h, midL_len s k h]) i (by rw [midL_len s k h]; exact hi), midL_len s k h]
  unfold parL
  simp only [List.length_append, h2, List.length_take, List.length_drop]
  omega
theorem es_get (x : B32) (i : Nat) (hi : i < 4) : (es x)[i]? = some (lowB x i) := by
  have : i = 0 ∨ i = 1 ∨ i = 2 ∨ i = 3 := by omega
  rcases this with rfl | rfl | rfl | rfl <;> rfl
theorem midL_get (s : List UInt8) (k i : Nat) (h : k + 4 ≤ s.length) (hi : i < 4) : (midL s k)[i]? = some (s[k + i]'(by omega)) := by
  unfold midL
  rw [List.getElem?_take, if_pos hi, List.getElem?_drop, List.getElem?_eq_getElem (by omega)]
theorem parL_get (s : List UInt8) (k : Nat) (x : B32) (h : k + 4 ≤ s.length) (i : Nat) (hi : i < 4) : (parL s k x i)[k + i]? = some (s[k + i]'(by omega)) := by
  have h1 : (s.take k).length = k := by simp; omega
  have h2 : (mixL (xorL (midL s k) (es x)) (midL s k) i).length = 4 := by rw [mixL_len _ _ (by rw [xm_len s k x h, midL_len s k h]) i (by rw [midL_len s k h]; omega), midL_len s k h]
  unfold parL
  rw [List.getElem?_append_left (by rw [List.length_append, h1, h2]; omega), List.getElem?_append_right (by omega), h1, Nat.add_sub_cancel_left, mixL_get _ _ (by rw [xm_len s k x h, midL_len s k h]) i (by rw [midL_len s k h]; omega), midL_get s k i h hi]
theorem parL_set (s : List UInt8) (k : Nat) (x : B32) (h : k + 4 ≤ s.length) (i : Nat) (hi : i < 4) : (parL s k x i).set (k + i) (s[k + i]'(by omega) ^^^ lowB x i) = parL s k x (i + 1) := by
  have h1 : (s.take k).length = k := by simp; omega
  have hxl := xm_len s k x h
  have h2 : (mixL (xorL (midL s k) (es x)) (midL s k) i).length = 4 := by rw [mixL_len _ _ (by rw [xm_len s k x h, midL_len s k h]) i (by rw [midL_len s k h]; omega), midL_len s k h]
  have hx : (xorL (midL s k) (es x))[i]'(by omega) = s[k + i]'(by omega) ^^^ lowB x i := by
    have : (xorL (midL s k) (es x))[i]? = some (s[k + i]'(by omega) ^^^ lowB x i) := by
      simp only [xorL, List.getElem?_zipWith, midL_get s k i h hi, es_get x i hi]
    rw [List.getElem?_eq_getElem (by omega)] at this
    exact Option.some.inj this
  unfold parL
  rw [← mixL_set _ _ (by rw [xm_len s k x h, midL_len s k h]) i (by rw [midL_len s k h]; exact hi), hx]
  rw [List.set_append_left _ _ (by rw [List.length_append, h1, h2]; omega), List.set_append_right (k + i) _ (by omega), h1, Nat.add_sub_cancel_left]

theorem parts_ne (s : List UInt8) (k : Nat) (x : B32) (h : k + 4 ≤ s.length) (hx : x ≠ 0#32) : (sumOf 0 s != sumOf 0 (parL s k x 4)) = true := by
  have z : (0 : Int) = toI 0#32 := by decide
  rw [bne_iff_ne, z, sumOf_toI, sumOf_toI, parL_four s k x h]
  intro e
  have e2 := toI_inj e
  have e3 : sumB (onesB ^^^ 0#32) s = sumB (onesB ^^^ 0#32) (s.take k ++ xorL (midL s k) (es x) ++ s.drop (k + 4)) := by
    have := congrArg (fun y => onesB ^^^ y) e2
    simpa [← BitVec.xor_assoc] using this
  have := unlike (onesB ^^^ 0#32) (s.take k) _ (midL s k) (s.drop (k + 4)) (lowB x 0) (lowB x 1) (lowB x 2) (lowB x 3) rfl (midL_len s k h) (by rw [parts4]; exact hx)
  rw [split4 s k h] at this
  exact this e3

theorem place (n : Nat) (at_ : Int) (h4 : 4 ≤ n) (hn : n ≤ 20000) : ∃ k : Nat, IntKind.i64.wrap ((IntKind.u64.wrap at_).tmod (IntKind.u64.wrap (IntKind.i64.wrap ((n : Int) - 3)))) = (k : Int) ∧ k + 4 ≤ n := by
  have e1 : IntKind.u64.wrap (IntKind.i64.wrap ((n : Int) - 3)) = ((n - 3 : Nat) : Int) := by rw [IntKind.wrap_i64, IntKind.wrap_u64]; omega
  rw [e1]
  obtain ⟨u, hu⟩ : ∃ u : Nat, IntKind.u64.wrap at_ = (u : Int) := ⟨(IntKind.u64.wrap at_).toNat, by rw [IntKind.wrap_u64]; omega⟩
  rw [hu, Int.tmod_eq_emod_of_nonneg (by omega)]
  have : u % (n - 3) < n - 3 := Nat.mod_lt _ (by omega)
  exact ⟨u % (n - 3), by rw [IntKind.wrap_i64]; omega, by omega⟩

theorem crcParts_law (s : List UInt8) (at_ : Int) (x : B32) : ACall Try.prog 11 0 [.d (.str s), .d (.int .i64 at_), .d (.int .u32 (toI x))] [] (fun r _ => r = .d (.bool true)) := by
  refine acall_of_body Try.func11 rfl (enters Try.func11 (by kernel_rfl) rfl) Try.ntmps11 (by simp) (fun base => ?_)
  refine aw_seq_regionT noTab (noTab_ok _) (fun K hK => ?_); simp only [go_sem, List.append_toArray, List.range_zero, ↓reduceIte, List.append_eq, Int.toNat_natCast, Nat.reduceAdd, Nat.reduceMul, Nat.reduceSub, Nat.reduceLT, Nat.reduceLeDiff, Nat.reduceEqDiff, Nat.reduceBEq, Int.reduceToNat, Int.reduceLT, Int.reduceLE, Int.reduceAdd, Int.reduceSub, Int.reduceMul, Int.reduceNeg, Int.reduceEq]
  refine hK _ ?_; clear hK K
  refine aw_seq (fun K1 hK1 => ?_)
  refine aw_seq_regionT tabQ tabQ_ok (fun K hK => ?_); simp only [go_sem, List.append_toArray, List.range_zero, ↓reduceIte, List.append_eq, Int.toNat_natCast, Nat.reduceAdd, Nat.reduceMul, Nat.reduceSub, Nat.reduceLT, Nat.reduceLeDiff, Nat.reduceEqDiff, Nat.reduceBEq, Int.reduceToNat, Int.reduceLT, Int.reduceLE, Int.reduceAdd, Int.reduceSub, Int.reduceMul, Int.reduceNeg, Int.reduceEq]
  refine ⟨⟨rfl, by simp [decS]⟩, hK _ ?_⟩
  clear hK K
  refine aw_cond rfl (fun hc => ?_) (fun hc => ?_)
  · refine aw_seq_regionT tabQ tabQ_ok (fun K hK => ?_); simp only [go_sem, List.append_toArray, List.range_zero, ↓reduceIte, List.append_eq, Int.toNat_natCast, Nat.reduceAdd, Nat.reduceMul, Nat.reduceSub, Nat.reduceLT, Nat.reduceLeDiff, Nat.reduceEqDiff, Nat.reduceBEq, Int.reduceToNat, Int.reduceLT, Int.reduceLE, Int.reduceAdd, Int.reduceSub, Int.reduceMul, Int.reduceNeg, Int.reduceEq]
    refine hK _ ?_; clear hK K
    refine aw_ret ?_; simp only [go_sem, List.append_toArray, List.range_zero, ↓reduceIte, List.append_eq, Int.toNat_natCast, Nat.reduceAdd, Nat.reduceMul, Nat.reduceSub, Nat.reduceLT, Nat.reduceLeDiff, Nat.reduceEqDiff, Nat.reduceBEq, Int.reduceToNat, Int.reduceLT, Int.reduceLE, Int.reduceAdd, Int.reduceSub, Int.reduceMul, Int.reduceNeg, Int.reduceEq, Try.results11]
  · refine aw_skip ?_; simp only [go_sem, List.append_toArray, List.range_zero, ↓reduceIte, List.append_eq, Int.toNat_natCast, Nat.reduceAdd, Nat.reduceMul, Nat.reduceSub, Nat.reduceLT, Nat.reduceLeDiff, Nat.reduceEqDiff, Nat.reduceBEq, Int.reduceToNat, Int.reduceLT, Int.reduceLE, Int.reduceAdd, Int.reduceSub, Int.reduceMul, Int.reduceNeg, Int.reduceEq]; refine hK1 _ ?_; clear hK1 K1
    simp only [Bool.or_eq_false_iff, Bool.not_eq_false', decide_eq_false_iff_not, beq_eq_false_iff_ne] at hc
    obtain ⟨⟨hs, h4⟩, hx0⟩ := hc
    have hsl := short1 s hs
    have h4' : 4 ≤ s.length := by omega
    have hx : x ≠ 0#32 := by rintro rfl; exact hx0 rfl
    obtain ⟨k, hk, hk4⟩ := place s.length at_ h4' hsl
    refine aw_seq_regionT noTab (noTab_ok _) (fun K hK => ?_); simp only [go_sem, List.append_toArray, List.range_zero, ↓reduceIte, List.append_eq, Int.toNat_natCast, Nat.reduceAdd, Nat.reduceMul, Nat.reduceSub, Nat.reduceLT, Nat.reduceLeDiff, Nat.reduceEqDiff, Nat.reduceBEq, Int.reduceToNat, Int.reduceLT, Int.reduceLE, Int.reduceAdd, Int.reduceSub, Int.reduceMul, Int.reduceNeg, Int.reduceEq, hk]
    refine ⟨?_, hK _ ?_⟩
    · rw [IntKind.wrap_i64, IntKind.wrap_u64]; omega
    clear hK K
    refine aw_seq_regionT noTab (noTab_ok _) (fun K hK => ?_); simp only [go_sem, List.append_toArray, List.range_zero, ↓reduceIte, List.append_eq, Int.toNat_natCast, Nat.reduceAdd, Nat.reduceMul, Nat.reduceSub, Nat.reduceLT, Nat.reduceLeDiff, Nat.reduceEqDiff, Nat.reduceBEq, Int.reduceToNat, Int.reduceLT, Int.reduceLE, Int.reduceAdd, Int.reduceSub, Int.reduceMul, Int.reduceNeg, Int.reduceEq]
    refine hK _ ?_; clear hK K
    refine aw_seq (fun K2 hK2 => ?_)
    refine aw_seq_regionT noTab (noTab_ok _) (fun K hK => ?_); simp only [go_sem, List.append_toArray, List.range_zero, ↓reduceIte, List.append_eq, Int.toNat_natCast, Nat.reduceAdd, Nat.reduceMul, Nat.reduceSub, Nat.reduceLT, Nat.reduceLeDiff, Nat.reduceEqDiff, Nat.reduceBEq, Int.reduceToNat, Int.reduceLT, Int.reduceLE, Int.reduceAdd, Int.reduceSub, Int.reduceMul, Int.reduceNeg, Int.reduceEq]
    refine hK _ ?_; clear hK K
    refine aw_block ?_
    refine aw_loop (fun i : {i : Nat // i ≤ 4} => ⟨[(0, true, .d (.str s)), (2, true, .d (.int .u32 (toI x))), (7, true, .d (.int .i64 k)), (8, true, .osl 1 1 s.length 0 s.length), (34, true, .d (.int .i64 i.1))], [(1, .arr 1 (byteRows (parL s k x i.1)))], some []⟩) (fun i => 4 - i.1) ⟨0, by omega⟩ (by simp only [AS.le, leT, leH, AV.le, AV.leL, AObj.le, inH, idsT, idsH, AV.ids, AV.idsL, AV.idsR, AObj.ids, lk, hget, go_sem, List.append_toArray, List.range_zero, ↓reduceIte, List.append_eq, Int.toNat_natCast, Nat.reduceAdd, Nat.reduceMul, Nat.reduceSub, Nat.reduceLT, Nat.reduceLeDiff, Nat.reduceEqDiff, Nat.reduceBEq, Int.reduceToNat, Int.reduceLT, Int.reduceLE, Int.reduceAdd, Int.reduceSub, Int.reduceMul, Int.reduceNeg, Int.reduceEq]; simp [parL_zero s k x hk4, inH]) (fun i => ?_)
    obtain ⟨i, hi⟩ := i
    refine aw_seq_regionT noTab (noTab_ok _) (fun K hK => ?_); simp only [go_sem, List.append_toArray, List.range_zero, ↓reduceIte, List.append_eq, Int.toNat_natCast, Nat.reduceAdd, Nat.reduceMul, Nat.reduceSub, Nat.reduceLT, Nat.reduceLeDiff, Nat.reduceEqDiff, Nat.reduceBEq, Int.reduceToNat, Int.reduceLT, Int.reduceLE, Int.reduceAdd, Int.reduceSub, Int.reduceMul, Int.reduceNeg, Int.reduceEq]
    refine hK _ ?_; clear hK K
    refine aw_seq (fun K3 hK3 => ?_)
    refine aw_cond rfl (fun hc => ?_) (fun hc => ?_)
    · refine aw_skip ?_; simp only [go_sem, List.append_toArray, List.range_zero, ↓reduceIte, List.append_eq, Int.toNat_natCast, Nat.reduceAdd, Nat.reduceMul, Nat.reduceSub, Nat.reduceLT, Nat.reduceLeDiff, Nat.reduceEqDiff, Nat.reduceBEq, Int.reduceToNat, Int.reduceLT, Int.reduceLE, Int.reduceAdd, Int.reduceSub, Int.reduceMul, Int.reduceNeg, Int.reduceEq]; refine hK3 _ ?_; clear hK3 K3
      have hi4 : i < 4 := by simp at hc; omega
      have hki : k + i < s.length := by omega
      have hkiw : IntKind.i64.wrap ((k : Int) + (i : Int)) = ((k + i : Nat) : Int) := by rw [IntKind.wrap_i64]; omega
      have hml : (byteRows (parL s k x i)).length = s.length := by rw [byteRows_len, parL_len s k x hk4 i (by omega)]
      have hrow : (byteRows (parL s k x i)).getD (k + i) [] = [.int .u8 (s[k + i]'hki).toNat] := by
        simp [byteRows, List.getD_eq_getElem?_getD, parL_get s k x hk4 i hi4, byteRow]
      have hlow := lowB_I x i hi4
      have h8 : IntKind.i64.wrap (8 * (i : Int)) = ((8 * i : Nat) : Int) := by rw [IntKind.wrap_i64]; omega
      have hset : (byteRows (parL s k x i)).set (k + i) [D.int .u8 (s[k + i]'hki ^^^ lowB x i).toNat] = byteRows (parL s k x (i + 1)) := by
        rw [← parL_set s k x hk4 i hi4, ← byteRows_set]
        rfl
      refine aw_seq (fun K4 hK4 => ?_)
      refine aw_block ?_
      refine aw_seq_regionT noTab (noTab_ok _) (fun K hK => ?_); simp only [go_sem, List.append_toArray, List.range_zero, ↓reduceIte, List.append_eq, Int.toNat_natCast, Nat.reduceAdd, Nat.reduceMul, Nat.reduceSub, Nat.reduceLT, Nat.reduceLeDiff, Nat.reduceEqDiff, Nat.reduceBEq, Int.reduceToNat, Int.reduceLT, Int.reduceLE, Int.reduceAdd, Int.reduceSub, Int.reduceMul, Int.reduceNeg, Int.reduceEq]
      refine hK _ ?_; clear hK K
      refine aw_region_draw noTab (noTab_ok _) (by kernel_rfl) (by kernel_rfl) ?_; simp only [go_sem, List.append_toArray, List.range_zero, ↓reduceIte, List.append_eq, Int.toNat_natCast, Nat.reduceAdd, Nat.reduceMul, Nat.reduceSub, Nat.reduceLT, Nat.reduceLeDiff, Nat.reduceEqDiff, Nat.reduceBEq, Int.reduceToNat, Int.reduceLT, Int.reduceLE, Int.reduceAdd, Int.reduceSub, Int.reduceMul, Int.reduceNeg, Int.reduceEq]
      simp only [hkiw, hrow, hml, hlow, hset, Nat.zero_add, xor8, go_sem, List.append_eq, Int.toNat_natCast]
      refine ⟨⟨by omega, by omega⟩, hki, by rw [h8]; omega, ⟨by omega, by omega⟩, hki, hK4 _ ?_⟩
      clear hK4 K4
      refine aw_regionT noTab (noTab_ok _) ?_; simp only [go_sem, List.append_toArray, List.range_zero, ↓reduceIte, List.append_eq, Int.toNat_natCast, Nat.reduceAdd, Nat.reduceMul, Nat.reduceSub, Nat.reduceLT, Nat.reduceLeDiff, Nat.reduceEqDiff, Nat.reduceBEq, Int.reduceToNat, Int.reduceLT, Int.reduceLE, Int.reduceAdd, Int.reduceSub, Int.reduceMul, Int.reduceNeg, Int.reduceEq]
      have hw : IntKind.i64.wrap ((i : Int) + 1) = ((i + 1 : Nat) : Int) := by rw [IntKind.wrap_i64]; omega
      refine ⟨⟨i + 1, by omega⟩, ?_, by simp; omega⟩
      rw [hw]
      simp only [AS.le, leT, leH, AV.le, AV.leL, AObj.le, inH, idsT, idsH, AV.ids, AV.idsL, AV.idsR, AObj.ids, lk, hget, go_sem, List.append_toArray, List.range_zero, ↓reduceIte, List.append_eq, Int.toNat_natCast, Nat.reduceAdd, Nat.reduceMul, Nat.reduceSub, Nat.reduceLT, Nat.reduceLeDiff, Nat.reduceEqDiff, Nat.reduceBEq, Int.reduceToNat, Int.reduceLT, Int.reduceLE, Int.reduceAdd, Int.reduceSub, Int.reduceMul, Int.reduceNeg, Int.reduceEq]
    · refine aw_exit ?_; simp only [go_sem, List.append_toArray, List.range_zero, ↓reduceIte, List.append_eq, Int.toNat_natCast, Nat.reduceAdd, Nat.reduceMul, Nat.reduceSub, Nat.reduceLT, Nat.reduceLeDiff, Nat.reduceEqDiff, Nat.reduceBEq, Int.reduceToNat, Int.reduceLT, Int.reduceLE, Int.reduceAdd, Int.reduceSub, Int.reduceMul, Int.reduceNeg, Int.reduceEq]; refine hK2 _ ?_
      have hi4 : i = 4 := by simp at hc; omega
      subst hi4
      have hall := bytes_allByte (parL s k x 4)
      have hof := bytesOf_byteRows (parL s k x 4)
      have hbl2 : (byteRows (parL s k x 4)).length = s.length := by rw [byteRows_len, parL_len s k x hk4 4 (by omega)]
      have htk : (byteRows (parL s k x 4)).take s.length = byteRows (parL s k x 4) := List.take_of_length_le (by omega)
      have hne := parts_ne s k x hk4 hx
      refine aw_seq_region_draw tabQ (tabQ_ok) (by kernel_rfl) (by kernel_rfl) (fun K hK => ?_); simp only [go_sem, List.append_toArray, List.range_zero, ↓reduceIte, List.append_eq, Int.toNat_natCast, Nat.reduceAdd, Nat.reduceMul, Nat.reduceSub, Nat.reduceLT, Nat.reduceLeDiff, Nat.reduceEqDiff, Nat.reduceBEq, Int.reduceToNat, Int.reduceLT, Int.reduceLE, Int.reduceAdd, Int.reduceSub, Int.reduceMul, Int.reduceNeg, Int.reduceEq]
      simp only [hbl2, htk, hall, hof, hne, Nat.zero_add, List.drop_zero, go_sem, List.append_eq, Nat.le_refl]
      refine ⟨by omega, by rw [parL_len s k x hk4 4 (by omega)]; omega, hK _ ?_⟩
      clear hK K
      refine aw_ret ?_; simp only [go_sem, List.append_toArray, List.range_zero, ↓reduceIte, List.append_eq, Int.toNat_natCast, Nat.reduceAdd, Nat.reduceMul, Nat.reduceSub, Nat.reduceLT, Nat.reduceLeDiff, Nat.reduceEqDiff, Nat.reduceBEq, Int.reduceToNat, Int.reduceLT, Int.reduceLE, Int.reduceAdd, Int.reduceSub, Int.reduceMul, Int.reduceNeg, Int.reduceEq, Try.results11]
end Go.Aw
