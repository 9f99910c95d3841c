/-
  The law CrcLinear.
-/
import Derived.Test.YtoofpcploeanpaaCrcL10
namespace Go.Aw
set_option maxRecDepth 100000
set_option linter.unusedSimpArgs false
set_option linter.unusedVariables false
open Go Go.Proofs

theorem imin_nat (a b : Nat) : imin (a : Int) (b : Int) = ((min a b : Nat) : Int) := by
  unfold imin
  split <;> omega

/-- The first i bytes are others by now. -/
def mixL (X a : List UInt8) (i : Nat) : List UInt8 := X.take i ++ a.drop i
theorem mixL_len (X a : List UInt8) (h : X.length = a.length) (i : Nat) (hi : i ≤ a.length) : (mixL X a i).length = a.length := by
  simp [mixL]; omega
theorem mixL_get (X a : List UInt8) (h : X.length = a.length) (i : Nat) (hi : i ≤ a.length) : (mixL X a i)[i]? = a[i]? := by
  unfold mixL
  rw [List.getElem?_append_right (by simp; omega), List.getElem?_drop]
  congr 1
  simp; omega
theorem mixL_set (X a : List UInt8) (h : X.length = a.length) (i : Nat) (hi : i < a.length) : (mixL X a i).set i (X[i]'(by omega)) = mixL X a (i + 1) := by
  unfold mixL
  have h1 : (X.take i).length = i := by simp; omega
  rw [List.set_append_right i _ (by omega), h1, Nat.sub_self, List.take_add_one (i := i) (l := X), List.getElem?_eq_getElem (by omega)]
  obtain ⟨x, r, e⟩ : ∃ x r, a.drop i = x :: r := by
    cases hd : a.drop i with
    | nil => have := congrArg List.length hd; simp at this; omega
    | cons x r => exact ⟨x, r, rfl⟩
  have e2 : a.drop (i + 1) = r := by rw [← List.drop_drop, e]; rfl
  rw [e, e2, List.set_cons_zero, Option.toList_some, List.append_assoc, List.singleton_append]

theorem byteRows_set (l : List UInt8) (i : Nat) (b : UInt8) : (byteRows l).set i (byteRow b) = byteRows (l.set i b) := by
  simp [byteRows, List.map_set]
theorem byteRows_len (l : List UInt8) : (byteRows l).length = l.length := by simp [byteRows]
theorem bytes_allByte (l : List UInt8) : (byteRows l).all isByte = true := by
  simp [byteRows, byteRow, isByte, List.all_map]
theorem bytesOf_byteRows (l : List UInt8) : bytesOf (byteRows l) = l := by
  unfold bytesOf byteRows
  rw [List.map_map]
  have : ((fun r => UInt8.ofNat (numOf r).toNat) ∘ byteRow) = id := by
    funext b; simp [byteRow, numOf]
  rw [this, List.map_id]

theorem xor8 (x y : UInt8) : ibits .xor .u8 (x.toNat : Int) (y.toNat : Int) = ((x ^^^ y).toNat : Int) := by
  have hx := x.toNat_lt
  have hy := y.toNat_lt
  have h2 := Nat.xor_lt_two_pow (n := 8) (x := x.toNat) (y := y.toNat) (by omega) (by omega)
  show IntKind.u8.wrap ((BitVec.ofInt 8 ((x.toNat : Nat) : Int) ^^^ BitVec.ofInt 8 ((y.toNat : Nat) : Int)).toNat : Int) = _
  rw [BitVec.ofInt_natCast, BitVec.ofInt_natCast, BitVec.toNat_xor, BitVec.toNat_ofNat, BitVec.toNat_ofNat, Nat.mod_eq_of_lt (show x.toNat < 2 ^ 8 by omega), Nat.mod_eq_of_lt (show y.toNat < 2 ^ 8 by omega), IntKind.wrap_u8, UInt8.toNat_xor]
  omega

theorem xor3_get (a b c : List UInt8) (m i : Nat) (him : i < m) (h1 : i < a.length) (h2 : i < b.length) (h3 : i < c.length) : (xorL (xorL (a.take m) (b.take m)) (c.take m))[i]? = some (a[i] ^^^ (b[i] ^^^ c[i])) := by
  simp only [xorL, List.getElem?_zipWith, List.getElem?_take, if_pos him, List.getElem?_eq_getElem h1, List.getElem?_eq_getElem h2, List.getElem?_eq_getElem h3]
  rw [UInt8.xor_assoc]

theorem crcLinear_law (a b c : List UInt8) : ACall Try.prog 12 0 [.d (.str a), .d (.str b), .d (.str c)] [] (fun r _ => r = .d (.bool true)) := by
  obtain ⟨m, hm⟩ : ∃ m : Nat, m = min (min a.length b.length) c.length := ⟨_, rfl⟩
  have hmi : imin (imin (a.length : Int) b.length) c.length = (m : Int) := by rw [imin_nat, imin_nat, hm]
  have ha : m ≤ a.length := by omega
  have hb : m ≤ b.length := by omega
  have hcl : m ≤ c.length := by omega
  refine acall_of_body Try.func12 rfl (enters Try.func12 (by kernel_rfl) rfl) Try.ntmps12 (by simp) (fun base => ?_)
  refine aw_seq_regionT noTab (noTab_ok _) (fun K hK => ?_); simp only [go_sem, List.append_toArray, List.range_zero, ↓reduceIte, List.append_eq, Int.toNat_natCast, Nat.reduceAdd, Nat.reduceMul, Nat.reduceSub, Nat.reduceLT, Nat.reduceLeDiff, Nat.reduceEqDiff, Nat.reduceBEq, Int.reduceToNat, Int.reduceLT, Int.reduceLE, Int.reduceAdd, Int.reduceSub, Int.reduceMul, Int.reduceNeg, Int.reduceEq]
  refine hK _ ?_; clear hK K
  refine aw_seq_regionT noTab (noTab_ok _) (fun K hK => ?_); simp only [go_sem, List.append_toArray, List.range_zero, ↓reduceIte, List.append_eq, Int.toNat_natCast, Nat.reduceAdd, Nat.reduceMul, Nat.reduceSub, Nat.reduceLT, Nat.reduceLeDiff, Nat.reduceEqDiff, Nat.reduceBEq, Int.reduceToNat, Int.reduceLT, Int.reduceLE, Int.reduceAdd, Int.reduceSub, Int.reduceMul, Int.reduceNeg, Int.reduceEq, hmi]
  refine hK _ ?_; clear hK K
  refine aw_seq (fun K1 hK1 => ?_)
  refine aw_seq_regionT noTab (noTab_ok _) (fun K hK => ?_); simp only [go_sem, List.append_toArray, List.range_zero, ↓reduceIte, List.append_eq, Int.toNat_natCast, Nat.reduceAdd, Nat.reduceMul, Nat.reduceSub, Nat.reduceLT, Nat.reduceLeDiff, Nat.reduceEqDiff, Nat.reduceBEq, Int.reduceToNat, Int.reduceLT, Int.reduceLE, Int.reduceAdd, Int.reduceSub, Int.reduceMul, Int.reduceNeg, Int.reduceEq]
  refine hK _ ?_; clear hK K
  refine aw_cond rfl (fun hc => ?_) (fun hc => ?_)
  · refine aw_seq_regionT tabQ tabQ_ok (fun K hK => ?_); simp only [go_sem, List.append_toArray, List.range_zero, ↓reduceIte, List.append_eq, Int.toNat_natCast, Nat.reduceAdd, Nat.reduceMul, Nat.reduceSub, Nat.reduceLT, Nat.reduceLeDiff, Nat.reduceEqDiff, Nat.reduceBEq, Int.reduceToNat, Int.reduceLT, Int.reduceLE, Int.reduceAdd, Int.reduceSub, Int.reduceMul, Int.reduceNeg, Int.reduceEq]
    refine hK _ ?_; clear hK K
    refine aw_ret ?_; simp only [go_sem, List.append_toArray, List.range_zero, ↓reduceIte, List.append_eq, Int.toNat_natCast, Nat.reduceAdd, Nat.reduceMul, Nat.reduceSub, Nat.reduceLT, Nat.reduceLeDiff, Nat.reduceEqDiff, Nat.reduceBEq, Int.reduceToNat, Int.reduceLT, Int.reduceLE, Int.reduceAdd, Int.reduceSub, Int.reduceMul, Int.reduceNeg, Int.reduceEq, Try.results12]
  · refine aw_skip ?_; simp only [go_sem, List.append_toArray, List.range_zero, ↓reduceIte, List.append_eq, Int.toNat_natCast, Nat.reduceAdd, Nat.reduceMul, Nat.reduceSub, Nat.reduceLT, Nat.reduceLeDiff, Nat.reduceEqDiff, Nat.reduceBEq, Int.reduceToNat, Int.reduceLT, Int.reduceLE, Int.reduceAdd, Int.reduceSub, Int.reduceMul, Int.reduceNeg, Int.reduceEq]; refine hK1 _ ?_; clear hK1 K1
    have hm2 : m ≤ 20000 := by simp at hc; omega
    obtain ⟨X, hX⟩ : ∃ X, X = xorL (xorL (a.take m) (b.take m)) (c.take m) := ⟨_, rfl⟩
    have hXl : X.length = (a.take m).length := by rw [hX]; simp [xorL]; omega
    have hal : (a.take m).length = m := by simp; omega
    refine aw_seq_regionT noTab (noTab_ok _) (fun K hK => ?_); simp only [go_sem, List.append_toArray, List.range_zero, ↓reduceIte, List.append_eq, Int.toNat_natCast, Nat.reduceAdd, Nat.reduceMul, Nat.reduceSub, Nat.reduceLT, Nat.reduceLeDiff, Nat.reduceEqDiff, Nat.reduceBEq, Int.reduceToNat, Int.reduceLT, Int.reduceLE, Int.reduceAdd, Int.reduceSub, Int.reduceMul, Int.reduceNeg, Int.reduceEq, hal, List.drop_zero]
    refine ⟨⟨by omega, by omega⟩, hK _ ?_⟩
    clear hK K
    refine aw_seq (fun K2 hK2 => ?_)
    refine aw_seq_regionT noTab (noTab_ok _) (fun K hK => ?_); simp only [go_sem, List.append_toArray, List.range_zero, ↓reduceIte, List.append_eq, Int.toNat_natCast, Nat.reduceAdd, Nat.reduceMul, Nat.reduceSub, Nat.reduceLT, Nat.reduceLeDiff, Nat.reduceEqDiff, Nat.reduceBEq, Int.reduceToNat, Int.reduceLT, Int.reduceLE, Int.reduceAdd, Int.reduceSub, Int.reduceMul, Int.reduceNeg, Int.reduceEq, byteRows_len, hal]
    refine hK _ ?_; clear hK K
    refine aw_block ?_
    refine aw_loop (fun i : {i : Nat // i ≤ m} => ⟨[(0, true, .d (.str a)), (1, true, .d (.str b)), (2, true, .d (.str c)), (7, true, .d (.int .i64 m)), (8, true, .osl 0 1 m 0 m), (25, true, .d (.int .i64 m)), (26, true, .d (.int .i64 i.1))], [(0, .arr 1 (byteRows (mixL X (a.take m) i.1)))], some []⟩) (fun i => m - i.1) ⟨0, by omega⟩ (by simp only [AS.le, leT, leH, AV.le, AV.leL, AObj.le, inH, idsT, idsH, AV.ids, AV.idsL, AV.idsR, AObj.ids, lk, hget, go_sem, List.append_toArray, List.range_zero, ↓reduceIte, List.append_eq, Int.toNat_natCast, Nat.reduceAdd, Nat.reduceMul, Nat.reduceSub, Nat.reduceLT, Nat.reduceLeDiff, Nat.reduceEqDiff, Nat.reduceBEq, Int.reduceToNat, Int.reduceLT, Int.reduceLE, Int.reduceAdd, Int.reduceSub, Int.reduceMul, Int.reduceNeg, Int.reduceEq]; simp [mixL, inH]) (fun i => ?_)
    obtain ⟨i, hi⟩ := i
    refine aw_seq_regionT noTab (noTab_ok _) (fun K hK => ?_); simp only [go_sem, List.append_toArray, List.range_zero, ↓reduceIte, List.append_eq, Int.toNat_natCast, Nat.reduceAdd, Nat.reduceMul, Nat.reduceSub, Nat.reduceLT, Nat.reduceLeDiff, Nat.reduceEqDiff, Nat.reduceBEq, Int.reduceToNat, Int.reduceLT, Int.reduceLE, Int.reduceAdd, Int.reduceSub, Int.reduceMul, Int.reduceNeg, Int.reduceEq]
    refine hK _ ?_; clear hK K
    refine aw_seq (fun K3 hK3 => ?_)
    refine aw_cond rfl (fun hc => ?_) (fun hc => ?_)
    · refine aw_skip ?_; simp only [go_sem, List.append_toArray, List.range_zero, ↓reduceIte, List.append_eq, Int.toNat_natCast, Nat.reduceAdd, Nat.reduceMul, Nat.reduceSub, Nat.reduceLT, Nat.reduceLeDiff, Nat.reduceEqDiff, Nat.reduceBEq, Int.reduceToNat, Int.reduceLT, Int.reduceLE, Int.reduceAdd, Int.reduceSub, Int.reduceMul, Int.reduceNeg, Int.reduceEq]; refine hK3 _ ?_; clear hK3 K3
      have him : i < m := by simp at hc; omega
      have hai : i < a.length := by omega
      have hml : (byteRows (mixL X (a.take m) i)).length = m := by rw [byteRows_len, mixL_len X _ hXl i (by omega), hal]
      have hrow : (byteRows (mixL X (a.take m) i)).getD i [] = [.int .u8 (a[i]'hai).toNat] := by
        have := mixL_get X (a.take m) hXl i (by omega)
        rw [List.getElem?_take, if_pos him, List.getElem?_eq_getElem hai] at this
        simp [byteRows, List.getD_eq_getElem?_getD, this, byteRow]
      have hbi : b.getD i 0 = b[i]'(by omega) := by simp [List.getD_eq_getElem?_getD, List.getElem?_eq_getElem (show i < b.length by omega)]
      have hci : c.getD i 0 = c[i]'(by omega) := by simp [List.getD_eq_getElem?_getD, List.getElem?_eq_getElem (show i < c.length by omega)]
      refine aw_seq (fun K4 hK4 => ?_)
      refine aw_block ?_
      refine aw_seq_regionT noTab (noTab_ok _) (fun K hK => ?_); simp only [go_sem, List.append_toArray, List.range_zero, ↓reduceIte, List.append_eq, Int.toNat_natCast, Nat.reduceAdd, Nat.reduceMul, Nat.reduceSub, Nat.reduceLT, Nat.reduceLeDiff, Nat.reduceEqDiff, Nat.reduceBEq, Int.reduceToNat, Int.reduceLT, Int.reduceLE, Int.reduceAdd, Int.reduceSub, Int.reduceMul, Int.reduceNeg, Int.reduceEq]
      refine hK _ ?_; clear hK K
      refine aw_region_draw noTab (noTab_ok _) (by kernel_rfl) (by kernel_rfl) ?_; simp only [go_sem, List.append_toArray, List.range_zero, ↓reduceIte, List.append_eq, Int.toNat_natCast, Nat.reduceAdd, Nat.reduceMul, Nat.reduceSub, Nat.reduceLT, Nat.reduceLeDiff, Nat.reduceEqDiff, Nat.reduceBEq, Int.reduceToNat, Int.reduceLT, Int.reduceLE, Int.reduceAdd, Int.reduceSub, Int.reduceMul, Int.reduceNeg, Int.reduceEq]
      simp only [hrow, hml, hbi, hci, Nat.zero_add, xor8, go_sem, List.append_eq, Int.toNat_natCast]
      have hXi : X[i]'(by omega) = a[i] ^^^ (b[i]'(by omega) ^^^ c[i]'(by omega)) := by
        have this := xor3_get a b c m i him hai (by omega) (by omega)
        rw [← hX] at this
        rw [List.getElem?_eq_getElem (by omega)] at this
        exact Option.some.inj this
      have hset : (byteRows (mixL X (a.take m) i)).set i [D.int .u8 (a[i] ^^^ (b[i]'(by omega) ^^^ c[i]'(by omega))).toNat] = byteRows (mixL X (a.take m) (i + 1)) := by
        rw [← hXi, ← mixL_set X (a.take m) hXl i (by omega), ← byteRows_set]
        rfl
      rw [hset]
      refine ⟨⟨by omega, by omega⟩, him, ⟨by omega, by omega⟩, ⟨by omega, by omega⟩, ⟨by omega, by omega⟩, him, hK4 _ ?_⟩
      clear hK4 K4
      refine aw_regionT noTab (noTab_ok _) ?_; simp only [go_sem, List.append_toArray, List.range_zero, ↓reduceIte, List.append_eq, Int.toNat_natCast, Nat.reduceAdd, Nat.reduceMul, Nat.reduceSub, Nat.reduceLT, Nat.reduceLeDiff, Nat.reduceEqDiff, Nat.reduceBEq, Int.reduceToNat, Int.reduceLT, Int.reduceLE, Int.reduceAdd, Int.reduceSub, Int.reduceMul, Int.reduceNeg, Int.reduceEq]
      have hw : IntKind.i64.wrap ((i : Int) + 1) = ((i + 1 : Nat) : Int) := by rw [IntKind.wrap_i64]; omega
      refine ⟨⟨i + 1, by omega⟩, ?_, by simp; omega⟩
      rw [hw]
      simp only [AS.le, leT, leH, AV.le, AV.leL, AObj.le, inH, idsT, idsH, AV.ids, AV.idsL, AV.idsR, AObj.ids, lk, hget, go_sem, List.append_toArray, List.range_zero, ↓reduceIte, List.append_eq, Int.toNat_natCast, Nat.reduceAdd, Nat.reduceMul, Nat.reduceSub, Nat.reduceLT, Nat.reduceLeDiff, Nat.reduceEqDiff, Nat.reduceBEq, Int.reduceToNat, Int.reduceLT, Int.reduceLE, Int.reduceAdd, Int.reduceSub, Int.reduceMul, Int.reduceNeg, Int.reduceEq]
    · refine aw_exit ?_; simp only [go_sem, List.append_toArray, List.range_zero, ↓reduceIte, List.append_eq, Int.toNat_natCast, Nat.reduceAdd, Nat.reduceMul, Nat.reduceSub, Nat.reduceLT, Nat.reduceLeDiff, Nat.reduceEqDiff, Nat.reduceBEq, Int.reduceToNat, Int.reduceLT, Int.reduceLE, Int.reduceAdd, Int.reduceSub, Int.reduceMul, Int.reduceNeg, Int.reduceEq]; refine hK2 _ ?_
      have him : i = m := by simp at hc; omega
      subst him
      have hfin : mixL X (a.take i) i = X := by
        unfold mixL
        rw [List.take_of_length_le (by omega), List.drop_eq_nil_of_le (by omega), List.append_nil]
      rw [hfin]
      have hbl : (b.take i).length = i := by simp; omega
      have hcl2 : (c.take i).length = i := by simp; omega
      have hxl : X.length = i := by omega
      have hx3 : ibits .xor .u32 (ibits .xor .u32 (sumOf 0 (a.take i)) (sumOf 0 (b.take i))) (sumOf 0 (c.take i)) = sumOf 0 X := by
        rw [hX]; exact three _ _ _ (by omega) (by omega)
      have hall := bytes_allByte X
      have hof := bytesOf_byteRows X
      have hbl2 : (byteRows X).length = i := by rw [byteRows_len, hxl]
      have htk : (byteRows X).take i = byteRows X := List.take_of_length_le (by omega)
      refine aw_seq_region_draw tabQ (tabQ_ok) (by kernel_rfl) (by kernel_rfl) (fun K hK => ?_); simp only [go_sem, List.append_toArray, List.range_zero, ↓reduceIte, List.append_eq, Int.toNat_natCast, Nat.reduceAdd, Nat.reduceMul, Nat.reduceSub, Nat.reduceLT, Nat.reduceLeDiff, Nat.reduceEqDiff, Nat.reduceBEq, Int.reduceToNat, Int.reduceLT, Int.reduceLE, Int.reduceAdd, Int.reduceSub, Int.reduceMul, Int.reduceNeg, Int.reduceEq]
      simp only [hbl2, htk, hall, hof, hx3, Nat.zero_add, List.drop_zero, go_sem, List.append_eq, Nat.le_refl]
      refine ⟨⟨by omega, by omega⟩, by omega, ⟨by omega, by omega⟩, by omega, ⟨by omega, by omega⟩, by omega, by omega, hK _ ?_⟩
      clear hK K
      refine aw_ret ?_; simp only [go_sem, List.append_toArray, List.range_zero, ↓reduceIte, List.append_eq, Int.toNat_natCast, Nat.reduceAdd, Nat.reduceMul, Nat.reduceSub, Nat.reduceLT, Nat.reduceLeDiff, Nat.reduceEqDiff, Nat.reduceBEq, Int.reduceToNat, Int.reduceLT, Int.reduceLE, Int.reduceAdd, Int.reduceSub, Int.reduceMul, Int.reduceNeg, Int.reduceEq, Try.results12]
end Go.Aw
