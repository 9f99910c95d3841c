/-
  The law CrcBytes: the walk.
-/
import Derived.Test.YtoofpcploeanpaaCrcB
namespace Go.Aw
set_option maxRecDepth 100000
set_option linter.unusedSimpArgs false
set_option linter.unusedVariables false
open Go Go.Proofs

theorem ibits_or_nat (a b : Nat) (ha : a < 4294967296) (hb : b < 4294967296) : ibits .or .u32 (a : Int) (b : Int) = ((a ||| b : Nat) : Int) := by
  have hab : a ||| b < 4294967296 := Nat.or_lt_two_pow (n := 32) ha hb
  unfold ibits
  simp only [show IntKind.u32.bits = 32 from rfl, BitVec.ofInt_natCast, BitVec.toNat_or, BitVec.toNat_ofNat]
  rw [Nat.mod_eq_of_lt (by omega), Nat.mod_eq_of_lt (by omega), IntKind.wrap_u32]
  omega

theorem sh1 (p : Nat) : p * 16777216 = p <<< 24 := by simp only [Nat.shiftLeft_eq, Nat.reducePow]
theorem sh2 (p q : Nat) : p <<< 24 + q * 65536 = (p * 256 + q) <<< 16 := by
  simp only [Nat.shiftLeft_eq, Nat.reducePow]
  omega
theorem sh3 (p q r : Nat) : (p * 256 + q) <<< 16 + r * 256 = (p * 65536 + q * 256 + r) <<< 8 := by
  simp only [Nat.shiftLeft_eq, Nat.reducePow]
  omega

theorem four (n : Nat) (hn : n < 4294967296) : (((n / 16777216 % 256 * 16777216 ||| n / 65536 % 256 * 65536) ||| n / 256 % 256 * 256) ||| n % 256) = n := by
  rw [sh1, ← Nat.shiftLeft_add_eq_or_of_lt (i := 24) (by omega), sh2, ← Nat.shiftLeft_add_eq_or_of_lt (i := 16) (by omega), sh3, ← Nat.shiftLeft_add_eq_or_of_lt (i := 8) (by omega)]
  simp only [Nat.shiftLeft_eq, Nat.reducePow]
  omega

theorem ishr_nat (n k : Nat) (hk : k ≤ 32) : ishr .u32 (n : Int) (k : Int) = ((n / 2 ^ k : Nat) : Int) := by
  unfold ishr
  rw [show min ((k : Int).toNat) IntKind.u32.bits = k by show min ((k : Int).toNat) 32 = k; omega]
  rw [Int.fdiv_eq_ediv_of_nonneg _ (Int.le_of_lt (Int.pow_pos (by decide)))]
  norm_cast

theorem byteAt_nat (n : Nat) (j : Nat) (hj : j ≤ 3) : byteAt n j = ((n / 2 ^ (24 - 8 * j) % 256 : Nat) : Int) := by
  unfold byteAt
  rw [show IntKind.i64.wrap (24 - IntKind.i64.wrap (8 * (j : Int))) = ((24 - 8 * j : Nat) : Int) by simp only [IntKind.wrap_i64]; omega, ishr_nat n _ (by omega), IntKind.wrap_u8]
  omega

theorem u8_back (k : Nat) (hk : k < 256) : ((UInt8.ofNat ((k : Nat) : Int).toNat).toNat : Int) = (k : Int) := by
  simp
  omega

theorem notnot (c : Int) (h0 : 0 ≤ c) (h1 : c ≤ 4294967295) : notS (notS c) = c := by
  obtain ⟨n, rfl⟩ : ∃ n : Nat, c = n := ⟨c.toNat, by omega⟩
  have hn : ∀ m : Nat, m < 4294967296 → notS (m : Int) = ((4294967295 - m : Nat) : Int) := by
    intro m hm
    unfold notS ibits
    rw [show (if IntKind.u32.signed = true then (-1 : Int) else IntKind.u32.max) = 4294967295 from rfl]
    have e : (BitVec.ofInt 32 4294967295 ^^^ BitVec.ofInt 32 (m : Int)).toNat = 4294967295 - m := by
      have : BitVec.ofInt 32 4294967295 = BitVec.allOnes 32 := by decide
      rw [this, BitVec.allOnes_xor, BitVec.ofInt_natCast, BitVec.toNat_not, BitVec.toNat_ofNat]
      omega
    show IntKind.u32.wrap ((BitVec.ofInt 32 4294967295 ^^^ BitVec.ofInt 32 (m : Int)).toNat : Int) = _
    rw [e, IntKind.wrap_u32]
    omega
  rw [hn n (by omega), hn _ (by omega)]
  omega

theorem shl_nat (k s : Nat) (hs : s ≤ 32) (h : k * 2 ^ s < 4294967296) : ishl .u32 (k : Int) (s : Int) = ((k * 2 ^ s : Nat) : Int) := by
  unfold ishl
  rw [show min ((s : Int).toNat) IntKind.u32.bits = s by show min ((s : Int).toNat) 32 = s; omega, IntKind.wrap_u32]
  have : (k : Int) * 2 ^ s = ((k * 2 ^ s : Nat) : Int) := by norm_cast
  rw [this]
  omega

theorem bytes_back (c : Int) (h0 : 0 ≤ c) (h1 : c ≤ 4294967295) : ibits .or .u32 (ibits .or .u32 (ibits .or .u32 (ishl .u32 (IntKind.u32.wrap ((bytesS c).getD 0 0).toNat) 24) (ishl .u32 (IntKind.u32.wrap ((bytesS c).getD 1 0).toNat) 16)) (ishl .u32 (IntKind.u32.wrap ((bytesS c).getD 2 0).toNat) 8)) (IntKind.u32.wrap ((bytesS c).getD 3 0).toNat) = c := by
  obtain ⟨n, rfl⟩ : ∃ n : Nat, c = n := ⟨c.toNat, by omega⟩
  have g : ∀ j, j ≤ 3 → ((UInt8.ofNat (byteAt n j).toNat).toNat : Int) = ((n / 2 ^ (24 - 8 * j) % 256 : Nat) : Int) := fun j hj => by
    rw [byteAt_nat n j hj]; exact u8_back _ (Nat.mod_lt _ (by decide))
  have w : ∀ k : Nat, k < 256 → IntKind.u32.wrap (k : Int) = (k : Int) := fun k hk => by rw [IntKind.wrap_u32]; omega
  simp only [bytesS, List.getD_cons_zero, List.getD_cons_succ, g 0 (by omega), g 1 (by omega), g 2 (by omega), g 3 (by omega)]
  simp only [Nat.reduceMul, Nat.reduceSub, Nat.reducePow, Nat.div_one]
  rw [w _ (Nat.mod_lt _ (by decide)), w _ (Nat.mod_lt _ (by decide)), w _ (Nat.mod_lt _ (by decide)), w _ (Nat.mod_lt _ (by decide))]
  have a0 := shl_nat (n / 16777216 % 256) 24 (by omega) (by simp only [Nat.reducePow]; omega)
  have a1 := shl_nat (n / 65536 % 256) 16 (by omega) (by simp only [Nat.reducePow]; omega)
  have a2 := shl_nat (n / 256 % 256) 8 (by omega) (by simp only [Nat.reducePow]; omega)
  simp only [Nat.reducePow] at a0 a1 a2
  have b0 : ((24 : Nat) : Int) = 24 := rfl
  rw [show ((24 : Nat) : Int) = 24 from rfl] at a0
  rw [show ((16 : Nat) : Int) = 16 from rfl] at a1
  rw [show ((8 : Nat) : Int) = 8 from rfl] at a2
  rw [a0, a1, a2, ibits_or_nat _ _ (by omega) (by omega), ibits_or_nat _ _ (Nat.or_lt_two_pow (n := 32) (by omega) (by omega)) (by omega), ibits_or_nat _ _ (Nat.or_lt_two_pow (n := 32) (Nat.or_lt_two_pow (n := 32) (by omega) (by omega)) (by omega)) (by omega)]
  rw [four n (by omega)]

theorem crcBytes_law (c : Int) (h0 : 0 ≤ c) (h1 : c ≤ 4294967295) : ACall Try.prog 13 0 [.d (.int .u32 c)] [] (fun r _ => r = .d (.bool true)) := by
  refine acall_of_body Try.func13 rfl (enters Try.func13 (by kernel_rfl) rfl) Try.ntmps13 (by simp) (fun base => ?_)
  refine aw_seq_regionT noTab (noTab_ok _) (fun K hK => ?_); simp only [go_sem, List.append_toArray, List.range_zero, ↓reduceIte, List.append_eq, Int.toNat_natCast, Nat.reduceAdd, Nat.reduceMul, Nat.reduceSub, Nat.reduceLT, Nat.reduceLeDiff, Nat.reduceEqDiff, Nat.reduceBEq, Int.reduceToNat, Int.reduceLT, Int.reduceLE, Int.reduceAdd, Int.reduceSub, Int.reduceMul, Int.reduceNeg, Int.reduceEq]
  refine hK _ ?_; clear hK K
  refine aw_seq_regionT tabO tabO_ok (fun K hK => ?_); simp only [go_sem, List.append_toArray, List.range_zero, ↓reduceIte, List.append_eq, Int.toNat_natCast, Nat.reduceAdd, Nat.reduceMul, Nat.reduceSub, Nat.reduceLT, Nat.reduceLeDiff, Nat.reduceEqDiff, Nat.reduceBEq, Int.reduceToNat, Int.reduceLT, Int.reduceLE, Int.reduceAdd, Int.reduceSub, Int.reduceMul, Int.reduceNeg, Int.reduceEq]
  refine hK _ ?_; clear hK K
  refine aw_seq (fun K1 hK1 => ?_)
  refine aw_seq_regionT noTab (noTab_ok _) (fun K hK => ?_); simp only [go_sem, List.append_toArray, List.range_zero, ↓reduceIte, List.append_eq, Int.toNat_natCast, Nat.reduceAdd, Nat.reduceMul, Nat.reduceSub, Nat.reduceLT, Nat.reduceLeDiff, Nat.reduceEqDiff, Nat.reduceBEq, Int.reduceToNat, Int.reduceLT, Int.reduceLE, Int.reduceAdd, Int.reduceSub, Int.reduceMul, Int.reduceNeg, Int.reduceEq]
  refine hK _ ?_; clear hK K
  refine aw_cond rfl (fun hc => ?_) (fun hc => ?_)
  · simp [bytesS] at hc
  · refine aw_skip ?_; simp only [go_sem, List.append_toArray, List.range_zero, ↓reduceIte, List.append_eq, Int.toNat_natCast, Nat.reduceAdd, Nat.reduceMul, Nat.reduceSub, Nat.reduceLT, Nat.reduceLeDiff, Nat.reduceEqDiff, Nat.reduceBEq, Int.reduceToNat, Int.reduceLT, Int.reduceLE, Int.reduceAdd, Int.reduceSub, Int.reduceMul, Int.reduceNeg, Int.reduceEq]; refine hK1 _ ?_; clear hK1 K1
    refine aw_seq_region_draw tabO (tabO_ok) (by kernel_rfl) (by kernel_rfl) (fun K hK => ?_); simp only [go_sem, List.append_toArray, List.range_zero, ↓reduceIte, List.append_eq, Int.toNat_natCast, Nat.reduceAdd, Nat.reduceMul, Nat.reduceSub, Nat.reduceLT, Nat.reduceLeDiff, Nat.reduceEqDiff, Nat.reduceBEq, Int.reduceToNat, Int.reduceLT, Int.reduceLE, Int.reduceAdd, Int.reduceSub, Int.reduceMul, Int.reduceNeg, Int.reduceEq]
    have hl : ((bytesS c).length : Int) = 4 := rfl
    refine ⟨by omega, by omega, by omega, by omega, hK _ ?_⟩
    clear hK
    refine aw_ret ?_; simp only [go_sem, List.append_toArray, List.range_zero, ↓reduceIte, List.append_eq, Int.toNat_natCast, Nat.reduceAdd, Nat.reduceMul, Nat.reduceSub, Nat.reduceLT, Nat.reduceLeDiff, Nat.reduceEqDiff, Nat.reduceBEq, Int.reduceToNat, Int.reduceLT, Int.reduceLE, Int.reduceAdd, Int.reduceSub, Int.reduceMul, Int.reduceNeg, Int.reduceEq, Try.results13]
    rw [bytes_back c h0 h1]
    have : sumOf c [] = c := notnot c h0 h1
    rw [this]
    simp
end Go.Aw
