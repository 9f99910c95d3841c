/-
  Sums, in plain bits: one bit's step is linear and one to one; a sum is linear in the text and the state; the table's way and the bits' way are one.
-/
import Derived.Test.YtoofpcploeanpaaCrcL9
namespace Go.Aw
set_option maxRecDepth 100000
set_option linter.unusedSimpArgs false
set_option linter.unusedVariables false
open Go Go.Proofs

abbrev B32 := BitVec 32
def polyB : B32 := 2197175160#32
def bT (x : B32) : B32 := (x >>> 1) ^^^ (if x.getLsbD 0 then polyB else 0#32)
def bN : Nat → B32 → B32
  | 0, x => x
  | n + 1, x => bT (bN n x)
def u8B (b : UInt8) : B32 := BitVec.ofNat 32 b.toNat
def stepB (c : B32) (b : UInt8) : B32 := bN 8 (c ^^^ u8B b)
def sumB (c : B32) (l : List UInt8) : B32 := l.foldl stepB c

theorem xor4 (a b c d : B32) : (a ^^^ b) ^^^ (c ^^^ d) = (a ^^^ c) ^^^ (b ^^^ d) := by ac_rfl

theorem bT_xor (x y : B32) : bT (x ^^^ y) = bT x ^^^ bT y := by
  unfold bT
  rw [BitVec.ushiftRight_xor_distrib, xor4 (x >>> 1)]
  congr 1
  rw [BitVec.getLsbD_xor]
  cases x.getLsbD 0 <;> cases y.getLsbD 0 <;> simp

theorem bN_xor (n : Nat) (x y : B32) : bN n (x ^^^ y) = bN n x ^^^ bN n y := by
  induction n with
  | zero => rfl
  | succ n ih => simp only [bN, ih, bT_xor]

theorem bT_top (x : B32) : (bT x).getLsbD 31 = x.getLsbD 0 := by
  unfold bT
  rw [BitVec.getLsbD_xor]
  have h1 : (x >>> 1).getLsbD 31 = false := by simp
  rw [h1]
  cases x.getLsbD 0 <;> simp <;> decide

theorem bT_zero (x : B32) (h : bT x = 0#32) : x = 0#32 := by
  have h0 : x.getLsbD 0 = false := by rw [← bT_top, h]; simp
  unfold bT at h
  rw [h0] at h
  simp only [Bool.false_eq_true, if_false, BitVec.xor_zero] at h
  apply BitVec.eq_of_getLsbD_eq
  intro i hi
  cases i with
  | zero => simpa using h0
  | succ i =>
    have := congrArg (fun y : B32 => y.getLsbD i) h
    simpa [Nat.add_comm] using this

theorem bN_zero (n : Nat) (x : B32) (h : bN n x = 0#32) : x = 0#32 := by
  induction n with
  | zero => exact h
  | succ n ih => exact ih (bT_zero _ h)

theorem bN_zero' (n : Nat) : bN n 0#32 = 0#32 := by
  induction n with
  | zero => rfl
  | succ n ih => simp only [bN, ih]; decide

theorem bN_add (m n : Nat) (x : B32) : bN (m + n) x = bN m (bN n x) := by
  induction m with
  | zero => rw [Nat.zero_add]; rfl
  | succ m ih => rw [Nat.succ_add]; simp only [bN, ih]

/-- Low bits 0: the steps only shift. -/
theorem bN_shift (n : Nat) : ∀ (x : B32), (∀ i, i < n → x.getLsbD i = false) → bN n x = x >>> n := by
  induction n with
  | zero => intro x _; simp [bN]
  | succ n ih =>
    intro x h
    simp only [bN]
    rw [ih x (fun i hi => h i (by omega))]
    unfold bT
    have : (x >>> n).getLsbD 0 = false := by simpa using h n (by omega)
    rw [this]
    simp only [Bool.false_eq_true, if_false, BitVec.xor_zero]
    rw [← BitVec.shiftRight_add]

def low8 (x : B32) : B32 := x &&& 255#32
def high8 (x : B32) : B32 := x &&& 4294967040#32
theorem low_high (x : B32) : x = low8 x ^^^ high8 x := by
  have e : (4294967040#32) = ~~~(255#32) := by decide
  unfold low8 high8
  rw [e]
  apply BitVec.eq_of_getLsbD_eq
  intro i hi
  simp only [BitVec.getLsbD_xor, BitVec.getLsbD_and, BitVec.getLsbD_not, hi, decide_true, Bool.true_and]
  cases x.getLsbD i <;> cases (255#32).getLsbD i <;> rfl

theorem high8_low (x : B32) (i : Nat) (hi : i < 8) : (high8 x).getLsbD i = false := by
  unfold high8
  rw [BitVec.getLsbD_and]
  have : ∀ i, i < 8 → (4294967040#32).getLsbD i = false := by decide
  rw [this i hi, Bool.and_false]
theorem high8_shift (x : B32) : high8 x >>> 8 = x >>> 8 := by
  unfold high8
  apply BitVec.eq_of_getLsbD_eq
  intro i hi
  simp only [BitVec.getLsbD_ushiftRight, BitVec.getLsbD_and]
  by_cases h : 8 + i < 32
  · have : ∀ i, i < 24 → (4294967040#32).getLsbD (8 + i) = true := by decide
    rw [this i (by omega), Bool.and_true]
  · rw [BitVec.getLsbD_of_ge x _ (by omega), Bool.false_and]

theorem bN8_split (x : B32) : bN 8 x = bN 8 (low8 x) ^^^ (x >>> 8) := by
  conv => lhs; rw [low_high x]
  rw [bN_xor, bN_shift 8 (high8 x) (high8_low x), high8_shift]

theorem u8_shift (b : UInt8) : u8B b >>> 8 = 0#32 := by
  have := b.toNat_lt
  apply BitVec.eq_of_toNat_eq
  simp [u8B, Nat.shiftRight_eq_div_pow]
  omega
theorem low8_u8 (b : UInt8) : low8 (u8B b) = u8B b := by
  have := b.toNat_lt
  apply BitVec.eq_of_toNat_eq
  simp only [low8, u8B, BitVec.toNat_and, BitVec.toNat_ofNat]
  rw [show 255 % 2 ^ 32 = 2 ^ 8 - 1 by decide, Nat.and_two_pow_sub_one_eq_mod]
  omega

theorem stepB_tab (c : B32) (b : UInt8) : stepB c b = bN 8 (low8 c ^^^ u8B b) ^^^ (c >>> 8) := by
  unfold stepB
  rw [bN8_split]
  have h1 : low8 (c ^^^ u8B b) = low8 c ^^^ u8B b := by
    conv => rhs; rw [← low8_u8 b]
    unfold low8
    apply BitVec.eq_of_getLsbD_eq
    intro i hi
    simp only [BitVec.getLsbD_xor, BitVec.getLsbD_and]
    cases c.getLsbD i <;> cases (u8B b).getLsbD i <;> cases (255#32).getLsbD i <;> rfl
  rw [h1, BitVec.ushiftRight_xor_distrib, u8_shift, BitVec.xor_zero]

/-! ### Linear -/
theorem u8B_xor (a b : UInt8) : u8B (a ^^^ b) = u8B a ^^^ u8B b := by
  apply BitVec.eq_of_toNat_eq
  have := a.toNat_lt
  have := b.toNat_lt
  have h := Nat.xor_lt_two_pow (n := 32) (x := a.toNat) (y := b.toNat) (by omega) (by omega)
  simp only [u8B, BitVec.toNat_xor, BitVec.toNat_ofNat, UInt8.toNat_xor]
  rw [Nat.mod_eq_of_lt (by omega), Nat.mod_eq_of_lt (by omega), Nat.mod_eq_of_lt (by omega)]

def xorL (a b : List UInt8) : List UInt8 := List.zipWith (· ^^^ ·) a b

theorem stepB_xor (c d : B32) (a b : UInt8) : stepB (c ^^^ d) (a ^^^ b) = stepB c a ^^^ stepB d b := by
  unfold stepB
  rw [u8B_xor, xor4, bN_xor]

theorem sumB_xor : ∀ (a b : List UInt8) (c d : B32), a.length = b.length → sumB (c ^^^ d) (xorL a b) = sumB c a ^^^ sumB d b
  | [], [], c, d, _ => rfl
  | x :: a, y :: b, c, d, h => by
    simp only [xorL, List.zipWith_cons_cons, sumB, List.foldl_cons]
    rw [stepB_xor]
    exact sumB_xor a b _ _ (by simpa using h)
  | [], _ :: _, _, _, h => by simp at h
  | _ :: _, [], _, _, h => by simp at h

theorem sumB_append (c : B32) (a b : List UInt8) : sumB c (a ++ b) = sumB (sumB c a) b := by simp [sumB, List.foldl_append]

theorem sumB_zeros (n : Nat) (c : B32) : sumB c (List.replicate n 0) = bN (8 * n) c := by
  induction n generalizing c with
  | zero => rfl
  | succ n ih =>
    rw [List.replicate_succ]
    simp only [sumB, List.foldl_cons]
    have : stepB c 0 = bN 8 c := by simp [stepB, u8B]
    rw [this]
    have := ih (bN 8 c)
    unfold sumB at this
    rw [this, ← bN_add, Nat.mul_succ]

/-- Four bytes from nothing: 32 steps of their number, the lowest byte first. -/
theorem sum4 (p q r s : UInt8) : sumB 0#32 [p, q, r, s] = bN 32 (u8B p ^^^ (u8B q <<< 8) ^^^ (u8B r <<< 16) ^^^ (u8B s <<< 24)) := by
  have sh : ∀ (b : UInt8) (k : Nat), k ≤ 24 → bN k (u8B b <<< k) = u8B b := fun b k hk => by
    rw [bN_shift k _ (fun i hi => by rw [BitVec.getLsbD_shiftLeft]; simp [hi])]
    have := b.toNat_lt
    apply BitVec.eq_of_toNat_eq
    simp only [u8B, BitVec.toNat_ushiftRight, BitVec.toNat_shiftLeft, BitVec.toNat_ofNat]
    rw [Nat.mod_eq_of_lt (show b.toNat < 2 ^ 32 by omega), Nat.shiftLeft_eq, Nat.shiftRight_eq_div_pow]
    have h2 : b.toNat * 2 ^ k < 2 ^ 32 := by
      have : (2 : Nat) ^ k ≤ 2 ^ 24 := Nat.pow_le_pow_right (by omega) hk
      calc b.toNat * 2 ^ k ≤ b.toNat * 2 ^ 24 := Nat.mul_le_mul_left _ this
        _ < 2 ^ 32 := by omega
    rw [Nat.mod_eq_of_lt h2, Nat.mul_div_cancel _ (Nat.pow_pos (by omega))]
  simp only [sumB, List.foldl_cons, List.foldl_nil, stepB, BitVec.zero_xor]
  rw [bN_xor 32, bN_xor 32, bN_xor 32]
  rw [show bN 32 (u8B s <<< 24) = bN 8 (u8B s) from (bN_add 8 24 _).trans (congrArg (bN 8) (sh s 24 (by omega)))]
  rw [show bN 32 (u8B r <<< 16) = bN 16 (u8B r) from (bN_add 16 16 _).trans (congrArg (bN 16) (sh r 16 (by omega)))]
  rw [show bN 32 (u8B q <<< 8) = bN 24 (u8B q) from (bN_add 24 8 _).trans (congrArg (bN 24) (sh q 8 (by omega)))]
  simp only [bN_xor, ← bN_add]

/-- Two texts of one length that differ within four bytes have unlike sums. -/
theorem unlike (c : B32) (a m n z : List UInt8) (p q r s : UInt8) (hm : m = xorL n [p, q, r, s]) (hn : n.length = 4) (h0 : u8B p ^^^ (u8B q <<< 8) ^^^ (u8B r <<< 16) ^^^ (u8B s <<< 24) ≠ 0#32) : sumB c (a ++ n ++ z) ≠ sumB c (a ++ m ++ z) := by
  intro h
  rw [sumB_append, sumB_append, sumB_append, sumB_append] at h
  subst hm
  have e1 : sumB (sumB c a) (xorL n [p, q, r, s]) = sumB (sumB c a) n ^^^ sumB 0#32 [p, q, r, s] := by
    have := sumB_xor n [p, q, r, s] (sumB c a) 0#32 (by simpa using hn)
    rwa [BitVec.xor_zero] at this
  rw [e1] at h
  have zz : ∀ z : List UInt8, xorL z (List.replicate z.length 0) = z := by
    intro z
    induction z with
    | nil => rfl
    | cons x z ih =>
      rw [List.length_cons, List.replicate_succ]
      simp only [xorL, List.zipWith_cons_cons]
      unfold xorL at ih
      rw [ih]; simp
  have e2 := sumB_xor z (List.replicate z.length 0) (sumB (sumB c a) n) (sumB 0#32 [p, q, r, s]) (by simp)
  rw [zz, sumB_zeros] at e2
  rw [e2] at h
  have h3 : bN (8 * z.length) (sumB 0#32 [p, q, r, s]) = 0#32 := by
    have := congrArg (fun x => sumB (sumB (sumB c a) n) z ^^^ x) h
    simp only [BitVec.xor_self, ← BitVec.xor_assoc, BitVec.zero_xor] at this
    exact this.symm
  have h4 := bN_zero _ _ h3
  rw [sum4] at h4
  exact h0 (bN_zero _ _ h4)

/-! ### Numbers -/
def toI (x : B32) : Int := x.toNat

theorem toI_ofNat (n : Nat) (h : n < 4294967296) : toI (BitVec.ofNat 32 n) = n := by
  unfold toI
  rw [BitVec.toNat_ofNat, Nat.mod_eq_of_lt h]

theorem toI_range (x : B32) : 0 ≤ toI x ∧ toI x ≤ 4294967295 := by
  have := x.isLt
  unfold toI
  omega

theorem ofI (c : Int) (h0 : 0 ≤ c) (h1 : c ≤ 4294967295) : ∃ x : B32, c = toI x :=
  ⟨BitVec.ofNat 32 c.toNat, by rw [toI_ofNat _ (by omega)]; omega⟩

theorem toI_inj {x y : B32} (h : toI x = toI y) : x = y := by
  apply BitVec.eq_of_toNat_eq
  unfold toI at h
  omega

theorem bv_toI (x : B32) : BitVec.ofInt 32 (toI x) = x := by
  unfold toI
  rw [BitVec.ofInt_natCast]
  simp

theorem ibits_xor (x y : B32) : ibits .xor .u32 (toI x) (toI y) = toI (x ^^^ y) := by
  show IntKind.u32.wrap ((BitVec.ofInt 32 (toI x) ^^^ BitVec.ofInt 32 (toI y)).toNat : Int) = _
  rw [bv_toI, bv_toI]
  have := (x ^^^ y).isLt
  unfold toI
  rw [IntKind.wrap_u32]
  omega
theorem ibits_and (x y : B32) : ibits .and .u32 (toI x) (toI y) = toI (x &&& y) := by
  show IntKind.u32.wrap ((BitVec.ofInt 32 (toI x) &&& BitVec.ofInt 32 (toI y)).toNat : Int) = _
  rw [bv_toI, bv_toI]
  have := (x &&& y).isLt
  unfold toI
  rw [IntKind.wrap_u32]
  omega
theorem ishr_toI (x : B32) (k : Nat) (hk : k ≤ 32) : ishr .u32 (toI x) (k : Int) = toI (x >>> k) := by
  unfold toI
  rw [ishr_nat _ _ hk, BitVec.toNat_ushiftRight, Nat.shiftRight_eq_div_pow]

theorem bitT_toI (x : B32) : bitT (toI x) = toI (bT x) := by
  unfold bitT bT
  have h1 : (1 : Int) = toI 1#32 := by decide
  have hs : ishr .u32 (toI x) 1 = toI (x >>> 1) := ishr_toI x 1 (by omega)
  rw [hs]
  have ha : ibits .and .u32 (toI x) 1 = toI (x &&& 1#32) := by rw [h1, ibits_and]
  rw [ha]
  have hb : x &&& 1#32 = if x.getLsbD 0 then 1#32 else 0#32 := by
    apply BitVec.eq_of_getLsbD_eq
    intro i hi
    rw [BitVec.getLsbD_and]
    cases i with
    | zero => cases x.getLsbD 0 <;> rfl
    | succ i =>
      have : (1#32).getLsbD (i + 1) = false := by simp [BitVec.getLsbD_one]
      rw [this, Bool.and_false]
      split <;> simp
  rw [hb]
  cases x.getLsbD 0
  · simp only [Bool.false_eq_true, if_false]
    rw [show IntKind.u32.wrap (toI 0#32 * 2197175160) = toI 0#32 by decide, ibits_xor]
  · simp only [if_true]
    rw [show IntKind.u32.wrap (toI 1#32 * 2197175160) = toI polyB by decide, ibits_xor]

theorem bitsT_toI (n : Nat) (x : B32) : bitsT n (toI x) = toI (bN n x) := by
  induction n with
  | zero => rfl
  | succ n ih => simp only [bitsT, bN, ih, bitT_toI]

theorem tabF_toI (x : B32) (h : x.toNat < 4294967296) : tabF x.toNat = toI (bN 8 x) := by
  unfold tabF
  have : IntKind.u32.wrap (x.toNat : Int) = toI x := by
    unfold toI
    rw [IntKind.wrap_u32]; omega
  rw [this, bitsT_toI]

theorem u8_xor_nat (x : B32) (b : UInt8) : (ibits .xor .u8 (IntKind.u8.wrap (toI x)) b.toNat).toNat = (low8 x ^^^ u8B b).toNat := by
  have hb := b.toNat_lt
  have h1 : IntKind.u8.wrap (toI x) = ((x.toNat % 256 : Nat) : Int) := by
    unfold toI
    rw [IntKind.wrap_u8]; omega
  rw [h1]
  have hx : x.toNat % 256 < 256 := Nat.mod_lt _ (by omega)
  have h2 := Nat.xor_lt_two_pow (n := 8) (x := x.toNat % 256) (y := b.toNat) (by omega) (by omega)
  have h3 : (low8 x ^^^ u8B b).toNat = (x.toNat % 256) ^^^ b.toNat := by
    simp only [low8, u8B, BitVec.toNat_xor, BitVec.toNat_and, BitVec.toNat_ofNat]
    rw [show 255 % 2 ^ 32 = 2 ^ 8 - 1 by decide, Nat.and_two_pow_sub_one_eq_mod, Nat.mod_eq_of_lt (show b.toNat < 2 ^ 32 by omega)]
  rw [h3]
  show (IntKind.u8.wrap ((BitVec.ofInt 8 ((x.toNat % 256 : Nat) : Int) ^^^ BitVec.ofInt 8 ((b.toNat : Nat) : Int)).toNat : Int)).toNat = _
  rw [BitVec.ofInt_natCast, BitVec.ofInt_natCast, BitVec.toNat_xor, BitVec.toNat_ofNat, BitVec.toNat_ofNat, Nat.mod_eq_of_lt (show x.toNat % 256 < 2 ^ 8 by omega), Nat.mod_eq_of_lt (show b.toNat < 2 ^ 8 by omega), IntKind.wrap_u8]
  omega

theorem byteS_toI (x : B32) (b : UInt8) : byteS (toI x) b = toI (stepB x b) := by
  unfold byteS
  rw [u8_xor_nat, tabF_toI _ (BitVec.isLt _), show ishr .u32 (toI x) 8 = toI (x >>> 8) from ishr_toI x 8 (by omega), ibits_xor, stepB_tab]

theorem sumS_toI (x : B32) (l : List UInt8) : sumS (toI x) l = toI (sumB x l) := by
  induction l generalizing x with
  | nil => rfl
  | cons b l ih =>
    simp only [sumS, sumB, List.foldl_cons, byteS_toI] at *
    exact ih _

def onesB : B32 := 4294967295#32
theorem notS_toI (x : B32) : notS (toI x) = toI (onesB ^^^ x) := by
  unfold notS
  rw [show (if IntKind.u32.signed = true then (-1 : Int) else IntKind.u32.max) = toI onesB from by decide, ibits_xor]

theorem sumOf_toI (x : B32) (l : List UInt8) : sumOf (toI x) l = toI (onesB ^^^ sumB (onesB ^^^ x) l) := by
  unfold sumOf
  rw [notS_toI, sumS_toI, notS_toI]

/-- Three texts of one length, xored. -/
theorem three (a b c : List UInt8) (h1 : a.length = b.length) (h2 : a.length = c.length) :
    ibits .xor .u32 (ibits .xor .u32 (sumOf 0 a) (sumOf 0 b)) (sumOf 0 c) = sumOf 0 (xorL (xorL a b) c) := by
  have z : (0 : Int) = toI 0#32 := by decide
  rw [z]
  simp only [sumOf_toI, ibits_xor, BitVec.xor_zero]
  have e1 := sumB_xor a b onesB onesB h1
  have e2 := sumB_xor (xorL a b) c (onesB ^^^ onesB) onesB (by simp [xorL]; omega)
  rw [e1] at e2
  rw [BitVec.xor_self, BitVec.zero_xor] at e2
  rw [e2]
  congr 1
  generalize sumB onesB a = A
  generalize sumB onesB b = B
  generalize sumB onesB c = C
  rw [xor4 onesB A onesB B, BitVec.xor_self, BitVec.zero_xor, ← BitVec.xor_assoc, BitVec.xor_comm (A ^^^ B), BitVec.xor_assoc]
end Go.Aw
