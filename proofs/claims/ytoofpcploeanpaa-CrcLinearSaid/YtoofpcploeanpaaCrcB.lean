/-
  Sums: what More, Of and Bytes compute.
-/
import Derived.Test.YtoofpcploeanpaaCrcA
import Derived.Test.YtoofpcploeanpaaOnceB
import Derived.Test.YtoofpcploeanpaaAwConv
namespace Go.Aw
set_option maxRecDepth 100000
set_option linter.unusedSimpArgs false
set_option linter.unusedVariables false
open Go Go.Proofs

/-- One byte of a text. -/
def byteS (c : Int) (b : UInt8) : Int := ibits .xor .u32 (tabF (ibits .xor .u8 (IntKind.u8.wrap c) b.toNat).toNat) (ishr .u32 c 8)
def sumS (c : Int) (l : List UInt8) : Int := l.foldl byteS c
/-- The complement of a sum. -/
def notS (c : Int) : Int := ibits .xor .u32 (if IntKind.u32.signed then -1 else IntKind.u32.max) c

def onceC (d m z : D) (i : Nat) : List AV := .d d :: .d m :: .d z :: (tblF i).map AV.d

theorem do_ok : ACallAt Try.prog 1 66 [.vp 0 0, .fn (.func 67) [.vp 0 0] []] [(0, .var (onceC (.int .u32 0) (.int .i32 0) (.int .u32 0) 0))] (fun r h' => r = .tup [] ∧ h' = [(0, .var (onceC (.int .u32 1) (.int .i32 0) (.int .u32 0) 256))]) := by
  refine once_at (cs := onceC (.int .u32 0) (.int .i32 0) (.int .u32 0) 0) (cs2 := onceC (.int .u32 0) (.int .i32 1) (.int .u32 0) 256) rfl rfl rfl rfl rfl ?_
  refine (sumfill_ok _ _ _).whole (fun i hi => ?_) (Nat.le_refl _) ?_
  · by_cases h : i = 0
    · omega
    · simp [hget, Ne.symm h] at hi
  · rintro r h' ⟨rfl, rfl⟩ i hi
    by_cases h : i = 0
    · subst h; rfl
    · simp [hget, Ne.symm h] at hi

theorem tbl_get (n : Int) (h0 : 0 ≤ n) (h1 : n < 256) (d m z : D) : (onceC d m z 256).getD (3 + n.toNat * 1) .any = .d (.int .u32 (tabF n.toNat)) := by
  have : n.toNat < 256 := by omega
  unfold onceC
  rw [show 3 + n.toNat * 1 = n.toNat + 1 + 1 + 1 by omega]
  simp only [List.getD_cons_succ]
  rw [List.getD_eq_getElem?_getD, List.getElem?_map]
  unfold tblF
  rw [List.getElem?_map, List.getElem?_range this]
  simp [this]

theorem u8_byte (x y : Int) : 0 ≤ ibits .xor .u8 x y ∧ ibits .xor .u8 x y < 256 := by
  unfold ibits
  rw [IntKind.wrap_u8]
  omega

abbrev Mst (c : Int) (l : List UInt8) := { i : Nat // i ≤ l.length }

theorem more_ok (c : Int) (l : List UInt8) (hl : l.length ≤ 9223372036854775807) : ACall Try.prog 53 1 [.vp 0 0, .d (.int .u32 c), .d (.str l)] [(0, .var (onceC (.int .u32 0) (.int .i32 0) (.int .u32 0) 0))] (fun r h' => r = .d (.int .u32 (sumS c l)) ∧ (hget h' 0).isSome) := by
  refine acall_of_body Try.func53 rfl (enters Try.func53 (by kernel_rfl) rfl) Try.ntmps53 (by simp) (fun base => ?_)
  refine aw_seq_regionT noTab (noTab_ok _) (fun K hK => ?_); simp only [go_sem, List.append_toArray, List.range_zero, ↓reduceIte, List.append_eq, Int.toNat_natCast, Nat.reduceAdd, Nat.reduceMul, Nat.reduceSub, Nat.reduceLT, Nat.reduceLeDiff, Nat.reduceEqDiff, Nat.reduceBEq, Int.reduceToNat, Int.reduceLT, Int.reduceLE, Int.reduceAdd, Int.reduceSub, Int.reduceMul, Int.reduceNeg, Int.reduceEq]
  refine hK _ ?_; clear hK K
  refine aw_seq_regionT noTab (noTab_ok _) (fun K hK => ?_); simp only [go_sem, List.append_toArray, List.range_zero, ↓reduceIte, List.append_eq, Int.toNat_natCast, Nat.reduceAdd, Nat.reduceMul, Nat.reduceSub, Nat.reduceLT, Nat.reduceLeDiff, Nat.reduceEqDiff, Nat.reduceBEq, Int.reduceToNat, Int.reduceLT, Int.reduceLE, Int.reduceAdd, Int.reduceSub, Int.reduceMul, Int.reduceNeg, Int.reduceEq]
  refine do_ok.mono ?_
  rintro r h' ⟨rfl, rfl⟩
  refine hK _ ?_; clear hK K
  refine aw_seq (fun K2 hK2 => ?_)
  refine aw_seq_regionT noTab (noTab_ok _) (fun K hK => ?_); simp only [go_sem, List.append_toArray, List.range_zero, ↓reduceIte, List.append_eq, Int.toNat_natCast, Nat.reduceAdd, Nat.reduceMul, Nat.reduceSub, Nat.reduceLT, Nat.reduceLeDiff, Nat.reduceEqDiff, Nat.reduceBEq, Int.reduceToNat, Int.reduceLT, Int.reduceLE, Int.reduceAdd, Int.reduceSub, Int.reduceMul, Int.reduceNeg, Int.reduceEq]
  refine ⟨by simp [byteRows], hK _ ?_⟩
  clear hK
  refine aw_block ?_
  refine aw_loop (fun i : Mst c l => ⟨[(0, true, .vp 0 0), (1, true, .d (.int .u32 (sumS c (l.take i.1)))), (16, true, .osl 1 1 l.length 0 l.length), (17, true, .d (.int .i64 l.length)), (18, true, .d (.int .i64 i.1))], [(1, .arr 1 (byteRows l)), (0, .var (onceC (.int .u32 1) (.int .i32 0) (.int .u32 0) 256))], some []⟩) (fun i => l.length - i.1) ⟨0, Nat.zero_le _⟩ (by simp only [AS.le, leT, leH, AV.le, AV.leL, AObj.le, inH, idsT, idsH, AV.ids, AV.idsL, AV.idsR, AObj.ids, lk, hget, go_sem, List.append_toArray, List.range_zero, ↓reduceIte, List.append_eq, Int.toNat_natCast, Nat.reduceAdd, Nat.reduceMul, Nat.reduceSub, Nat.reduceLT, Nat.reduceLeDiff, Nat.reduceEqDiff, Nat.reduceBEq, Int.reduceToNat, Int.reduceLT, Int.reduceLE, Int.reduceAdd, Int.reduceSub, Int.reduceMul, Int.reduceNeg, Int.reduceEq]; simp [onceC, leL_map_d, idsL_map_d, inH, sumS, AV.leL, AV.le, AV.idsL, AV.ids]) (fun i => ?_)
  obtain ⟨i, hi⟩ := i
  refine aw_seq_regionT noTab (noTab_ok _) (fun K hK => ?_); simp only [go_sem, List.append_toArray, List.range_zero, ↓reduceIte, List.append_eq, Int.toNat_natCast, Nat.reduceAdd, Nat.reduceMul, Nat.reduceSub, Nat.reduceLT, Nat.reduceLeDiff, Nat.reduceEqDiff, Nat.reduceBEq, Int.reduceToNat, Int.reduceLT, Int.reduceLE, Int.reduceAdd, Int.reduceSub, Int.reduceMul, Int.reduceNeg, Int.reduceEq]
  refine hK _ ?_; clear hK K
  refine aw_seq (fun K3 hK3 => ?_)
  refine aw_cond rfl (fun hc => ?_) (fun hc => ?_)
  · refine aw_skip ?_; simp only [go_sem, List.append_toArray, List.range_zero, ↓reduceIte, List.append_eq, Int.toNat_natCast, Nat.reduceAdd, Nat.reduceMul, Nat.reduceSub, Nat.reduceLT, Nat.reduceLeDiff, Nat.reduceEqDiff, Nat.reduceBEq, Int.reduceToNat, Int.reduceLT, Int.reduceLE, Int.reduceAdd, Int.reduceSub, Int.reduceMul, Int.reduceNeg, Int.reduceEq]; refine hK3 _ ?_; clear hK3 K3
    have hil : i < l.length := by simp at hc; omega
    obtain ⟨b, hb⟩ : ∃ b, l[i]? = some b := ⟨l[i], by simp [hil]⟩
    have hrow : (byteRows l).getD i [] = [.int .u8 b.toNat] := by simp [byteRows, List.getD_eq_getElem?_getD, hb, byteRow]
    have hrl : (byteRows l).length = l.length := by simp [byteRows]
    refine aw_seq (fun K4 hK4 => ?_)
    refine aw_block ?_
    refine aw_seq_regionT noTab (noTab_ok _) (fun K hK => ?_); simp only [go_sem, List.append_toArray, List.range_zero, ↓reduceIte, List.append_eq, Int.toNat_natCast, Nat.reduceAdd, Nat.reduceMul, Nat.reduceSub, Nat.reduceLT, Nat.reduceLeDiff, Nat.reduceEqDiff, Nat.reduceBEq, Int.reduceToNat, Int.reduceLT, Int.reduceLE, Int.reduceAdd, Int.reduceSub, Int.reduceMul, Int.reduceNeg, Int.reduceEq, hrow, hrl, Nat.zero_add]
    refine ⟨⟨by omega, by omega⟩, hil, hK _ ?_⟩
    clear hK
    obtain ⟨hb0, hb1⟩ := u8_byte (IntKind.u8.wrap (sumS c (l.take i))) b.toNat
    have htb := tbl_get (ibits .xor .u8 (IntKind.u8.wrap (sumS c (l.take i))) b.toNat) hb0 hb1 (.int .u32 1) (.int .i32 0) (.int .u32 0)
    have hoc : (onceC (.int .u32 1) (.int .i32 0) (.int .u32 0) 256).length = 259 := by simp [onceC, tblF_len]
    refine aw_regionT noTab (noTab_ok _) ?_; simp only [go_sem, List.append_toArray, List.range_zero, ↓reduceIte, List.append_eq, Int.toNat_natCast, Nat.reduceAdd, Nat.reduceMul, Nat.reduceSub, Nat.reduceLT, Nat.reduceLeDiff, Nat.reduceEqDiff, Nat.reduceBEq, Int.reduceToNat, Int.reduceLT, Int.reduceLE, Int.reduceAdd, Int.reduceSub, Int.reduceMul, Int.reduceNeg, Int.reduceEq, htb, hoc]
    refine ⟨⟨hb0, hb1⟩, by omega, hK4 _ ?_⟩
    clear hK4
    refine aw_regionT noTab (noTab_ok _) ?_; simp only [go_sem, List.append_toArray, List.range_zero, ↓reduceIte, List.append_eq, Int.toNat_natCast, Nat.reduceAdd, Nat.reduceMul, Nat.reduceSub, Nat.reduceLT, Nat.reduceLeDiff, Nat.reduceEqDiff, Nat.reduceBEq, Int.reduceToNat, Int.reduceLT, Int.reduceLE, Int.reduceAdd, Int.reduceSub, Int.reduceMul, Int.reduceNeg, Int.reduceEq]
    have hw : IntKind.i64.wrap ((i : Int) + 1) = ((i + 1 : Nat) : Int) := by rw [IntKind.wrap_i64]; omega
    have hs : ibits .xor .u32 (tabF (ibits .xor .u8 (IntKind.u8.wrap (sumS c (l.take i))) b.toNat).toNat) (ishr .u32 (sumS c (l.take i)) 8) = sumS c (l.take (i + 1)) := by
      rw [List.take_add_one, hb]
      simp [sumS, byteS]
    refine ⟨⟨i + 1, by omega⟩, ?_, by simp; omega⟩
    rw [hw, hs]
    simp only [AS.le, leT, leH, AV.le, AV.leL, AObj.le, inH, idsT, idsH, AV.ids, AV.idsL, AV.idsR, AObj.ids, lk, hget, go_sem, List.append_toArray, List.range_zero, ↓reduceIte, List.append_eq, Int.toNat_natCast, Nat.reduceAdd, Nat.reduceMul, Nat.reduceSub, Nat.reduceLT, Nat.reduceLeDiff, Nat.reduceEqDiff, Nat.reduceBEq, Int.reduceToNat, Int.reduceLT, Int.reduceLE, Int.reduceAdd, Int.reduceSub, Int.reduceMul, Int.reduceNeg, Int.reduceEq]
    simp [onceC, leL_map_d, idsL_map_d, inH, AV.leL, AV.le, AV.idsL, AV.ids]
  · refine aw_exit ?_; simp only [go_sem, List.append_toArray, List.range_zero, ↓reduceIte, List.append_eq, Int.toNat_natCast, Nat.reduceAdd, Nat.reduceMul, Nat.reduceSub, Nat.reduceLT, Nat.reduceLeDiff, Nat.reduceEqDiff, Nat.reduceBEq, Int.reduceToNat, Int.reduceLT, Int.reduceLE, Int.reduceAdd, Int.reduceSub, Int.reduceMul, Int.reduceNeg, Int.reduceEq]; refine hK2 _ ?_
    have hil : i = l.length := by simp at hc; omega
    subst hil
    refine aw_seq_regionT noTab (noTab_ok _) (fun K hK => ?_); simp only [go_sem, List.append_toArray, List.range_zero, ↓reduceIte, List.append_eq, Int.toNat_natCast, Nat.reduceAdd, Nat.reduceMul, Nat.reduceSub, Nat.reduceLT, Nat.reduceLeDiff, Nat.reduceEqDiff, Nat.reduceBEq, Int.reduceToNat, Int.reduceLT, Int.reduceLE, Int.reduceAdd, Int.reduceSub, Int.reduceMul, Int.reduceNeg, Int.reduceEq]
    refine hK _ ?_; clear hK K
    refine aw_ret ?_; simp only [go_sem, List.append_toArray, List.range_zero, ↓reduceIte, List.append_eq, Int.toNat_natCast, Nat.reduceAdd, Nat.reduceMul, Nat.reduceSub, Nat.reduceLT, Nat.reduceLeDiff, Nat.reduceEqDiff, Nat.reduceBEq, Int.reduceToNat, Int.reduceLT, Int.reduceLE, Int.reduceAdd, Int.reduceSub, Int.reduceMul, Int.reduceNeg, Int.reduceEq, Try.results53]
    rw [List.take_length]

theorem crcmore_ok (c : Int) (l : List UInt8) (hl : l.length ≤ 9223372036854775807) : ACall Try.prog 30 0 [.d (.int .u32 c), .d (.str l)] [] (fun r _ => r = .d (.int .u32 (notS (sumS (notS c) l)))) := by
  refine acall_of_body Try.func30 rfl (enters Try.func30 (by kernel_rfl) rfl) Try.ntmps30 (by simp) (fun base => ?_)
  refine aw_seq_regionT noTab (noTab_ok _) (fun K hK => ?_); simp only [go_sem, List.append_toArray, List.range_zero, ↓reduceIte, List.append_eq, Int.toNat_natCast, Nat.reduceAdd, Nat.reduceMul, Nat.reduceSub, Nat.reduceLT, Nat.reduceLeDiff, Nat.reduceEqDiff, Nat.reduceBEq, Int.reduceToNat, Int.reduceLT, Int.reduceLE, Int.reduceAdd, Int.reduceSub, Int.reduceMul, Int.reduceNeg, Int.reduceEq]
  refine hK _ ?_; clear hK K
  refine aw_seq_regionT noTab (noTab_ok _) (fun K hK => ?_); simp only [go_sem, List.append_toArray, List.range_zero, ↓reduceIte, List.append_eq, Int.toNat_natCast, Nat.reduceAdd, Nat.reduceMul, Nat.reduceSub, Nat.reduceLT, Nat.reduceLeDiff, Nat.reduceEqDiff, Nat.reduceBEq, Int.reduceToNat, Int.reduceLT, Int.reduceLE, Int.reduceAdd, Int.reduceSub, Int.reduceMul, Int.reduceNeg, Int.reduceEq]
  refine hK _ ?_; clear hK K
  refine aw_seq_regionT noTab (noTab_ok _) (fun K hK => ?_); simp only [go_sem, List.append_toArray, List.range_zero, ↓reduceIte, List.append_eq, Int.toNat_natCast, Nat.reduceAdd, Nat.reduceMul, Nat.reduceSub, Nat.reduceLT, Nat.reduceLeDiff, Nat.reduceEqDiff, Nat.reduceBEq, Int.reduceToNat, Int.reduceLT, Int.reduceLE, Int.reduceAdd, Int.reduceSub, Int.reduceMul, Int.reduceNeg, Int.reduceEq]
  refine ACallAt.mono (h := [(0, .var (onceC (.int .u32 0) (.int .i32 0) (.int .u32 0) 0))]) (K := fun r h' => r = .d (.int .u32 (sumS (notS c) l)) ∧ (hget h' 0).isSome) ((more_ok (notS c) l hl).whole (fun i hi => ?_) (Nat.zero_le _) ?_) ?_
  · by_cases h : i = 0
    · omega
    · simp [hget, Ne.symm h] at hi
  · rintro r h' ⟨rfl, hk⟩ i hi
    by_cases h : i = 0
    · subst h; exact hk
    · simp [hget, Ne.symm h] at hi
  rintro r h' ⟨rfl, hk⟩
  simp only [go_sem, List.append_toArray, List.range_zero, ↓reduceIte, List.append_eq, Int.toNat_natCast, Nat.reduceAdd, Nat.reduceMul, Nat.reduceSub, Nat.reduceLT, Nat.reduceLeDiff, Nat.reduceEqDiff, Nat.reduceBEq, Int.reduceToNat, Int.reduceLT, Int.reduceLE, Int.reduceAdd, Int.reduceSub, Int.reduceMul, Int.reduceNeg, Int.reduceEq]
  refine hK _ ?_; clear hK K
  refine aw_ret ?_; simp only [go_sem, List.append_toArray, List.range_zero, ↓reduceIte, List.append_eq, Int.toNat_natCast, Nat.reduceAdd, Nat.reduceMul, Nat.reduceSub, Nat.reduceLT, Nat.reduceLeDiff, Nat.reduceEqDiff, Nat.reduceBEq, Int.reduceToNat, Int.reduceLT, Int.reduceLE, Int.reduceAdd, Int.reduceSub, Int.reduceMul, Int.reduceNeg, Int.reduceEq, Try.results30]
  rfl

def sumOf (c : Int) (l : List UInt8) : Int := notS (sumS (notS c) l)

def tabM : Tab := fun f args =>
  if f = 30 then (match args with
    | [.d (.int .u32 c), .d (.str l)] => some (l.length ≤ 9223372036854775807, .d (.int .u32 (sumOf c l)))
    | _ => none)
  else none
@[go_sem] theorem tabM30 (c : Int) (l : List UInt8) : tabM 30 [.d (.int .u32 c), .d (.str l)] = some (l.length ≤ 9223372036854775807, .d (.int .u32 (sumOf c l))) := rfl
theorem tabM_ok : TabOk Try.prog tabM := ⟨fun f args pre r h hp => by
  unfold tabM at h
  split at h
  · rename_i hf; subst hf
    split at h
    · cases h; exact ⟨rfl, crcmore_ok _ _ hp⟩
    · cases h
  · cases h⟩

theorem crcof_ok (l : List UInt8) (hl : l.length ≤ 9223372036854775807) : ACall Try.prog 28 0 [.d (.str l)] [] (fun r _ => r = .d (.int .u32 (sumOf 0 l))) := by
  refine acall_of_body Try.func28 rfl (enters Try.func28 (by kernel_rfl) rfl) Try.ntmps28 (by simp) (fun base => ?_)
  refine aw_seq_regionT noTab (noTab_ok _) (fun K hK => ?_); simp only [go_sem, List.append_toArray, List.range_zero, ↓reduceIte, List.append_eq, Int.toNat_natCast, Nat.reduceAdd, Nat.reduceMul, Nat.reduceSub, Nat.reduceLT, Nat.reduceLeDiff, Nat.reduceEqDiff, Nat.reduceBEq, Int.reduceToNat, Int.reduceLT, Int.reduceLE, Int.reduceAdd, Int.reduceSub, Int.reduceMul, Int.reduceNeg, Int.reduceEq]
  refine hK _ ?_; clear hK K
  refine aw_seq_regionT tabM tabM_ok (fun K hK => ?_); simp only [go_sem, List.append_toArray, List.range_zero, ↓reduceIte, List.append_eq, Int.toNat_natCast, Nat.reduceAdd, Nat.reduceMul, Nat.reduceSub, Nat.reduceLT, Nat.reduceLeDiff, Nat.reduceEqDiff, Nat.reduceBEq, Int.reduceToNat, Int.reduceLT, Int.reduceLE, Int.reduceAdd, Int.reduceSub, Int.reduceMul, Int.reduceNeg, Int.reduceEq]
  refine ⟨hl, hK _ ?_⟩
  clear hK K
  refine aw_ret ?_; simp only [go_sem, List.append_toArray, List.range_zero, ↓reduceIte, List.append_eq, Int.toNat_natCast, Nat.reduceAdd, Nat.reduceMul, Nat.reduceSub, Nat.reduceLT, Nat.reduceLeDiff, Nat.reduceEqDiff, Nat.reduceBEq, Int.reduceToNat, Int.reduceLT, Int.reduceLE, Int.reduceAdd, Int.reduceSub, Int.reduceMul, Int.reduceNeg, Int.reduceEq, Try.results28]

def byteAt (c : Int) (j : Nat) : Int := IntKind.u8.wrap (ishr .u32 c (IntKind.i64.wrap (24 - IntKind.i64.wrap (8 * (j : Int)))))
def bcell (c : Int) (i j : Nat) : AV := .d (.int .u8 (if j < i then byteAt c j else 0))
def bytesC (c : Int) (i : Nat) : List AV := [bcell c i 0, bcell c i 1, bcell c i 2, bcell c i 3]
def bytesS (c : Int) : List UInt8 := [UInt8.ofNat (byteAt c 0).toNat, UInt8.ofNat (byteAt c 1).toNat, UInt8.ofNat (byteAt c 2).toNat, UInt8.ofNat (byteAt c 3).toNat]

theorem crcbytes_ok (c : Int) : ACall Try.prog 32 0 [.d (.int .u32 c)] [] (fun r _ => r = .d (.str (bytesS c))) := by
  refine acall_of_body Try.func32 rfl (enters Try.func32 (by kernel_rfl) rfl) Try.ntmps32 (by simp) (fun base => ?_)
  refine aw_seq_regionT noTab (noTab_ok _) (fun K hK => ?_); simp only [go_sem, List.append_toArray, List.range_zero, ↓reduceIte, List.append_eq, Int.toNat_natCast, Nat.reduceAdd, Nat.reduceMul, Nat.reduceSub, Nat.reduceLT, Nat.reduceLeDiff, Nat.reduceEqDiff, Nat.reduceBEq, Int.reduceToNat, Int.reduceLT, Int.reduceLE, Int.reduceAdd, Int.reduceSub, Int.reduceMul, Int.reduceNeg, Int.reduceEq]
  refine hK _ ?_; clear hK K
  refine aw_seq_regionT noTab (noTab_ok _) (fun K hK => ?_); simp only [go_sem, List.append_toArray, List.range_zero, ↓reduceIte, List.append_eq, Int.toNat_natCast, Nat.reduceAdd, Nat.reduceMul, Nat.reduceSub, Nat.reduceLT, Nat.reduceLeDiff, Nat.reduceEqDiff, Nat.reduceBEq, Int.reduceToNat, Int.reduceLT, Int.reduceLE, Int.reduceAdd, Int.reduceSub, Int.reduceMul, Int.reduceNeg, Int.reduceEq]
  refine hK _ ?_; clear hK K
  refine aw_seq (fun K2 hK2 => ?_)
  refine aw_seq_regionT noTab (noTab_ok _) (fun K hK => ?_); simp only [go_sem, List.append_toArray, List.range_zero, ↓reduceIte, List.append_eq, Int.toNat_natCast, Nat.reduceAdd, Nat.reduceMul, Nat.reduceSub, Nat.reduceLT, Nat.reduceLeDiff, Nat.reduceEqDiff, Nat.reduceBEq, Int.reduceToNat, Int.reduceLT, Int.reduceLE, Int.reduceAdd, Int.reduceSub, Int.reduceMul, Int.reduceNeg, Int.reduceEq]
  refine hK _ ?_; clear hK K
  refine aw_block ?_
  refine aw_loop (fun i : {i : Nat // i ≤ 4} => ⟨[(0, true, .d (.int .u32 c)), (3, true, .vp 0 0), (5, true, .d (.int .i64 i.1))], [(0, .var (bytesC c i.1))], some []⟩) (fun i => 4 - i.1) ⟨0, by omega⟩ (by simp only [AS.le, leT, leH, AV.le, AV.leL, AObj.le, inH, idsT, idsH, AV.ids, AV.idsL, AV.idsR, AObj.ids, lk, hget, go_sem, List.append_toArray, List.range_zero, ↓reduceIte, List.append_eq, Int.toNat_natCast, Nat.reduceAdd, Nat.reduceMul, Nat.reduceSub, Nat.reduceLT, Nat.reduceLeDiff, Nat.reduceEqDiff, Nat.reduceBEq, Int.reduceToNat, Int.reduceLT, Int.reduceLE, Int.reduceAdd, Int.reduceSub, Int.reduceMul, Int.reduceNeg, Int.reduceEq]; simp [bytesC, bcell, AV.leL, AV.le, AV.idsL, AV.ids, inH]) (fun i => ?_)
  obtain ⟨i, hi⟩ := i
  refine aw_seq_regionT noTab (noTab_ok _) (fun K hK => ?_); simp only [go_sem, List.append_toArray, List.range_zero, ↓reduceIte, List.append_eq, Int.toNat_natCast, Nat.reduceAdd, Nat.reduceMul, Nat.reduceSub, Nat.reduceLT, Nat.reduceLeDiff, Nat.reduceEqDiff, Nat.reduceBEq, Int.reduceToNat, Int.reduceLT, Int.reduceLE, Int.reduceAdd, Int.reduceSub, Int.reduceMul, Int.reduceNeg, Int.reduceEq]
  refine hK _ ?_; clear hK K
  refine aw_seq (fun K3 hK3 => ?_)
  refine aw_cond rfl (fun hc => ?_) (fun hc => ?_)
  · refine aw_skip ?_; simp only [go_sem, List.append_toArray, List.range_zero, ↓reduceIte, List.append_eq, Int.toNat_natCast, Nat.reduceAdd, Nat.reduceMul, Nat.reduceSub, Nat.reduceLT, Nat.reduceLeDiff, Nat.reduceEqDiff, Nat.reduceBEq, Int.reduceToNat, Int.reduceLT, Int.reduceLE, Int.reduceAdd, Int.reduceSub, Int.reduceMul, Int.reduceNeg, Int.reduceEq]; refine hK3 _ ?_; clear hK3 K3
    have hil : i < 4 := by simp at hc; omega
    refine aw_seq (fun K4 hK4 => ?_)
    refine aw_block ?_
    refine aw_seq_regionT noTab (noTab_ok _) (fun K hK => ?_); simp only [go_sem, List.append_toArray, List.range_zero, ↓reduceIte, List.append_eq, Int.toNat_natCast, Nat.reduceAdd, Nat.reduceMul, Nat.reduceSub, Nat.reduceLT, Nat.reduceLeDiff, Nat.reduceEqDiff, Nat.reduceBEq, Int.reduceToNat, Int.reduceLT, Int.reduceLE, Int.reduceAdd, Int.reduceSub, Int.reduceMul, Int.reduceNeg, Int.reduceEq]
    refine hK _ ?_; clear hK K
    refine aw_regionT noTab (noTab_ok _) ?_; simp only [go_sem, List.append_toArray, List.range_zero, ↓reduceIte, List.append_eq, Int.toNat_natCast, Nat.reduceAdd, Nat.reduceMul, Nat.reduceSub, Nat.reduceLT, Nat.reduceLeDiff, Nat.reduceEqDiff, Nat.reduceBEq, Int.reduceToNat, Int.reduceLT, Int.reduceLE, Int.reduceAdd, Int.reduceSub, Int.reduceMul, Int.reduceNeg, Int.reduceEq]
    have hset : (bytesC c i).set (0 + i * 1) (.d (.int .u8 (byteAt c i))) = bytesC c (i + 1) := by
      have : i = 0 ∨ i = 1 ∨ i = 2 ∨ i = 3 := by omega
      rcases this with rfl | rfl | rfl | rfl <;> rfl
    unfold byteAt at hset
    rw [hset]
    refine ⟨by simp only [IntKind.wrap_i64]; omega, ⟨by omega, by omega⟩, by simp [bytesC]; omega, hK4 _ ?_⟩
    refine aw_regionT noTab (noTab_ok _) ?_; simp only [go_sem, List.append_toArray, List.range_zero, ↓reduceIte, List.append_eq, Int.toNat_natCast, Nat.reduceAdd, Nat.reduceMul, Nat.reduceSub, Nat.reduceLT, Nat.reduceLeDiff, Nat.reduceEqDiff, Nat.reduceBEq, Int.reduceToNat, Int.reduceLT, Int.reduceLE, Int.reduceAdd, Int.reduceSub, Int.reduceMul, Int.reduceNeg, Int.reduceEq]
    have hw : IntKind.i64.wrap ((i : Int) + 1) = ((i + 1 : Nat) : Int) := by rw [IntKind.wrap_i64]; omega
    refine ⟨⟨i + 1, by omega⟩, ?_, by simp; omega⟩
    rw [hw]
    simp only [AS.le, leT, leH, AV.le, AV.leL, AObj.le, inH, idsT, idsH, AV.ids, AV.idsL, AV.idsR, AObj.ids, lk, hget, go_sem, List.append_toArray, List.range_zero, ↓reduceIte, List.append_eq, Int.toNat_natCast, Nat.reduceAdd, Nat.reduceMul, Nat.reduceSub, Nat.reduceLT, Nat.reduceLeDiff, Nat.reduceEqDiff, Nat.reduceBEq, Int.reduceToNat, Int.reduceLT, Int.reduceLE, Int.reduceAdd, Int.reduceSub, Int.reduceMul, Int.reduceNeg, Int.reduceEq]
    simp [bytesC, bcell, AV.leL, AV.le, AV.idsL, AV.ids, inH]
  · refine aw_exit ?_; simp only [go_sem, List.append_toArray, List.range_zero, ↓reduceIte, List.append_eq, Int.toNat_natCast, Nat.reduceAdd, Nat.reduceMul, Nat.reduceSub, Nat.reduceLT, Nat.reduceLeDiff, Nat.reduceEqDiff, Nat.reduceBEq, Int.reduceToNat, Int.reduceLT, Int.reduceLE, Int.reduceAdd, Int.reduceSub, Int.reduceMul, Int.reduceNeg, Int.reduceEq]; refine hK2 _ ?_
    have hil : i = 4 := by simp at hc; omega
    subst hil
    have hb4 : bytesC c 4 = [.d (.int .u8 (byteAt c 0)), .d (.int .u8 (byteAt c 1)), .d (.int .u8 (byteAt c 2)), .d (.int .u8 (byteAt c 3))] := rfl
    rw [hb4]
    refine aw_seq_regionT noTab (noTab_ok _) (fun K hK => ?_); simp only [go_sem, List.append_toArray, List.range_zero, ↓reduceIte, List.append_eq, Int.toNat_natCast, Nat.reduceAdd, Nat.reduceMul, Nat.reduceSub, Nat.reduceLT, Nat.reduceLeDiff, Nat.reduceEqDiff, Nat.reduceBEq, Int.reduceToNat, Int.reduceLT, Int.reduceLE, Int.reduceAdd, Int.reduceSub, Int.reduceMul, Int.reduceNeg, Int.reduceEq]
    refine ⟨rfl, hK _ ?_⟩
    clear hK
    refine aw_ret ?_; simp only [go_sem, List.append_toArray, List.range_zero, ↓reduceIte, List.append_eq, Int.toNat_natCast, Nat.reduceAdd, Nat.reduceMul, Nat.reduceSub, Nat.reduceLT, Nat.reduceLeDiff, Nat.reduceEqDiff, Nat.reduceBEq, Int.reduceToNat, Int.reduceLT, Int.reduceLE, Int.reduceAdd, Int.reduceSub, Int.reduceMul, Int.reduceNeg, Int.reduceEq, Try.results32]
    rfl

def tabN : Tab := fun f args =>
  if f = 30 then tabM 30 args
  else if f = 28 then (match args with
    | [.d (.str l)] => some (l.length ≤ 9223372036854775807, .d (.int .u32 (sumOf 0 l)))
    | _ => none)
  else if f = 32 then (match args with
    | [.d (.int .u32 c)] => some (True, .d (.str (bytesS c)))
    | _ => none)
  else none
@[go_sem] theorem tabN30 (args : List AV) : tabN 30 args = tabM 30 args := rfl
@[go_sem] theorem tabN28 (l : List UInt8) : tabN 28 [.d (.str l)] = some (l.length ≤ 9223372036854775807, .d (.int .u32 (sumOf 0 l))) := rfl
@[go_sem] theorem tabN32 (c : Int) : tabN 32 [.d (.int .u32 c)] = some (True, .d (.str (bytesS c))) := rfl
theorem tabN_ok : TabOk Try.prog tabN := ⟨fun f args pre r h hp => by
  unfold tabN at h
  split at h
  · rename_i hf; subst hf; exact tabM_ok.ok _ _ _ _ h hp
  · split at h
    · rename_i hf; subst hf
      split at h
      · cases h; exact ⟨rfl, crcof_ok _ hp⟩
      · cases h
    · split at h
      · rename_i hf; subst hf
        split at h
        · cases h; exact ⟨rfl, crcbytes_ok _⟩
        · cases h
      · cases h⟩

theorem crcawake_ok : ACall Try.prog 27 0 [] [] (fun r _ => r = .d (.bool true)) := by
  refine acall_of_body Try.func27 rfl (enters Try.func27 (by kernel_rfl) rfl) Try.ntmps27 (by simp) (fun base => ?_)
  refine aw_seq_regionT noTab (noTab_ok _) (fun K hK => ?_); simp only [go_sem, List.append_toArray, List.range_zero, ↓reduceIte, List.append_eq, Int.toNat_natCast, Nat.reduceAdd, Nat.reduceMul, Nat.reduceSub, Nat.reduceLT, Nat.reduceLeDiff, Nat.reduceEqDiff, Nat.reduceBEq, Int.reduceToNat, Int.reduceLT, Int.reduceLE, Int.reduceAdd, Int.reduceSub, Int.reduceMul, Int.reduceNeg, Int.reduceEq]
  refine hK _ ?_; clear hK K
  refine aw_seq_regionT tabN tabN_ok (fun K hK => ?_); simp only [go_sem, List.append_toArray, List.range_zero, ↓reduceIte, List.append_eq, Int.toNat_natCast, Nat.reduceAdd, Nat.reduceMul, Nat.reduceSub, Nat.reduceLT, Nat.reduceLeDiff, Nat.reduceEqDiff, Nat.reduceBEq, Int.reduceToNat, Int.reduceLT, Int.reduceLE, Int.reduceAdd, Int.reduceSub, Int.reduceMul, Int.reduceNeg, Int.reduceEq]
  refine hK _ ?_; clear hK K
  refine aw_ret ?_; simp only [go_sem, List.append_toArray, List.range_zero, ↓reduceIte, List.append_eq, Int.toNat_natCast, Nat.reduceAdd, Nat.reduceMul, Nat.reduceSub, Nat.reduceLT, Nat.reduceLeDiff, Nat.reduceEqDiff, Nat.reduceBEq, Int.reduceToNat, Int.reduceLT, Int.reduceLE, Int.reduceAdd, Int.reduceSub, Int.reduceMul, Int.reduceNeg, Int.reduceEq, Try.results27]
  exact congrArg (fun b => AV.d (.bool b)) (by decide +kernel)

def tabO : Tab := fun f args =>
  if f = 27 then (match args with
    | [] => some (True, .d (.bool true))
    | _ => none)
  else tabN f args
@[go_sem] theorem tabO27 : tabO 27 [] = some (True, .d (.bool true)) := rfl
@[go_sem] theorem tabO30 (args : List AV) : tabO 30 args = tabM 30 args := rfl
@[go_sem] theorem tabO28 (args : List AV) : tabO 28 args = tabN 28 args := rfl
@[go_sem] theorem tabO32 (args : List AV) : tabO 32 args = tabN 32 args := rfl
theorem tabO_ok : TabOk Try.prog tabO := ⟨fun f args pre r h hp => by
  unfold tabO at h
  split at h
  · rename_i hf; subst hf
    split at h
    · cases h; exact ⟨rfl, crcawake_ok⟩
    · cases h
  · exact tabN_ok.ok _ _ _ _ h hp⟩
end Go.Aw
