/-
  Sums of texts one behind the other; short.
-/
import Derived.Test.YtoofpcploeanpaaCrcL13
namespace Go.Aw
set_option maxRecDepth 100000
set_option linter.unusedSimpArgs false
set_option linter.unusedVariables false
open Go Go.Proofs

theorem byteS_range (c : Int) (b : UInt8) : 0 ≤ byteS c b ∧ byteS c b ≤ 4294967295 := by
  unfold byteS ibits
  rw [IntKind.wrap_u32]
  omega

theorem notS_range (c : Int) : 0 ≤ notS c ∧ notS c ≤ 4294967295 := by
  unfold notS ibits
  rw [IntKind.wrap_u32]
  omega

theorem sumS_range (l : List UInt8) : ∀ (c : Int), 0 ≤ c → c ≤ 4294967295 → 0 ≤ sumS c l ∧ sumS c l ≤ 4294967295 := by
  induction l with
  | nil => intro c h0 h1; exact ⟨h0, h1⟩
  | cons b l ih => intro c h0 h1; exact ih _ (byteS_range c b).1 (byteS_range c b).2

theorem sumOf_append (c : Int) (a b : List UInt8) : sumOf c (a ++ b) = sumOf (sumOf c a) b := by
  have hr := sumS_range a (notS c) (notS_range c).1 (notS_range c).2
  unfold sumOf
  rw [notnot _ hr.1 hr.2]
  simp [sumS, List.foldl_append]

def strRow (l : List UInt8) : List D := [.str l]
def shortF (ls : List (List UInt8)) : Bool := ls.all fun l => decide (l.length ≤ 20000)
abbrev Sst (ls : List (List UInt8)) := { i : Nat // i ≤ ls.length ∧ shortF (ls.take i) = true }

theorem short_ok (ls : List (List UInt8)) (hl : ls.length ≤ 1000) : ACall Try.prog 26 0 [.d (.sl 1 (ls.map strRow))] [] (fun r _ => r = .d (.bool (shortF ls))) := by
  refine acall_of_body Try.func26 rfl (enters Try.func26 (by kernel_rfl) rfl) Try.ntmps26 (by simp) (fun base => ?_)
  refine aw_seq_regionT noTab (noTab_ok _) (fun K hK => ?_); simp only [go_sem, List.append_toArray, List.range_zero, ↓reduceIte, List.append_eq, Int.toNat_natCast, Nat.reduceAdd, Nat.reduceMul, Nat.reduceSub, Nat.reduceLT, Nat.reduceLeDiff, Nat.reduceEqDiff, Nat.reduceBEq, Int.reduceToNat, Int.reduceLT, Int.reduceLE, Int.reduceAdd, Int.reduceSub, Int.reduceMul, Int.reduceNeg, Int.reduceEq]
  refine hK _ ?_; clear hK K
  refine aw_seq (fun K1 hK1 => ?_)
  refine aw_seq_regionT noTab (noTab_ok _) (fun K hK => ?_); simp only [go_sem, List.append_toArray, List.range_zero, ↓reduceIte, List.append_eq, Int.toNat_natCast, Nat.reduceAdd, Nat.reduceMul, Nat.reduceSub, Nat.reduceLT, Nat.reduceLeDiff, Nat.reduceEqDiff, Nat.reduceBEq, Int.reduceToNat, Int.reduceLT, Int.reduceLE, Int.reduceAdd, Int.reduceSub, Int.reduceMul, Int.reduceNeg, Int.reduceEq]
  refine hK _ ?_; clear hK K
  refine aw_block ?_
  refine aw_loop (fun i : Sst ls => ⟨[(2, true, .d (.bool false)), (5, true, .d (.sl 1 (ls.map strRow))), (6, true, .d (.int .i64 ls.length)), (7, true, .d (.int .i64 i.1))], [], some []⟩) (fun i => ls.length - i.1) ⟨0, Nat.zero_le _, rfl⟩ (by simp only [AS.le, leT, leH, AV.le, AV.leL, AObj.le, inH, idsT, idsH, AV.ids, AV.idsL, AV.idsR, AObj.ids, lk, hget, go_sem, List.append_toArray, List.range_zero, ↓reduceIte, List.append_eq, Int.toNat_natCast, Nat.reduceAdd, Nat.reduceMul, Nat.reduceSub, Nat.reduceLT, Nat.reduceLeDiff, Nat.reduceEqDiff, Nat.reduceBEq, Int.reduceToNat, Int.reduceLT, Int.reduceLE, Int.reduceAdd, Int.reduceSub, Int.reduceMul, Int.reduceNeg, Int.reduceEq]; simp) (fun i => ?_)
  obtain ⟨i, hi, hf⟩ := i
  refine aw_seq_regionT noTab (noTab_ok _) (fun K hK => ?_); simp only [go_sem, List.append_toArray, List.range_zero, ↓reduceIte, List.append_eq, Int.toNat_natCast, Nat.reduceAdd, Nat.reduceMul, Nat.reduceSub, Nat.reduceLT, Nat.reduceLeDiff, Nat.reduceEqDiff, Nat.reduceBEq, Int.reduceToNat, Int.reduceLT, Int.reduceLE, Int.reduceAdd, Int.reduceSub, Int.reduceMul, Int.reduceNeg, Int.reduceEq]
  refine hK _ ?_; clear hK K
  refine aw_seq (fun K2 hK2 => ?_)
  refine aw_cond rfl (fun hc => ?_) (fun hc => ?_)
  · refine aw_skip ?_; simp only [go_sem, List.append_toArray, List.range_zero, ↓reduceIte, List.append_eq, Int.toNat_natCast, Nat.reduceAdd, Nat.reduceMul, Nat.reduceSub, Nat.reduceLT, Nat.reduceLeDiff, Nat.reduceEqDiff, Nat.reduceBEq, Int.reduceToNat, Int.reduceLT, Int.reduceLE, Int.reduceAdd, Int.reduceSub, Int.reduceMul, Int.reduceNeg, Int.reduceEq]; refine hK2 _ ?_; clear hK2 K2
    have hil : i < ls.length := by simp at hc; omega
    obtain ⟨r, hr⟩ : ∃ r, ls[i]? = some r := ⟨ls[i], by simp [hil]⟩
    have hrow : (ls.map strRow).getD i [] = [.str r] := by simp [List.getD_eq_getElem?_getD, hr, strRow]
    refine aw_seq (fun K3 hK3 => ?_)
    refine aw_block ?_
    refine aw_seq_regionT noTab (noTab_ok _) (fun K hK => ?_); simp only [go_sem, List.append_toArray, List.range_zero, ↓reduceIte, List.append_eq, Int.toNat_natCast, Nat.reduceAdd, Nat.reduceMul, Nat.reduceSub, Nat.reduceLT, Nat.reduceLeDiff, Nat.reduceEqDiff, Nat.reduceBEq, Int.reduceToNat, Int.reduceLT, Int.reduceLE, Int.reduceAdd, Int.reduceSub, Int.reduceMul, Int.reduceNeg, Int.reduceEq, hrow, List.length_map]
    refine ⟨⟨by omega, by omega⟩, hK _ ?_⟩
    clear hK
    have hgd : ls[i]'hil = r := by
      have := List.getElem?_eq_getElem hil
      rw [hr] at this; exact (Option.some.inj this).symm
    refine aw_seq_regionT noTab (noTab_ok _) (fun K hK => ?_); simp only [go_sem, List.append_toArray, List.range_zero, ↓reduceIte, List.append_eq, Int.toNat_natCast, Nat.reduceAdd, Nat.reduceMul, Nat.reduceSub, Nat.reduceLT, Nat.reduceLeDiff, Nat.reduceEqDiff, Nat.reduceBEq, Int.reduceToNat, Int.reduceLT, Int.reduceLE, Int.reduceAdd, Int.reduceSub, Int.reduceMul, Int.reduceNeg, Int.reduceEq]
    refine hK _ ?_; clear hK K
    refine aw_cond rfl (fun hc => ?_) (fun hc => ?_)
    · refine aw_seq_regionT noTab (noTab_ok _) (fun K hK => ?_); simp only [go_sem, List.append_toArray, List.range_zero, ↓reduceIte, List.append_eq, Int.toNat_natCast, Nat.reduceAdd, Nat.reduceMul, Nat.reduceSub, Nat.reduceLT, Nat.reduceLeDiff, Nat.reduceEqDiff, Nat.reduceBEq, Int.reduceToNat, Int.reduceLT, Int.reduceLE, Int.reduceAdd, Int.reduceSub, Int.reduceMul, Int.reduceNeg, Int.reduceEq]
      refine hK _ ?_; clear hK K
      refine aw_ret ?_; simp only [go_sem, List.append_toArray, List.range_zero, ↓reduceIte, List.append_eq, Int.toNat_natCast, Nat.reduceAdd, Nat.reduceMul, Nat.reduceSub, Nat.reduceLT, Nat.reduceLeDiff, Nat.reduceEqDiff, Nat.reduceBEq, Int.reduceToNat, Int.reduceLT, Int.reduceLE, Int.reduceAdd, Int.reduceSub, Int.reduceMul, Int.reduceNeg, Int.reduceEq, Try.results26]
      refine congrArg (fun b => AV.d (.bool b)) ?_
      have h1 : 20000 < r.length := by simp at hc; omega
      have : shortF ls = false := by
        unfold shortF
        rw [List.all_eq_false]
        exact ⟨r, by rw [← hgd]; exact List.getElem_mem hil, by simpa using h1⟩
      rw [this]
    · refine aw_skip ?_; simp only [go_sem, List.append_toArray, List.range_zero, ↓reduceIte, List.append_eq, Int.toNat_natCast, Nat.reduceAdd, Nat.reduceMul, Nat.reduceSub, Nat.reduceLT, Nat.reduceLeDiff, Nat.reduceEqDiff, Nat.reduceBEq, Int.reduceToNat, Int.reduceLT, Int.reduceLE, Int.reduceAdd, Int.reduceSub, Int.reduceMul, Int.reduceNeg, Int.reduceEq]; refine hK3 _ ?_; clear hK3 K3
      refine aw_regionT noTab (noTab_ok _) ?_; simp only [go_sem, List.append_toArray, List.range_zero, ↓reduceIte, List.append_eq, Int.toNat_natCast, Nat.reduceAdd, Nat.reduceMul, Nat.reduceSub, Nat.reduceLT, Nat.reduceLeDiff, Nat.reduceEqDiff, Nat.reduceBEq, Int.reduceToNat, Int.reduceLT, Int.reduceLE, Int.reduceAdd, Int.reduceSub, Int.reduceMul, Int.reduceNeg, Int.reduceEq]
      have h1 : r.length ≤ 20000 := by simp at hc; omega
      have hw : IntKind.i64.wrap ((i : Int) + 1) = ((i + 1 : Nat) : Int) := by rw [IntKind.wrap_i64]; omega
      refine ⟨⟨i + 1, by omega, ?_⟩, ?_, by simp; omega⟩
      · unfold shortF at hf ⊢
        rw [List.take_add_one, hr, List.all_append, hf]
        simpa using h1
      · rw [hw]
        simp only [AS.le, leT, leH, AV.le, AV.leL, AObj.le, inH, idsT, idsH, AV.ids, AV.idsL, AV.idsR, AObj.ids, lk, hget, go_sem, List.append_toArray, List.range_zero, ↓reduceIte, List.append_eq, Int.toNat_natCast, Nat.reduceAdd, Nat.reduceMul, Nat.reduceSub, Nat.reduceLT, Nat.reduceLeDiff, Nat.reduceEqDiff, Nat.reduceBEq, Int.reduceToNat, Int.reduceLT, Int.reduceLE, Int.reduceAdd, Int.reduceSub, Int.reduceMul, Int.reduceNeg, Int.reduceEq]
  · refine aw_exit ?_; simp only [go_sem, List.append_toArray, List.range_zero, ↓reduceIte, List.append_eq, Int.toNat_natCast, Nat.reduceAdd, Nat.reduceMul, Nat.reduceSub, Nat.reduceLT, Nat.reduceLeDiff, Nat.reduceEqDiff, Nat.reduceBEq, Int.reduceToNat, Int.reduceLT, Int.reduceLE, Int.reduceAdd, Int.reduceSub, Int.reduceMul, Int.reduceNeg, Int.reduceEq]; refine hK1 _ ?_
    have hil : i = ls.length := by simp at hc; omega
    subst hil
    rw [List.take_length] at hf
    refine aw_seq_regionT noTab (noTab_ok _) (fun K hK => ?_); simp only [go_sem, List.append_toArray, List.range_zero, ↓reduceIte, List.append_eq, Int.toNat_natCast, Nat.reduceAdd, Nat.reduceMul, Nat.reduceSub, Nat.reduceLT, Nat.reduceLeDiff, Nat.reduceEqDiff, Nat.reduceBEq, Int.reduceToNat, Int.reduceLT, Int.reduceLE, Int.reduceAdd, Int.reduceSub, Int.reduceMul, Int.reduceNeg, Int.reduceEq]
    refine hK _ ?_; clear hK K
    refine aw_ret ?_; simp only [go_sem, List.append_toArray, List.range_zero, ↓reduceIte, List.append_eq, Int.toNat_natCast, Nat.reduceAdd, Nat.reduceMul, Nat.reduceSub, Nat.reduceLT, Nat.reduceLeDiff, Nat.reduceEqDiff, Nat.reduceBEq, Int.reduceToNat, Int.reduceLT, Int.reduceLE, Int.reduceAdd, Int.reduceSub, Int.reduceMul, Int.reduceNeg, Int.reduceEq, Try.results26]
    rw [hf]

def decS (rows : List (List D)) : List (List UInt8) := rows.map fun r => match r with
  | [.str l] => l
  | _ => []

def tabQ : Tab := fun f args =>
  if f = 26 then (match args with
    | [.d (.sl 1 rows)] => some (rows = (decS rows).map strRow ∧ (decS rows).length ≤ 1000, .d (.bool (shortF (decS rows))))
    | _ => none)
  else tabO f args
@[go_sem] theorem tabQ26 (rows : List (List D)) : tabQ 26 [.d (.sl 1 rows)] = some (rows = (decS rows).map strRow ∧ (decS rows).length ≤ 1000, .d (.bool (shortF (decS rows)))) := rfl
@[go_sem] theorem tabQ27 : tabQ 27 [] = some (True, .d (.bool true)) := rfl
@[go_sem] theorem tabQ30 (args : List AV) : tabQ 30 args = tabM 30 args := rfl
@[go_sem] theorem tabQ28 (args : List AV) : tabQ 28 args = tabN 28 args := rfl
@[go_sem] theorem tabQ32 (args : List AV) : tabQ 32 args = tabN 32 args := rfl
theorem tabQ_ok : TabOk Try.prog tabQ := ⟨fun f args pre r h hp => by
  unfold tabQ at h
  split at h
  · rename_i hf; subst hf
    split at h
    · cases h
      refine ⟨rfl, ?_⟩
      have := short_ok _ hp.2
      rwa [← hp.1] at this
    · cases h
  · exact tabO_ok.ok _ _ _ _ h hp⟩
end Go.Aw
