/-
  Layer 24: what Check computes.
-/
import Derived.Test.YtoofpcploeanpaaC24A
namespace Go.Aw
set_option maxRecDepth 100000
set_option linter.unusedSimpArgs false
set_option linter.unusedVariables false
open Go Go.Proofs

def decR : List (List D) → List (Bool × Int)
  | [] => []
  | [.bool b, .int .u32 n] :: l => (b, n) :: decR l
  | _ :: l => (false, 0) :: decR l

def tabA : Tab := fun f args =>
  if f = 20 then (match args with
    | [.d (.int .i64 k), .d (.bool c)] => some (True, .d (.int .i64 (flagsF k c)))
    | _ => none)
  else if f = 47 then (match args with
    | [.d (.sl 2 rows)] => some (rows = (decR rows).map ruleD ∧ (decR rows).length ≤ 1000, .d (.int .u32 (firstF (decR rows))))
    | _ => none)
  else none

@[go_sem] theorem tabA20 (k : Int) (c : Bool) : tabA 20 [.d (.int .i64 k), .d (.bool c)] = some (True, .d (.int .i64 (flagsF k c))) := rfl
@[go_sem] theorem tabA47 (rows : List (List D)) : tabA 47 [.d (.sl 2 rows)] = some (rows = (decR rows).map ruleD ∧ (decR rows).length ≤ 1000, .d (.int .u32 (firstF (decR rows)))) := rfl

theorem tabA_ok : TabOk Try.prog tabA := ⟨fun f args pre r h hp => by
  unfold tabA at h
  split at h
  · rename_i hf; subst hf
    split at h
    · cases h; exact ⟨rfl, flags_ok _ _⟩
    · cases h
  · split at h
    · rename_i hf; subst hf
      split at h
      · cases h
        refine ⟨rfl, ?_⟩
        have := first_ok _ hp.2
        rwa [← hp.1] at this
      · cases h
    · cases h⟩

def checkR (fl kind ofs len size : Int) (ch : Bool) (metas : Nat) : List (Bool × Int) :=
  [(decide (flagsF kind ch < 0) || ibits BinOp.andNot IntKind.i64 (ibits BinOp.and IntKind.i64 fl 65535) (flagsF kind ch) != 0, 22),
   (kind == 2, 0), (kind == 3 && (ofs != 0 || len != 0), 22), (kind == 3, 0), (len == 0, 22), (decide (1024 < len), 75),
   (decide (size < ofs) || decide (IntKind.u64.wrap (size - ofs) < IntKind.u64.wrap len), if (kind == 1) = true then 28 else 22),
   (kind == 7 && (!ch || (metas : Int) == 0), 22)]
def checkF (fl kind ofs len size : Int) (ch : Bool) (metas : Nat) : Int := firstF (checkR fl kind ofs len size ch metas)

set_option maxHeartbeats 4000000 in
theorem check_ok (fl kind ck ofs len size a : Int) (s b : List UInt8) (maps metas : List (List D)) (c ch : Bool) :
    ACall Try.prog 18 0 [.agg [.d (.int .i64 fl), .d (.int .i64 kind), .d (.int .u64 ck), .d (.int .u64 ofs), .d (.int .u32 len), .d (.str s)], .agg [.d (.int .u64 size), .d (.sl 1 maps)], .agg [.d (.int .i64 a), .d (.str b), .d (.bool c), .d (.bool ch), .d (.sl 1 metas)]] []
      (fun r _ => r = .d (.int .u32 (checkF fl kind ofs len size ch metas.length))) := by
  refine acall_of_body Try.func18 rfl (enters Try.func18 (by kernel_rfl) rfl) Try.ntmps18 (by simp) (fun base => ?_)
  refine aw_seq_regionT noTab (noTab_ok _) (fun K hK => ?_); simp only [go_sem, List.append_toArray, List.range_zero, ↓reduceIte, List.append_eq, Int.toNat_natCast, Nat.reduceAdd, Nat.reduceMul, Nat.reduceSub, Nat.reduceLT, Nat.reduceLeDiff, Nat.reduceEqDiff, Nat.reduceBEq, Int.reduceToNat, Int.reduceLT, Int.reduceLE, Int.reduceAdd, Int.reduceSub, Int.reduceMul, Int.reduceNeg, Int.reduceEq]
  refine hK _ ?_; clear hK K
  refine aw_seq_regionT tabA tabA_ok (fun K hK => ?_); simp only [go_sem, List.append_toArray, List.range_zero, ↓reduceIte, List.append_eq, Int.toNat_natCast, Nat.reduceAdd, Nat.reduceMul, Nat.reduceSub, Nat.reduceLT, Nat.reduceLeDiff, Nat.reduceEqDiff, Nat.reduceBEq, Int.reduceToNat, Int.reduceLT, Int.reduceLE, Int.reduceAdd, Int.reduceSub, Int.reduceMul, Int.reduceNeg, Int.reduceEq]
  refine hK _ ?_; clear hK K
  refine aw_seq_regionT noTab (noTab_ok _) (fun K hK => ?_); simp only [go_sem, List.append_toArray, List.range_zero, ↓reduceIte, List.append_eq, Int.toNat_natCast, Nat.reduceAdd, Nat.reduceMul, Nat.reduceSub, Nat.reduceLT, Nat.reduceLeDiff, Nat.reduceEqDiff, Nat.reduceBEq, Int.reduceToNat, Int.reduceLT, Int.reduceLE, Int.reduceAdd, Int.reduceSub, Int.reduceMul, Int.reduceNeg, Int.reduceEq]
  refine hK _ ?_; clear hK K
  refine aw_seq (fun K hK => ?_)
  refine aw_seq_regionT noTab (noTab_ok _) (fun K hK => ?_); simp only [go_sem, List.append_toArray, List.range_zero, ↓reduceIte, List.append_eq, Int.toNat_natCast, Nat.reduceAdd, Nat.reduceMul, Nat.reduceSub, Nat.reduceLT, Nat.reduceLeDiff, Nat.reduceEqDiff, Nat.reduceBEq, Int.reduceToNat, Int.reduceLT, Int.reduceLE, Int.reduceAdd, Int.reduceSub, Int.reduceMul, Int.reduceNeg, Int.reduceEq]
  refine hK _ ?_; clear hK K
  refine aw_cond rfl (fun hc => ?_) (fun hc => ?_)
  · refine aw_regionT noTab (noTab_ok _) ?_; simp only [go_sem, List.append_toArray, List.range_zero, ↓reduceIte, List.append_eq, Int.toNat_natCast, Nat.reduceAdd, Nat.reduceMul, Nat.reduceSub, Nat.reduceLT, Nat.reduceLeDiff, Nat.reduceEqDiff, Nat.reduceBEq, Int.reduceToNat, Int.reduceLT, Int.reduceLE, Int.reduceAdd, Int.reduceSub, Int.reduceMul, Int.reduceNeg, Int.reduceEq]
    refine hK _ ?_; clear hK K
    refine aw_seq_regionT tabA tabA_ok (fun K hK => ?_); simp only [go_sem, List.append_toArray, List.range_zero, ↓reduceIte, List.append_eq, Int.toNat_natCast, Nat.reduceAdd, Nat.reduceMul, Nat.reduceSub, Nat.reduceLT, Nat.reduceLeDiff, Nat.reduceEqDiff, Nat.reduceBEq, Int.reduceToNat, Int.reduceLT, Int.reduceLE, Int.reduceAdd, Int.reduceSub, Int.reduceMul, Int.reduceNeg, Int.reduceEq]
    refine hK _ ?_; clear hK K
    refine aw_seq_regionT tabA tabA_ok (fun K hK => ?_); simp only [go_sem, List.append_toArray, List.range_zero, ↓reduceIte, List.append_eq, Int.toNat_natCast, Nat.reduceAdd, Nat.reduceMul, Nat.reduceSub, Nat.reduceLT, Nat.reduceLeDiff, Nat.reduceEqDiff, Nat.reduceBEq, Int.reduceToNat, Int.reduceLT, Int.reduceLE, Int.reduceAdd, Int.reduceSub, Int.reduceMul, Int.reduceNeg, Int.reduceEq]
    refine ⟨by intro h; simp_all, by intro h; simp_all, ?_⟩
    simp only [go_sem, List.append_toArray, List.range_zero, ↓reduceIte, List.append_eq, Int.toNat_natCast, Nat.reduceAdd, Nat.reduceMul, Nat.reduceSub, Nat.reduceLT, Nat.reduceLeDiff, Nat.reduceEqDiff, Nat.reduceBEq, Int.reduceToNat, Int.reduceLT, Int.reduceLE, Int.reduceAdd, Int.reduceSub, Int.reduceMul, Int.reduceNeg, Int.reduceEq, decR, ruleD]
    refine hK _ ?_; clear hK K
    refine aw_ret ?_; simp only [go_sem, List.append_toArray, List.range_zero, ↓reduceIte, List.append_eq, Int.toNat_natCast, Nat.reduceAdd, Nat.reduceMul, Nat.reduceSub, Nat.reduceLT, Nat.reduceLeDiff, Nat.reduceEqDiff, Nat.reduceBEq, Int.reduceToNat, Int.reduceLT, Int.reduceLE, Int.reduceAdd, Int.reduceSub, Int.reduceMul, Int.reduceNeg, Int.reduceEq, Try.results18]
    simp only [checkF, checkR]
    rw [if_pos hc]
  · refine aw_skip ?_; simp only [go_sem, List.append_toArray, List.range_zero, ↓reduceIte, List.append_eq, Int.toNat_natCast, Nat.reduceAdd, Nat.reduceMul, Nat.reduceSub, Nat.reduceLT, Nat.reduceLeDiff, Nat.reduceEqDiff, Nat.reduceBEq, Int.reduceToNat, Int.reduceLT, Int.reduceLE, Int.reduceAdd, Int.reduceSub, Int.reduceMul, Int.reduceNeg, Int.reduceEq]; refine hK _ ?_; clear hK K
    refine aw_seq_regionT tabA tabA_ok (fun K hK => ?_); simp only [go_sem, List.append_toArray, List.range_zero, ↓reduceIte, List.append_eq, Int.toNat_natCast, Nat.reduceAdd, Nat.reduceMul, Nat.reduceSub, Nat.reduceLT, Nat.reduceLeDiff, Nat.reduceEqDiff, Nat.reduceBEq, Int.reduceToNat, Int.reduceLT, Int.reduceLE, Int.reduceAdd, Int.reduceSub, Int.reduceMul, Int.reduceNeg, Int.reduceEq]
    refine hK _ ?_; clear hK K
    refine aw_seq_regionT tabA tabA_ok (fun K hK => ?_); simp only [go_sem, List.append_toArray, List.range_zero, ↓reduceIte, List.append_eq, Int.toNat_natCast, Nat.reduceAdd, Nat.reduceMul, Nat.reduceSub, Nat.reduceLT, Nat.reduceLeDiff, Nat.reduceEqDiff, Nat.reduceBEq, Int.reduceToNat, Int.reduceLT, Int.reduceLE, Int.reduceAdd, Int.reduceSub, Int.reduceMul, Int.reduceNeg, Int.reduceEq]
    refine ⟨by intro h; simp_all, by intro h; simp_all, ?_⟩
    simp only [go_sem, List.append_toArray, List.range_zero, ↓reduceIte, List.append_eq, Int.toNat_natCast, Nat.reduceAdd, Nat.reduceMul, Nat.reduceSub, Nat.reduceLT, Nat.reduceLeDiff, Nat.reduceEqDiff, Nat.reduceBEq, Int.reduceToNat, Int.reduceLT, Int.reduceLE, Int.reduceAdd, Int.reduceSub, Int.reduceMul, Int.reduceNeg, Int.reduceEq, decR, ruleD]
    refine hK _ ?_; clear hK K
    refine aw_ret ?_; simp only [go_sem, List.append_toArray, List.range_zero, ↓reduceIte, List.append_eq, Int.toNat_natCast, Nat.reduceAdd, Nat.reduceMul, Nat.reduceSub, Nat.reduceLT, Nat.reduceLeDiff, Nat.reduceEqDiff, Nat.reduceBEq, Int.reduceToNat, Int.reduceLT, Int.reduceLE, Int.reduceAdd, Int.reduceSub, Int.reduceMul, Int.reduceNeg, Int.reduceEq, Try.results18]
    simp only [checkF, checkR]
    rw [if_neg (by simp [hc])]

def tabB : Tab := fun f args =>
  if f = 18 then (match args with
    | [.agg [.d (.int .i64 fl), .d (.int .i64 kind), .d (.int .u64 _), .d (.int .u64 ofs), .d (.int .u32 len), .d (.str _)], .agg [.d (.int .u64 size), .d (.sl 1 _)], .agg [.d (.int .i64 _), .d (.str _), .d (.bool _), .d (.bool ch), .d (.sl 1 metas)]] =>
      some (True, .d (.int .u32 (checkF fl kind ofs len size ch metas.length)))
    | _ => none)
  else none

@[go_sem] theorem tabB18 (fl kind ck ofs len size a : Int) (s b : List UInt8) (maps metas : List (List D)) (c ch : Bool) :
    tabB 18 [.agg [.d (.int .i64 fl), .d (.int .i64 kind), .d (.int .u64 ck), .d (.int .u64 ofs), .d (.int .u32 len), .d (.str s)], .agg [.d (.int .u64 size), .d (.sl 1 maps)], .agg [.d (.int .i64 a), .d (.str b), .d (.bool c), .d (.bool ch), .d (.sl 1 metas)]] = some (True, .d (.int .u32 (checkF fl kind ofs len size ch metas.length))) := rfl
theorem tabB_ok : TabOk Try.prog tabB := ⟨fun f args pre r h hp => by
  unfold tabB at h
  split at h
  · rename_i hf; subst hf
    split at h
    · cases h; exact ⟨rfl, check_ok _ _ _ _ _ _ _ _ _ _ _ _ _⟩
    · cases h
  · cases h⟩

theorem of_ok (k o n : Int) : ACall Try.prog 48 0 [.d (.int .i64 k), .d (.int .u64 o), .d (.int .u32 n), .dp [.d (.int .u64 512), .d (.sl 1 [])]] [] (fun r _ => r = .d (.int .u32 (checkF 0 k o n 512 false 0))) := by
  refine acall_of_body Try.func48 rfl (enters Try.func48 (by kernel_rfl) rfl) Try.ntmps48 (by simp) (fun base => ?_)
  refine aw_seq_regionT noTab (noTab_ok _) (fun K hK => ?_); simp only [go_sem, List.append_toArray, List.range_zero, ↓reduceIte, List.append_eq, Int.toNat_natCast, Nat.reduceAdd, Nat.reduceMul, Nat.reduceSub, Nat.reduceLT, Nat.reduceLeDiff, Nat.reduceEqDiff, Nat.reduceBEq, Int.reduceToNat, Int.reduceLT, Int.reduceLE, Int.reduceAdd, Int.reduceSub, Int.reduceMul, Int.reduceNeg, Int.reduceEq]
  refine hK _ ?_; clear hK K
  refine aw_seq_regionT tabB tabB_ok (fun K hK => ?_); simp only [go_sem, List.append_toArray, List.range_zero, ↓reduceIte, List.append_eq, Int.toNat_natCast, Nat.reduceAdd, Nat.reduceMul, Nat.reduceSub, Nat.reduceLT, Nat.reduceLeDiff, Nat.reduceEqDiff, Nat.reduceBEq, Int.reduceToNat, Int.reduceLT, Int.reduceLE, Int.reduceAdd, Int.reduceSub, Int.reduceMul, Int.reduceNeg, Int.reduceEq]
  refine hK _ ?_; clear hK K
  refine aw_ret ?_; simp only [go_sem, List.append_toArray, List.range_zero, ↓reduceIte, List.append_eq, Int.toNat_natCast, Nat.reduceAdd, Nat.reduceMul, Nat.reduceSub, Nat.reduceLT, Nat.reduceLeDiff, Nat.reduceEqDiff, Nat.reduceBEq, Int.reduceToNat, Int.reduceLT, Int.reduceLE, Int.reduceAdd, Int.reduceSub, Int.reduceMul, Int.reduceNeg, Int.reduceEq, Try.results48]

def tabC : Tab := fun f args =>
  if f = 48 then (match args with
    | [.d (.int .i64 k), .d (.int .u64 o), .d (.int .u32 n), .dp [.d (.int .u64 512), .d (.sl 1 [])]] => some (True, .d (.int .u32 (checkF 0 k o n 512 false 0)))
    | _ => none)
  else none
@[go_sem] theorem tabC48 (k o n : Int) : tabC 48 [.d (.int .i64 k), .d (.int .u64 o), .d (.int .u32 n), .dp [.d (.int .u64 512), .d (.sl 1 [])]] = some (True, .d (.int .u32 (checkF 0 k o n 512 false 0))) := rfl
theorem tabC_ok : TabOk Try.prog tabC := ⟨fun f args pre r h hp => by
  unfold tabC at h
  split at h
  · rename_i hf; subst hf
    split at h
    · cases h; exact ⟨rfl, of_ok _ _ _⟩
    · cases h
  · cases h⟩

theorem awake_ok : ACall Try.prog 19 0 [] [] (fun r _ => r = .d (.bool true)) := by
  refine acall_of_body Try.func19 rfl (enters Try.func19 (by kernel_rfl) rfl) Try.ntmps19 (by simp) (fun base => ?_)
  refine aw_seq_regionT noTab (noTab_ok _) (fun K hK => ?_); simp only [go_sem, List.append_toArray, List.range_zero, ↓reduceIte, List.append_eq, Int.toNat_natCast, Nat.reduceAdd, Nat.reduceMul, Nat.reduceSub, Nat.reduceLT, Nat.reduceLeDiff, Nat.reduceEqDiff, Nat.reduceBEq, Int.reduceToNat, Int.reduceLT, Int.reduceLE, Int.reduceAdd, Int.reduceSub, Int.reduceMul, Int.reduceNeg, Int.reduceEq]
  refine hK _ ?_; clear hK K
  refine aw_seq_regionT noTab (noTab_ok _) (fun K hK => ?_); simp only [go_sem, List.append_toArray, List.range_zero, ↓reduceIte, List.append_eq, Int.toNat_natCast, Nat.reduceAdd, Nat.reduceMul, Nat.reduceSub, Nat.reduceLT, Nat.reduceLeDiff, Nat.reduceEqDiff, Nat.reduceBEq, Int.reduceToNat, Int.reduceLT, Int.reduceLE, Int.reduceAdd, Int.reduceSub, Int.reduceMul, Int.reduceNeg, Int.reduceEq]
  refine hK _ ?_; clear hK K
  refine aw_seq_regionT noTab (noTab_ok _) (fun K hK => ?_); simp only [go_sem, List.append_toArray, List.range_zero, ↓reduceIte, List.append_eq, Int.toNat_natCast, Nat.reduceAdd, Nat.reduceMul, Nat.reduceSub, Nat.reduceLT, Nat.reduceLeDiff, Nat.reduceEqDiff, Nat.reduceBEq, Int.reduceToNat, Int.reduceLT, Int.reduceLE, Int.reduceAdd, Int.reduceSub, Int.reduceMul, Int.reduceNeg, Int.reduceEq]
  refine hK _ ?_; clear hK K
  refine aw_seq_regionT tabC tabC_ok (fun K hK => ?_); simp only [go_sem, List.append_toArray, List.range_zero, ↓reduceIte, List.append_eq, Int.toNat_natCast, Nat.reduceAdd, Nat.reduceMul, Nat.reduceSub, Nat.reduceLT, Nat.reduceLeDiff, Nat.reduceEqDiff, Nat.reduceBEq, Int.reduceToNat, Int.reduceLT, Int.reduceLE, Int.reduceAdd, Int.reduceSub, Int.reduceMul, Int.reduceNeg, Int.reduceEq]
  refine hK _ ?_; clear hK K
  refine aw_ret ?_; simp only [go_sem, List.append_toArray, List.range_zero, ↓reduceIte, List.append_eq, Int.toNat_natCast, Nat.reduceAdd, Nat.reduceMul, Nat.reduceSub, Nat.reduceLT, Nat.reduceLeDiff, Nat.reduceEqDiff, Nat.reduceBEq, Int.reduceToNat, Int.reduceLT, Int.reduceLE, Int.reduceAdd, Int.reduceSub, Int.reduceMul, Int.reduceNeg, Int.reduceEq, Try.results19]
  exact congrArg (fun b => AV.d (.bool b)) (by decide +kernel)

def tabD : Tab := fun f args =>
  if f = 18 then tabB 18 args
  else if f = 20 then tabA 20 args
  else if f = 19 then (match args with
    | [] => some (True, .d (.bool true))
    | _ => none)
  else none
@[go_sem] theorem tabD18 (args : List AV) : tabD 18 args = tabB 18 args := rfl
@[go_sem] theorem tabD20 (args : List AV) : tabD 20 args = tabA 20 args := rfl
@[go_sem] theorem tabD19 : tabD 19 [] = some (True, .d (.bool true)) := rfl
theorem tabD_ok : TabOk Try.prog tabD := ⟨fun f args pre r h hp => by
  unfold tabD at h
  split at h
  · rename_i hf; subst hf; exact tabB_ok.ok _ _ _ _ h hp
  · split at h
    · rename_i hf; subst hf; exact tabA_ok.ok _ _ _ _ h hp
    · split at h
      · rename_i hf; subst hf
        split at h
        · cases h; exact ⟨rfl, awake_ok⟩
        · cases h
      · cases h⟩

theorem kinds_law (kind : Int) : ACall Try.prog 6 0 [.d (.int .i64 kind)] [] (fun r _ => r = .d (.bool true)) := by
  refine acall_of_body Try.func6 rfl (enters Try.func6 (by kernel_rfl) rfl) Try.ntmps6 (by simp) (fun base => ?_)
  refine aw_seq_regionT noTab (noTab_ok _) (fun K hK => ?_); simp only [go_sem, List.append_toArray, List.range_zero, ↓reduceIte, List.append_eq, Int.toNat_natCast, Nat.reduceAdd, Nat.reduceMul, Nat.reduceSub, Nat.reduceLT, Nat.reduceLeDiff, Nat.reduceEqDiff, Nat.reduceBEq, Int.reduceToNat, Int.reduceLT, Int.reduceLE, Int.reduceAdd, Int.reduceSub, Int.reduceMul, Int.reduceNeg, Int.reduceEq]
  refine hK _ ?_; clear hK K
  refine aw_seq_regionT tabD tabD_ok (fun K hK => ?_); simp only [go_sem, List.append_toArray, List.range_zero, ↓reduceIte, List.append_eq, Int.toNat_natCast, Nat.reduceAdd, Nat.reduceMul, Nat.reduceSub, Nat.reduceLT, Nat.reduceLeDiff, Nat.reduceEqDiff, Nat.reduceBEq, Int.reduceToNat, Int.reduceLT, Int.reduceLE, Int.reduceAdd, Int.reduceSub, Int.reduceMul, Int.reduceNeg, Int.reduceEq]
  refine hK _ ?_; clear hK K
  refine aw_seq_regionT noTab (noTab_ok _) (fun K hK => ?_); simp only [go_sem, List.append_toArray, List.range_zero, ↓reduceIte, List.append_eq, Int.toNat_natCast, Nat.reduceAdd, Nat.reduceMul, Nat.reduceSub, Nat.reduceLT, Nat.reduceLeDiff, Nat.reduceEqDiff, Nat.reduceBEq, Int.reduceToNat, Int.reduceLT, Int.reduceLE, Int.reduceAdd, Int.reduceSub, Int.reduceMul, Int.reduceNeg, Int.reduceEq]
  refine hK _ ?_; clear hK K
  refine aw_seq_regionT tabD tabD_ok (fun K hK => ?_); simp only [go_sem, List.append_toArray, List.range_zero, ↓reduceIte, List.append_eq, Int.toNat_natCast, Nat.reduceAdd, Nat.reduceMul, Nat.reduceSub, Nat.reduceLT, Nat.reduceLeDiff, Nat.reduceEqDiff, Nat.reduceBEq, Int.reduceToNat, Int.reduceLT, Int.reduceLE, Int.reduceAdd, Int.reduceSub, Int.reduceMul, Int.reduceNeg, Int.reduceEq]
  refine ⟨(by first | exact fun h => ⟨h, fun h2 => by simp only [h, h2, Bool.and_self, Bool.not_true, Bool.not_false]⟩ | (intro h; simp_all)), (by first | exact fun h => ⟨h, fun h2 => by simp only [h, h2, Bool.and_self, Bool.not_true, Bool.not_false]⟩ | (intro h; simp_all)), (by first | exact fun h => ⟨h, fun h2 => by simp only [h, h2, Bool.and_self, Bool.not_true, Bool.not_false]⟩ | (intro h; simp_all)), hK _ ?_⟩; clear hK K
  refine aw_ret ?_; simp only [go_sem, List.append_toArray, List.range_zero, ↓reduceIte, List.append_eq, Int.toNat_natCast, Nat.reduceAdd, Nat.reduceMul, Nat.reduceSub, Nat.reduceLT, Nat.reduceLeDiff, Nat.reduceEqDiff, Nat.reduceBEq, Int.reduceToNat, Int.reduceLT, Int.reduceLE, Int.reduceAdd, Int.reduceSub, Int.reduceMul, Int.reduceNeg, Int.reduceEq, Try.results6]
  refine congrArg (fun b => AV.d (.bool b)) ?_
  by_cases hk : kind < 0 ∨ 8 ≤ kind
  · have h1 : ∀ c, flagsF kind c = -1 := fun c => by rw [flagsF, if_pos hk]
    have h2 : ¬ (0 ≤ kind ∧ kind ≤ 7) := by omega
    rw [h1, h1]
    by_cases h0 : 0 ≤ kind
    · have h7 : ¬ kind ≤ 7 := by omega
      simp [h7]
    · simp [h0]
  · have h8 : kind = 0 ∨ kind = 1 ∨ kind = 2 ∨ kind = 3 ∨ kind = 4 ∨ kind = 5 ∨ kind = 6 ∨ kind = 7 := by omega
    rcases h8 with rfl | rfl | rfl | rfl | rfl | rfl | rfl | rfl <;> decide +kernel

theorem firstF_zero {b : Bool} {n : Int} {l : List (Bool × Int)} (hn : n ≠ 0) (h : firstF ((b, n) :: l) = 0) : b = false ∧ firstF l = 0 := by
  unfold firstF at h
  cases b
  · exact ⟨rfl, by simpa using h⟩
  · exact absurd h (by simpa using hn)
theorem firstF_skip {b : Bool} {n : Int} {l : List (Bool × Int)} (hb : b = false) (h : firstF ((b, n) :: l) = 0) : firstF l = 0 := by
  subst hb
  simpa [firstF] using h

theorem checkF_disc {fl kind ofs len size : Int} {ch : Bool} {m : Nat} (h : checkF fl kind ofs len size ch m = 0) (hk : (kind == 2 || kind == 3) = true) : (kind == 2 || ofs == 0 && len == 0) = true := by
  unfold checkF checkR at h
  by_cases h2 : (kind == 2) = true
  · rw [h2]; rfl
  · have h2' : (kind == 2) = false := by simpa using h2
    rw [h2'] at hk ⊢
    have h3 : (kind == 3) = true := by simpa using hk
    have := (firstF_zero (by decide) (firstF_skip h2' (firstF_zero (by decide) h).2)).1
    rw [h3] at this
    simpa using this

theorem checkF_within {fl kind ofs len size : Int} {ch : Bool} {m : Nat} (hl : 0 ≤ len) (h : checkF fl kind ofs len size ch m = 0) (hk : (kind == 2 || kind == 3) = false) :
    (decide (1 ≤ len) && decide (len ≤ 1024) && decide (ofs ≤ size) && decide (IntKind.u64.wrap len ≤ IntKind.u64.wrap (size - ofs)) && (kind != 7 || decide (0 < (m : Int)) && ch)) = true := by
  unfold checkF checkR at h
  simp only [Bool.or_eq_false_iff] at hk
  have h3 := (firstF_zero (by decide) (firstF_skip hk.1 (firstF_zero (by decide) h).2)).2
  have h4 := firstF_skip hk.2 h3
  obtain ⟨h5, h5'⟩ := firstF_zero (by decide) h4
  obtain ⟨h6, h6'⟩ := firstF_zero (by decide) h5'
  obtain ⟨h7, h7'⟩ := firstF_zero (by split <;> decide) h6'
  obtain ⟨h8, _⟩ := firstF_zero (by decide) h7'
  have a1 : 1 ≤ len := by
    have : len ≠ 0 := by simpa using h5
    omega
  have a2 : len ≤ 1024 := by simpa using h6
  simp only [Bool.or_eq_false_iff, decide_eq_false_iff_not, Int.not_lt] at h7
  simp only [Bool.and_eq_true, decide_eq_true_eq, Bool.or_eq_true]
  refine ⟨⟨⟨⟨a1, a2⟩, h7.1⟩, h7.2⟩, ?_⟩
  by_cases h9 : kind = 7
  · right
    subst h9
    simp at h8
    obtain ⟨c1, c2⟩ := h8
    exact ⟨by omega, by simpa using c1⟩
  · left
    simpa using h9

theorem within_law (fl kind ck ofs len size a : Int) (s b : List UInt8) (maps metas : List (List D)) (c ch : Bool) (hl : 0 ≤ len) :
    ACall Try.prog 4 0 [.agg [.d (.int .i64 fl), .d (.int .i64 kind), .d (.int .u64 ck), .d (.int .u64 ofs), .d (.int .u32 len), .d (.str s)], .agg [.d (.int .u64 size), .d (.sl 1 maps)], .agg [.d (.int .i64 a), .d (.str b), .d (.bool c), .d (.bool ch), .d (.sl 1 metas)]] []
      (fun r _ => r = .d (.bool true)) := by
  refine acall_of_body Try.func4 rfl (enters Try.func4 (by kernel_rfl) rfl) Try.ntmps4 (by simp) (fun base => ?_)
  refine aw_seq_regionT noTab (noTab_ok _) (fun K hK => ?_); simp only [go_sem, List.append_toArray, List.range_zero, ↓reduceIte, List.append_eq, Int.toNat_natCast, Nat.reduceAdd, Nat.reduceMul, Nat.reduceSub, Nat.reduceLT, Nat.reduceLeDiff, Nat.reduceEqDiff, Nat.reduceBEq, Int.reduceToNat, Int.reduceLT, Int.reduceLE, Int.reduceAdd, Int.reduceSub, Int.reduceMul, Int.reduceNeg, Int.reduceEq]
  refine hK _ ?_; clear hK K
  refine aw_seq (fun K1 hK1 => ?_)
  refine aw_seq_regionT tabD tabD_ok (fun K hK => ?_); simp only [go_sem, List.append_toArray, List.range_zero, ↓reduceIte, List.append_eq, Int.toNat_natCast, Nat.reduceAdd, Nat.reduceMul, Nat.reduceSub, Nat.reduceLT, Nat.reduceLeDiff, Nat.reduceEqDiff, Nat.reduceBEq, Int.reduceToNat, Int.reduceLT, Int.reduceLE, Int.reduceAdd, Int.reduceSub, Int.reduceMul, Int.reduceNeg, Int.reduceEq]
  refine hK _ ?_; clear hK K
  refine aw_cond rfl (fun hc => ?_) (fun hc => ?_)
  · refine aw_seq_regionT tabD tabD_ok (fun K hK => ?_); simp only [go_sem, List.append_toArray, List.range_zero, ↓reduceIte, List.append_eq, Int.toNat_natCast, Nat.reduceAdd, Nat.reduceMul, Nat.reduceSub, Nat.reduceLT, Nat.reduceLeDiff, Nat.reduceEqDiff, Nat.reduceBEq, Int.reduceToNat, Int.reduceLT, Int.reduceLE, Int.reduceAdd, Int.reduceSub, Int.reduceMul, Int.reduceNeg, Int.reduceEq]
    refine hK _ ?_; clear hK K
    refine aw_ret ?_; simp only [go_sem, List.append_toArray, List.range_zero, ↓reduceIte, List.append_eq, Int.toNat_natCast, Nat.reduceAdd, Nat.reduceMul, Nat.reduceSub, Nat.reduceLT, Nat.reduceLeDiff, Nat.reduceEqDiff, Nat.reduceBEq, Int.reduceToNat, Int.reduceLT, Int.reduceLE, Int.reduceAdd, Int.reduceSub, Int.reduceMul, Int.reduceNeg, Int.reduceEq, Try.results4]
  · refine aw_skip ?_; simp only [go_sem, List.append_toArray, List.range_zero, ↓reduceIte, List.append_eq, Int.toNat_natCast, Nat.reduceAdd, Nat.reduceMul, Nat.reduceSub, Nat.reduceLT, Nat.reduceLeDiff, Nat.reduceEqDiff, Nat.reduceBEq, Int.reduceToNat, Int.reduceLT, Int.reduceLE, Int.reduceAdd, Int.reduceSub, Int.reduceMul, Int.reduceNeg, Int.reduceEq]; refine hK1 _ ?_; clear hK1 K1
    refine aw_seq (fun K1 hK1 => ?_)
    refine aw_seq_regionT noTab (noTab_ok _) (fun K hK => ?_); simp only [go_sem, List.append_toArray, List.range_zero, ↓reduceIte, List.append_eq, Int.toNat_natCast, Nat.reduceAdd, Nat.reduceMul, Nat.reduceSub, Nat.reduceLT, Nat.reduceLeDiff, Nat.reduceEqDiff, Nat.reduceBEq, Int.reduceToNat, Int.reduceLT, Int.reduceLE, Int.reduceAdd, Int.reduceSub, Int.reduceMul, Int.reduceNeg, Int.reduceEq]
    refine hK _ ?_; clear hK K
    refine aw_cond rfl (fun hc => ?_) (fun hc => ?_)
    · rename_i hc1
      refine aw_seq_regionT tabD tabD_ok (fun K hK => ?_); simp only [go_sem, List.append_toArray, List.range_zero, ↓reduceIte, List.append_eq, Int.toNat_natCast, Nat.reduceAdd, Nat.reduceMul, Nat.reduceSub, Nat.reduceLT, Nat.reduceLeDiff, Nat.reduceEqDiff, Nat.reduceBEq, Int.reduceToNat, Int.reduceLT, Int.reduceLE, Int.reduceAdd, Int.reduceSub, Int.reduceMul, Int.reduceNeg, Int.reduceEq]
      refine ⟨by intro h; simp_all, hK _ ?_⟩
      clear hK K
      refine aw_ret ?_; simp only [go_sem, List.append_toArray, List.range_zero, ↓reduceIte, List.append_eq, Int.toNat_natCast, Nat.reduceAdd, Nat.reduceMul, Nat.reduceSub, Nat.reduceLT, Nat.reduceLeDiff, Nat.reduceEqDiff, Nat.reduceBEq, Int.reduceToNat, Int.reduceLT, Int.reduceLE, Int.reduceAdd, Int.reduceSub, Int.reduceMul, Int.reduceNeg, Int.reduceEq, Try.results4]
      refine congrArg (fun b => AV.d (.bool b)) ?_
      exact checkF_disc (by simpa using hc1) hc
    · rename_i hc1
      refine aw_skip ?_; simp only [go_sem, List.append_toArray, List.range_zero, ↓reduceIte, List.append_eq, Int.toNat_natCast, Nat.reduceAdd, Nat.reduceMul, Nat.reduceSub, Nat.reduceLT, Nat.reduceLeDiff, Nat.reduceEqDiff, Nat.reduceBEq, Int.reduceToNat, Int.reduceLT, Int.reduceLE, Int.reduceAdd, Int.reduceSub, Int.reduceMul, Int.reduceNeg, Int.reduceEq]; refine hK1 _ ?_; clear hK1 K1
      refine aw_seq_regionT tabD tabD_ok (fun K hK => ?_); simp only [go_sem, List.append_toArray, List.range_zero, ↓reduceIte, List.append_eq, Int.toNat_natCast, Nat.reduceAdd, Nat.reduceMul, Nat.reduceSub, Nat.reduceLT, Nat.reduceLeDiff, Nat.reduceEqDiff, Nat.reduceBEq, Int.reduceToNat, Int.reduceLT, Int.reduceLE, Int.reduceAdd, Int.reduceSub, Int.reduceMul, Int.reduceNeg, Int.reduceEq]
      refine ⟨(by first | exact fun h => ⟨h, fun h2 => by simp only [h, h2, Bool.and_self, Bool.not_true, Bool.not_false]⟩ | (intro h; simp_all)), (by first | exact fun h => ⟨h, fun h2 => by simp only [h, h2, Bool.and_self, Bool.not_true, Bool.not_false]⟩ | (intro h; simp_all)), hK _ ?_⟩; clear hK K
      refine aw_ret ?_; simp only [go_sem, List.append_toArray, List.range_zero, ↓reduceIte, List.append_eq, Int.toNat_natCast, Nat.reduceAdd, Nat.reduceMul, Nat.reduceSub, Nat.reduceLT, Nat.reduceLeDiff, Nat.reduceEqDiff, Nat.reduceBEq, Int.reduceToNat, Int.reduceLT, Int.reduceLE, Int.reduceAdd, Int.reduceSub, Int.reduceMul, Int.reduceNeg, Int.reduceEq, Try.results4]
      refine congrArg (fun b => AV.d (.bool b)) ?_
      exact checkF_within hl (by simpa using hc1) hc

end Go.Aw
