/-
  Chapter 30's example; the laws CacheTells and CacheOldest.
-/
import Derived.Test.YtoofpcploeanpaaCacheE
--new
namespace Go.Aw
set_option maxRecDepth 100000
set_option linter.unusedSimpArgs false
set_option linter.unusedVariables false
open Go Go.Proofs

def awx : List UInt8 := List.replicate 128 120
def awk : Nat → List Blk × List Blk
  | 0 => ([], [])
  | k + 1 => ((putS (awk k).1 (k, awx, true)).1, (putS (awk k).1 (k, awx, true)).2.1)

noncomputable def tabL : Tab := tabOf [e_put_ok]
theorem tabL_ok : TabOk Try.prog tabL := tabOf_ok _
@[go_sem] theorem tabL_put_ok (args : List AV) : tabL 24 args = (e_put_ok).e args := rfl

theorem awk_len : ∀ i, i ≤ 9 → (awk i).1.length ≤ 300 := by
  intro i hi
  have : i = 0 ∨ i = 1 ∨ i = 2 ∨ i = 3 ∨ i = 4 ∨ i = 5 ∨ i = 6 ∨ i = 7 ∨ i = 8 ∨ i = 9 := by omega
  rcases this with rfl | rfl | rfl | rfl | rfl | rfl | rfl | rfl | rfl | rfl <;> decide +kernel
theorem awk_9 : (awk 9).2 = [(0, awx, true)] ∧ (awk 9).1.length = 8 ∧ (awk 9).1[0]? = some (8, awx, true) := by decide +kernel

theorem awake_ok : ACall Try.prog 23 0 [] [] (fun r _ => r = .d (.bool true)) := by
  refine acall_of_body Try.func23 rfl (enters Try.func23 (by kernel_rfl) rfl) Try.ntmps23 (by simp) (fun base => ?_)
  repeat' (first
    | ((first | refine aw_seq_regionT noTab (noTab_ok _) (fun K hK => ?_) | refine aw_regionT noTab (noTab_ok _) ?_ | refine aw_seq_region_drawF noTab (noTab_ok _) (show (cxOf Try.prog 0 0 0).P.follows .mixedOrders = true by kernel_rfl) (fun K hK => ?_) | refine aw_region_drawF noTab (noTab_ok _) (show (cxOf Try.prog 0 0 0).P.follows .mixedOrders = true by kernel_rfl) ?_ | refine aw_skip ?_ | refine aw_exit ?_ | refine aw_ret ?_); simp only [go_sem, ↓reduceIte, Nat.reduceAdd, Nat.reduceMul, Nat.reduceSub, Nat.reduceLT, Nat.reduceLeDiff, Nat.reduceEqDiff, Nat.reduceBEq, Int.reduceToNat, Int.reduceLT, Int.reduceLE, Int.reduceAdd, Int.reduceSub, Int.reduceMul, Int.reduceNeg, Int.reduceEq, Try.results23])
    | refine aw_seq (fun K hK => ?_)
    | refine aw_block ?_
    | refine aw_cond_t rfl ?_
    | refine aw_cond_f rfl ?_
    | refine aw_cond rfl (fun hc => ?_) (fun hc => ?_)
    | (first | (refine hK _ ?_; clear hK K) | (clear hK K; refine hK _ ?_; clear hK K) | (clear hK K; clear hK K; refine hK _ ?_; clear hK K) | (clear hK K; clear hK K; clear hK K; refine hK _ ?_; clear hK K) | (clear hK K; clear hK K; clear hK K; clear hK K; refine hK _ ?_; clear hK K))
    | ((first | refine (show AS.le _ _ from ?_) | refine (show leH _ _ from ?_) | refine (show inH _ _ from ?_)); simp only [AS.le, leT, leH, RoundK, AsgK, AV.le, AV.leL, AObj.le, inH, idsT, idsH, AV.ids, AV.idsL, AV.idsR, AObj.ids, lk, hget, go_sem, ↓reduceIte, Nat.reduceAdd, Nat.reduceMul, Nat.reduceSub, Nat.reduceLT, Nat.reduceLeDiff, Nat.reduceEqDiff, Nat.reduceBEq, Int.reduceToNat, Int.reduceLT, Int.reduceLE, Int.reduceAdd, Int.reduceSub, Int.reduceMul, Int.reduceNeg, Int.reduceEq])
    | refine fun (r2 : Rnd _) => ?_
    | refine fun (nb : Bool) (hnb : nb = true → _) => ?_
    | with_reducible refine And.intro ?_ ?_
    | exact ‹_ <+: _›
    | (refine (show drawOkF _ _ = true from ?_); kernel_rfl)
    | omega
    | refine fun (hg : (_ : Bool) = (_ : Bool)) => ?_)
  refine aw_loop (fun i : {i : Nat // i ≤ 128} => ⟨[(1, true, .d (.str (List.replicate i.1 120))), (5, true, .d (.int .i64 i.1))], [], some []⟩) (fun i => 128 - i.1) ⟨0, by omega⟩ (by simp only [AS.le, leT, leH, RoundK, AsgK, AV.le, AV.leL, AObj.le, inH, idsT, idsH, AV.ids, AV.idsL, AV.idsR, AObj.ids, lk, hget, go_sem, ↓reduceIte, Nat.reduceAdd, Nat.reduceMul, Nat.reduceSub, Nat.reduceLT, Nat.reduceLeDiff, Nat.reduceEqDiff, Nat.reduceBEq, Int.reduceToNat, Int.reduceLT, Int.reduceLE, Int.reduceAdd, Int.reduceSub, Int.reduceMul, Int.reduceNeg, Int.reduceEq]; rfl) (fun i => ?_)
  obtain ⟨i, hi⟩ := i
  simp only
  rcases Nat.lt_or_ge i 128 with h | h
  · have hlt : decide ((i : Int) < 128) = true := decide_eq_true (by omega)
    repeat' (first
    | ((first | refine aw_seq_regionT noTab (noTab_ok _) (fun K hK => ?_) | refine aw_regionT noTab (noTab_ok _) ?_ | refine aw_seq_region_drawF noTab (noTab_ok _) (show (cxOf Try.prog 0 0 0).P.follows .mixedOrders = true by kernel_rfl) (fun K hK => ?_) | refine aw_region_drawF noTab (noTab_ok _) (show (cxOf Try.prog 0 0 0).P.follows .mixedOrders = true by kernel_rfl) ?_ | refine aw_skip ?_ | refine aw_exit ?_ | refine aw_ret ?_); simp only [go_sem, ↓reduceIte, Nat.reduceAdd, Nat.reduceMul, Nat.reduceSub, Nat.reduceLT, Nat.reduceLeDiff, Nat.reduceEqDiff, Nat.reduceBEq, Int.reduceToNat, Int.reduceLT, Int.reduceLE, Int.reduceAdd, Int.reduceSub, Int.reduceMul, Int.reduceNeg, Int.reduceEq, hlt, List.length_replicate, Try.results23])
    | refine aw_seq (fun K hK => ?_)
    | refine aw_block ?_
    | refine aw_cond_t rfl ?_
    | refine aw_cond_f rfl ?_
    | refine aw_cond rfl (fun hc => ?_) (fun hc => ?_)
    | (first | (refine hK _ ?_; clear hK K) | (clear hK K; refine hK _ ?_; clear hK K) | (clear hK K; clear hK K; refine hK _ ?_; clear hK K) | (clear hK K; clear hK K; clear hK K; refine hK _ ?_; clear hK K) | (clear hK K; clear hK K; clear hK K; clear hK K; refine hK _ ?_; clear hK K))
    | ((first | refine (show AS.le _ _ from ?_) | refine (show leH _ _ from ?_) | refine (show inH _ _ from ?_)); simp only [AS.le, leT, leH, RoundK, AsgK, AV.le, AV.leL, AObj.le, inH, idsT, idsH, AV.ids, AV.idsL, AV.idsR, AObj.ids, lk, hget, go_sem, ↓reduceIte, Nat.reduceAdd, Nat.reduceMul, Nat.reduceSub, Nat.reduceLT, Nat.reduceLeDiff, Nat.reduceEqDiff, Nat.reduceBEq, Int.reduceToNat, Int.reduceLT, Int.reduceLE, Int.reduceAdd, Int.reduceSub, Int.reduceMul, Int.reduceNeg, Int.reduceEq, hlt, List.length_replicate])
    | refine fun (r2 : Rnd _) => ?_
    | refine fun (nb : Bool) (hnb : nb = true → _) => ?_
    | with_reducible refine And.intro ?_ ?_
    | exact ‹_ <+: _›
    | (refine (show drawOkF _ _ = true from ?_); kernel_rfl)
    | omega
    | refine fun (hg : (_ : Bool) = (_ : Bool)) => ?_)
    exact ⟨⟨i + 1, by omega⟩, by rw [wrap_suc (by omega), ← List.replicate_succ']; simp only [AS.le, leT, leH, RoundK, AsgK, AV.le, AV.leL, AObj.le, inH, idsT, idsH, AV.ids, AV.idsL, AV.idsR, AObj.ids, lk, hget, go_sem, ↓reduceIte, Nat.reduceAdd, Nat.reduceMul, Nat.reduceSub, Nat.reduceLT, Nat.reduceLeDiff, Nat.reduceEqDiff, Nat.reduceBEq, Int.reduceToNat, Int.reduceLT, Int.reduceLE, Int.reduceAdd, Int.reduceSub, Int.reduceMul, Int.reduceNeg, Int.reduceEq], by simp; omega⟩
  · have hlt : decide ((i : Int) < 128) = false := decide_eq_false (by omega)
    have h128 : i = 128 := by omega
    subst h128
    repeat' (first
    | ((first | refine aw_seq_regionT noTab (noTab_ok _) (fun K hK => ?_) | refine aw_regionT noTab (noTab_ok _) ?_ | refine aw_seq_region_drawF noTab (noTab_ok _) (show (cxOf Try.prog 0 0 0).P.follows .mixedOrders = true by kernel_rfl) (fun K hK => ?_) | refine aw_region_drawF noTab (noTab_ok _) (show (cxOf Try.prog 0 0 0).P.follows .mixedOrders = true by kernel_rfl) ?_ | refine aw_skip ?_ | refine aw_exit ?_ | refine aw_ret ?_); simp only [go_sem, ↓reduceIte, Nat.reduceAdd, Nat.reduceMul, Nat.reduceSub, Nat.reduceLT, Nat.reduceLeDiff, Nat.reduceEqDiff, Nat.reduceBEq, Int.reduceToNat, Int.reduceLT, Int.reduceLE, Int.reduceAdd, Int.reduceSub, Int.reduceMul, Int.reduceNeg, Int.reduceEq, hlt, Try.results23])
    | refine aw_seq (fun K hK => ?_)
    | refine aw_block ?_
    | refine aw_cond_t rfl ?_
    | refine aw_cond_f rfl ?_
    | refine aw_cond rfl (fun hc => ?_) (fun hc => ?_)
    | (first | (refine hK _ ?_; clear hK K) | (clear hK K; refine hK _ ?_; clear hK K) | (clear hK K; clear hK K; refine hK _ ?_; clear hK K) | (clear hK K; clear hK K; clear hK K; refine hK _ ?_; clear hK K) | (clear hK K; clear hK K; clear hK K; clear hK K; refine hK _ ?_; clear hK K))
    | ((first | refine (show AS.le _ _ from ?_) | refine (show leH _ _ from ?_) | refine (show inH _ _ from ?_)); simp only [AS.le, leT, leH, RoundK, AsgK, AV.le, AV.leL, AObj.le, inH, idsT, idsH, AV.ids, AV.idsL, AV.idsR, AObj.ids, lk, hget, go_sem, ↓reduceIte, Nat.reduceAdd, Nat.reduceMul, Nat.reduceSub, Nat.reduceLT, Nat.reduceLeDiff, Nat.reduceEqDiff, Nat.reduceBEq, Int.reduceToNat, Int.reduceLT, Int.reduceLE, Int.reduceAdd, Int.reduceSub, Int.reduceMul, Int.reduceNeg, Int.reduceEq, hlt])
    | refine fun (r2 : Rnd _) => ?_
    | refine fun (nb : Bool) (hnb : nb = true → _) => ?_
    | with_reducible refine And.intro ?_ ?_
    | exact ‹_ <+: _›
    | (refine (show drawOkF _ _ = true from ?_); kernel_rfl)
    | omega
    | refine fun (hg : (_ : Bool) = (_ : Bool)) => ?_)
    refine aw_loop (fun i : {i : Nat // i ≤ 9} => ⟨[(1, true, .d (.str awx)), (2, true, .d (.sl 3 ((awk i.1).1.map blkD))), (3, true, .d (.sl 3 ((awk i.1).2.map blkD))), (10, true, .d (.int .i64 i.1))], [], some []⟩) (fun i => 9 - i.1) ⟨0, by omega⟩ (by simp only [AS.le, leT, leH, RoundK, AsgK, AV.le, AV.leL, AObj.le, inH, idsT, idsH, AV.ids, AV.idsL, AV.idsR, AObj.ids, lk, hget, go_sem, ↓reduceIte, Nat.reduceAdd, Nat.reduceMul, Nat.reduceSub, Nat.reduceLT, Nat.reduceLeDiff, Nat.reduceEqDiff, Nat.reduceBEq, Int.reduceToNat, Int.reduceLT, Int.reduceLE, Int.reduceAdd, Int.reduceSub, Int.reduceMul, Int.reduceNeg, Int.reduceEq]; exact ⟨rfl, rfl, rfl, rfl⟩) (fun i => ?_)
    obtain ⟨i, hi⟩ := i
    simp only
    rcases Nat.lt_or_ge i 9 with h | h
    · have hlt : decide ((i : Int) < 9) = true := decide_eq_true (by omega)
      have hal := awk_len i hi
      repeat' (first
    | ((first | refine aw_seq_regionT tabL (tabL_ok) (fun K hK => ?_) | refine aw_regionT tabL (tabL_ok) ?_ | refine aw_seq_region_drawF tabL (tabL_ok) (show (cxOf Try.prog 0 0 0).P.follows .mixedOrders = true by kernel_rfl) (fun K hK => ?_) | refine aw_region_drawF tabL (tabL_ok) (show (cxOf Try.prog 0 0 0).P.follows .mixedOrders = true by kernel_rfl) ?_ | refine aw_skip ?_ | refine aw_exit ?_ | refine aw_ret ?_); simp only [go_sem, ↓reduceIte, Nat.reduceAdd, Nat.reduceMul, Nat.reduceSub, Nat.reduceLT, Nat.reduceLeDiff, Nat.reduceEqDiff, Nat.reduceBEq, Int.reduceToNat, Int.reduceLT, Int.reduceLE, Int.reduceAdd, Int.reduceSub, Int.reduceMul, Int.reduceNeg, Int.reduceEq, hlt, Try.results23])
    | refine aw_seq (fun K hK => ?_)
    | refine aw_block ?_
    | refine aw_cond_t rfl ?_
    | refine aw_cond_f rfl ?_
    | refine aw_cond rfl (fun hc => ?_) (fun hc => ?_)
    | (first | (refine hK _ ?_; clear hK K) | (clear hK K; refine hK _ ?_; clear hK K) | (clear hK K; clear hK K; refine hK _ ?_; clear hK K) | (clear hK K; clear hK K; clear hK K; refine hK _ ?_; clear hK K) | (clear hK K; clear hK K; clear hK K; clear hK K; refine hK _ ?_; clear hK K))
    | ((first | refine (show AS.le _ _ from ?_) | refine (show leH _ _ from ?_) | refine (show inH _ _ from ?_)); simp only [AS.le, leT, leH, RoundK, AsgK, AV.le, AV.leL, AObj.le, inH, idsT, idsH, AV.ids, AV.idsL, AV.idsR, AObj.ids, lk, hget, go_sem, ↓reduceIte, Nat.reduceAdd, Nat.reduceMul, Nat.reduceSub, Nat.reduceLT, Nat.reduceLeDiff, Nat.reduceEqDiff, Nat.reduceBEq, Int.reduceToNat, Int.reduceLT, Int.reduceLE, Int.reduceAdd, Int.reduceSub, Int.reduceMul, Int.reduceNeg, Int.reduceEq, hlt])
    | refine fun (r2 : Rnd _) => ?_
    | refine fun (nb : Bool) (hnb : nb = true → _) => ?_
    | with_reducible refine And.intro ?_ ?_
    | exact ‹_ <+: _›
    | (refine (show drawOkF _ _ = true from ?_); kernel_rfl)
    | omega
    | refine fun (hg : (_ : Bool) = (_ : Bool)) => ?_)
      exact ⟨⟨i + 1, by omega⟩, by rw [wrap_suc (by omega)]; simp only [AS.le, leT, leH, RoundK, AsgK, AV.le, AV.leL, AObj.le, inH, idsT, idsH, AV.ids, AV.idsL, AV.idsR, AObj.ids, lk, hget, go_sem, ↓reduceIte, Nat.reduceAdd, Nat.reduceMul, Nat.reduceSub, Nat.reduceLT, Nat.reduceLeDiff, Nat.reduceEqDiff, Nat.reduceBEq, Int.reduceToNat, Int.reduceLT, Int.reduceLE, Int.reduceAdd, Int.reduceSub, Int.reduceMul, Int.reduceNeg, Int.reduceEq]; exact ⟨rfl, rfl⟩, by simp; omega⟩
    · have hlt : decide ((i : Int) < 9) = false := decide_eq_false (by omega)
      have h9 : i = 9 := by omega
      subst h9
      obtain ⟨h1, h2, h3⟩ := awk_9
      have hrow := at_row (g := blkD) h3
      simp only [blkD] at hrow
      have hrow1 : ([(0, awx, true)] : List Blk).map blkD = [[D.int .i64 0, .str awx, .bool true]] := rfl
      repeat' (first
    | ((first | refine aw_seq_regionT noTab (noTab_ok _) (fun K hK => ?_) | refine aw_regionT noTab (noTab_ok _) ?_ | refine aw_seq_region_drawF noTab (noTab_ok _) (show (cxOf Try.prog 0 0 0).P.follows .mixedOrders = true by kernel_rfl) (fun K hK => ?_) | refine aw_region_drawF noTab (noTab_ok _) (show (cxOf Try.prog 0 0 0).P.follows .mixedOrders = true by kernel_rfl) ?_ | refine aw_skip ?_ | refine aw_exit ?_ | refine aw_ret ?_); simp only [go_sem, ↓reduceIte, Nat.reduceAdd, Nat.reduceMul, Nat.reduceSub, Nat.reduceLT, Nat.reduceLeDiff, Nat.reduceEqDiff, Nat.reduceBEq, Int.reduceToNat, Int.reduceLT, Int.reduceLE, Int.reduceAdd, Int.reduceSub, Int.reduceMul, Int.reduceNeg, Int.reduceEq, hlt, h1, h2, hrow, hrow1, Try.results23])
    | refine aw_seq (fun K hK => ?_)
    | refine aw_block ?_
    | refine aw_cond_t rfl ?_
    | refine aw_cond_f rfl ?_
    | refine aw_cond rfl (fun hc => ?_) (fun hc => ?_)
    | (first | (refine hK _ ?_; clear hK K) | (clear hK K; refine hK _ ?_; clear hK K) | (clear hK K; clear hK K; refine hK _ ?_; clear hK K) | (clear hK K; clear hK K; clear hK K; refine hK _ ?_; clear hK K) | (clear hK K; clear hK K; clear hK K; clear hK K; refine hK _ ?_; clear hK K))
    | ((first | refine (show AS.le _ _ from ?_) | refine (show leH _ _ from ?_) | refine (show inH _ _ from ?_)); simp only [AS.le, leT, leH, RoundK, AsgK, AV.le, AV.leL, AObj.le, inH, idsT, idsH, AV.ids, AV.idsL, AV.idsR, AObj.ids, lk, hget, go_sem, ↓reduceIte, Nat.reduceAdd, Nat.reduceMul, Nat.reduceSub, Nat.reduceLT, Nat.reduceLeDiff, Nat.reduceEqDiff, Nat.reduceBEq, Int.reduceToNat, Int.reduceLT, Int.reduceLE, Int.reduceAdd, Int.reduceSub, Int.reduceMul, Int.reduceNeg, Int.reduceEq, hlt, h1, h2, hrow, hrow1])
    | refine fun (r2 : Rnd _) => ?_
    | refine fun (nb : Bool) (hnb : nb = true → _) => ?_
    | with_reducible refine And.intro ?_ ?_
    | exact ‹_ <+: _›
    | (refine (show drawOkF _ _ = true from ?_); kernel_rfl)
    | omega
    | refine fun (hg : (_ : Bool) = (_ : Bool)) => ?_)
      rfl
noncomputable def e_awake_ok : Ent Try.prog := Ent.of 23 (fun _ : Unit => ([] : List AV)) (fun _ : Unit => (True : Prop)) (fun _ : Unit => (.d (.bool true) : AV)) (fun x hp => ⟨rfl, awake_ok ⟩)
@[go_sem] theorem a0_awake_ok  : (e_awake_ok).e [] = some (True, .d (.bool true)) := Ent.of_app (fun _ _ _ => rfl) ()

/-! ### Fit, twice told -/
theorem find_new (n : Int) (d : List UInt8 × Bool) (r : List Blk) : ∀ (pre : List Blk) (k : Nat), (pre.map (·.1)).contains n = false → findFrom n (pre ++ (n, d) :: r) k = ((k + pre.length : Nat) : Int)
  | [], k, _ => by simp [findFrom]
  | q :: pre, k, h => by
    simp only [List.map_cons, List.contains_cons, Bool.or_eq_false_iff, beq_eq_false_iff_ne] at h
    simp only [List.cons_append, findFrom]
    rw [if_neg (fun e => h.1 e.symm), find_new n d r pre (k + 1) h.2]
    simp only [List.length_cons]
    congr 1
    omega
theorem find_old (n : Int) (r : List Blk) : ∀ (pre : List Blk) (k : Nat), (pre.map (·.1)).contains n = true → findFrom n (pre ++ r) k ≠ ((k + pre.length : Nat) : Int)
  | [], k, h => by simp at h
  | q :: pre, k, h => by
    simp only [List.map_cons, List.contains_cons, Bool.or_eq_true, beq_iff_eq] at h
    simp only [List.cons_append, findFrom]
    split
    · simp only [List.length_cons]; omega
    · rename_i hq
      have := find_old n r pre (k + 1) (h.elim (fun e => absurd e.symm hq) id)
      intro e
      apply this
      rw [e]
      simp only [List.length_cons]
      congr 1
      omega

theorem fit_both : ∀ (rest pre : List Blk), fitM rest (pre.map (·.1)) = fitR (pre ++ rest) rest pre.length
  | [], _ => rfl
  | (n, d) :: rest, pre => by
    have ih := fit_both rest (pre ++ [(n, d)])
    simp only [List.map_append, List.map_cons, List.map_nil, List.append_assoc, List.singleton_append, List.length_append, List.length_cons, List.length_nil, Nat.zero_add] at ih
    simp only [fitM, fitR]
    rw [ih]
    congr 1
    cases hs : (pre.map (·.1)).contains n with
    | true =>
      have := find_old n ((n, d) :: rest) pre 0 hs
      rw [Nat.zero_add] at this
      simp [this]
    | false =>
      have := find_new n d rest pre 0 hs
      rw [Nat.zero_add] at this
      rw [this]
      simp only [Bool.or_false, bne_self_eq_false, Bool.not_not, good, bne]
      by_cases h0 : n < 0
      · simp only [h0, decide_true, Bool.true_or, Bool.not_true, decide_eq_false (show ¬ (0 ≤ n) by omega), Bool.false_and, Bool.not_false]
      · by_cases h1 : 1073741824 < n
        · simp only [h1, decide_true, Bool.true_or, Bool.or_true, Bool.not_true, decide_eq_false (show ¬ (n ≤ 1073741824) by omega), Bool.and_false, Bool.false_and, Bool.not_false]
        · have e0 : 0 ≤ n := by omega
          have e1 : n ≤ 1073741824 := by omega
          simp [h0, h1, e0, e1]
theorem fit_eq (l : List Blk) : fit l = (fitR l l 0 && decide (l.length ≤ 8)) := by
  have := fit_both l []
  simp only [List.map_nil, List.nil_append, List.length_nil] at this
  rw [fit, this]

noncomputable def e_fit_ok : Ent Try.prog := Ent.of 25 (fun x : (List Blk) => (fun (l : List Blk) => ([.d (.sl 3 (l.map blkD))] : List AV)) x) (fun x : (List Blk) => (fun (l : List Blk) => ((l.length ≤ 300) : Prop)) x) (fun x : (List Blk) => (fun (l : List Blk) => (.d (.bool (fit l)) : AV)) x) (fun x hp => ⟨rfl, fit_ok x hp⟩)
theorem i_fit_ok : ∀ x y : (List Blk), (fun x : (List Blk) => (fun (l : List Blk) => ([.d (.sl 3 (l.map blkD))] : List AV)) x) x = (fun x : (List Blk) => (fun (l : List Blk) => ([.d (.sl 3 (l.map blkD))] : List AV)) x) y → x = y := by
  intro x y h
  skip
  simpa only [List.cons.injEq, AV.d.injEq, AV.agg.injEq, AV.dp.injEq, AV.fn.injEq, AV.tup.injEq, AV.asl.injEq, Int.natCast_inj, D.int.injEq, D.str.injEq, D.bool.injEq, D.sl.injEq, Prod.mk.injEq, and_true, true_and, and_assoc, map_inj blkD_inj, map_inj intD_inj, map_inj strD_inj, map_inj boolD_inj] using h
@[go_sem] theorem a0_fit_ok (l : List Blk) : (e_fit_ok).e [.d (.sl 3 (l.map blkD))] = some ((l.length ≤ 300), .d (.bool (fit l))) := Ent.of_app i_fit_ok (l)
@[go_sem] theorem a1_fit_ok  : (e_fit_ok).e [.d (.sl 3 [])] = some ((([] : List Blk).length ≤ 300), .d (.bool (fit ([] : List Blk)))) := Ent.of_app i_fit_ok (([] : List Blk))
noncomputable def tabT : Tab := tabOf [e_fit_ok, e_fitRef_ok, e_awake_ok]
theorem tabT_ok : TabOk Try.prog tabT := tabOf_ok _
@[go_sem] theorem tabT_fit_ok (args : List AV) : tabT 25 args = (e_fit_ok).e args := rfl
@[go_sem] theorem tabT_fitRef_ok (args : List AV) : tabT 21 args = (e_fitRef_ok).e args := rfl
@[go_sem] theorem tabT_awake_ok (args : List AV) : tabT 23 args = (e_awake_ok).e args := rfl

theorem cacheTells_law (l : List Blk) : ACall Try.prog 8 0 [.d (.sl 3 (l.map blkD))] [] (fun r _ => r = .d (.bool true)) := by
  refine acall_of_body Try.func8 rfl (enters Try.func8 (by kernel_rfl) rfl) Try.ntmps8 (by simp) (fun base => ?_)
  rcases Nat.lt_or_ge 300 l.length with h | h
  · have hlt : decide ((300 : Int) < (l.length : Int)) = true := decide_eq_true (by omega)
    repeat' (first
    | ((first | refine aw_seq_regionT tabT (tabT_ok) (fun K hK => ?_) | refine aw_regionT tabT (tabT_ok) ?_ | refine aw_seq_region_drawF tabT (tabT_ok) (show (cxOf Try.prog 0 0 0).P.follows .mixedOrders = true by kernel_rfl) (fun K hK => ?_) | refine aw_region_drawF tabT (tabT_ok) (show (cxOf Try.prog 0 0 0).P.follows .mixedOrders = true by kernel_rfl) ?_ | refine aw_skip ?_ | refine aw_exit ?_ | refine aw_ret ?_); simp only [go_sem, ↓reduceIte, Nat.reduceAdd, Nat.reduceMul, Nat.reduceSub, Nat.reduceLT, Nat.reduceLeDiff, Nat.reduceEqDiff, Nat.reduceBEq, Int.reduceToNat, Int.reduceLT, Int.reduceLE, Int.reduceAdd, Int.reduceSub, Int.reduceMul, Int.reduceNeg, Int.reduceEq, hlt, Try.results8])
    | refine aw_seq (fun K hK => ?_)
    | refine aw_block ?_
    | refine aw_cond_t rfl ?_
    | refine aw_cond_f rfl ?_
    | refine aw_cond rfl (fun hc => ?_) (fun hc => ?_)
    | (first | (refine hK _ ?_; clear hK K) | (clear hK K; refine hK _ ?_; clear hK K) | (clear hK K; clear hK K; refine hK _ ?_; clear hK K) | (clear hK K; clear hK K; clear hK K; refine hK _ ?_; clear hK K) | (clear hK K; clear hK K; clear hK K; clear hK K; refine hK _ ?_; clear hK K))
    | ((first | refine (show AS.le _ _ from ?_) | refine (show leH _ _ from ?_) | refine (show inH _ _ from ?_)); simp only [AS.le, leT, leH, RoundK, AsgK, AV.le, AV.leL, AObj.le, inH, idsT, idsH, AV.ids, AV.idsL, AV.idsR, AObj.ids, lk, hget, go_sem, ↓reduceIte, Nat.reduceAdd, Nat.reduceMul, Nat.reduceSub, Nat.reduceLT, Nat.reduceLeDiff, Nat.reduceEqDiff, Nat.reduceBEq, Int.reduceToNat, Int.reduceLT, Int.reduceLE, Int.reduceAdd, Int.reduceSub, Int.reduceMul, Int.reduceNeg, Int.reduceEq, hlt])
    | refine fun (r2 : Rnd _) => ?_
    | refine fun (nb : Bool) (hnb : nb = true → _) => ?_
    | with_reducible refine And.intro ?_ ?_
    | exact ‹_ <+: _›
    | (refine (show drawOkF _ _ = true from ?_); kernel_rfl)
    | omega
    | refine fun (hg : (_ : Bool) = (_ : Bool)) => ?_)
  · have hlt : decide ((300 : Int) < (l.length : Int)) = false := decide_eq_false (by omega)
    repeat' (first
    | ((first | refine aw_seq_regionT tabT (tabT_ok) (fun K hK => ?_) | refine aw_regionT tabT (tabT_ok) ?_ | refine aw_seq_region_drawF tabT (tabT_ok) (show (cxOf Try.prog 0 0 0).P.follows .mixedOrders = true by kernel_rfl) (fun K hK => ?_) | refine aw_region_drawF tabT (tabT_ok) (show (cxOf Try.prog 0 0 0).P.follows .mixedOrders = true by kernel_rfl) ?_ | refine aw_skip ?_ | refine aw_exit ?_ | refine aw_ret ?_); simp only [go_sem, ↓reduceIte, Nat.reduceAdd, Nat.reduceMul, Nat.reduceSub, Nat.reduceLT, Nat.reduceLeDiff, Nat.reduceEqDiff, Nat.reduceBEq, Int.reduceToNat, Int.reduceLT, Int.reduceLE, Int.reduceAdd, Int.reduceSub, Int.reduceMul, Int.reduceNeg, Int.reduceEq, hlt, ← fit_eq, Try.results8])
    | refine aw_seq (fun K hK => ?_)
    | refine aw_block ?_
    | refine aw_cond_t rfl ?_
    | refine aw_cond_f rfl ?_
    | refine aw_cond rfl (fun hc => ?_) (fun hc => ?_)
    | (first | (refine hK _ ?_; clear hK K) | (clear hK K; refine hK _ ?_; clear hK K) | (clear hK K; clear hK K; refine hK _ ?_; clear hK K) | (clear hK K; clear hK K; clear hK K; refine hK _ ?_; clear hK K) | (clear hK K; clear hK K; clear hK K; clear hK K; refine hK _ ?_; clear hK K))
    | ((first | refine (show AS.le _ _ from ?_) | refine (show leH _ _ from ?_) | refine (show inH _ _ from ?_)); simp only [AS.le, leT, leH, RoundK, AsgK, AV.le, AV.leL, AObj.le, inH, idsT, idsH, AV.ids, AV.idsL, AV.idsR, AObj.ids, lk, hget, go_sem, ↓reduceIte, Nat.reduceAdd, Nat.reduceMul, Nat.reduceSub, Nat.reduceLT, Nat.reduceLeDiff, Nat.reduceEqDiff, Nat.reduceBEq, Int.reduceToNat, Int.reduceLT, Int.reduceLE, Int.reduceAdd, Int.reduceSub, Int.reduceMul, Int.reduceNeg, Int.reduceEq, hlt, ← fit_eq])
    | refine fun (r2 : Rnd _) => ?_
    | refine fun (nb : Bool) (hnb : nb = true → _) => ?_
    | with_reducible refine And.intro ?_ ?_
    | exact ‹_ <+: _›
    | (refine (show drawOkF _ _ = true from ?_); kernel_rfl)
    | omega
    | refine fun (hg : (_ : Bool) = (_ : Bool)) => ?_)

theorem fitM_iff : ∀ (l : List Blk) (seen : List Int), fitM l seen = true ↔ (∀ q ∈ l, good q = true) ∧ (l.map (·.1)).Nodup ∧ ∀ q ∈ l, q.1 ∉ seen
  | [], seen => by simp [fitM]
  | (n, d) :: l, seen => by
    have ih := fitM_iff l (seen ++ [n])
    simp only [fitM, Bool.and_eq_true, ih, List.map_cons, List.nodup_cons, List.forall_mem_cons, List.mem_append, List.mem_singleton, not_or]
    have hg : (!(decide (n < 0) || decide (1073741824 < n) || ((d.1.length : Int) != 128) || seen.contains n)) = true ↔ good (n, d) = true ∧ n ∉ seen := by
      simp only [Bool.not_eq_true', Bool.or_eq_false_iff, decide_eq_false_iff_not, bne_eq_false_iff_eq, good, Bool.and_eq_true, decide_eq_true_eq, beq_iff_eq, List.contains_eq_mem]
      constructor
      · rintro ⟨⟨⟨h1, h2⟩, h3⟩, h4⟩; exact ⟨⟨⟨by omega, by omega⟩, h3⟩, h4⟩
      · rintro ⟨⟨⟨h1, h2⟩, h3⟩, h4⟩; exact ⟨⟨⟨by omega, by omega⟩, h3⟩, h4⟩
    rw [hg]
    constructor
    · rintro ⟨⟨h1, h2⟩, h3, h4, h5⟩
      refine ⟨⟨h1, h3⟩, ⟨?_, h4⟩, h2, fun q hq => (h5 q hq).1⟩
      intro hm
      obtain ⟨q, hq, e⟩ := List.mem_map.1 hm
      exact (h5 q hq).2 e
    · rintro ⟨⟨h1, h3⟩, ⟨h6, h4⟩, h2, h5⟩
      exact ⟨⟨h1, h2⟩, h3, h4, fun q hq => ⟨h5 q hq, fun e => h6 (List.mem_map.2 ⟨q, hq, e⟩)⟩⟩

theorem withoutFrom_far (k : Int) : ∀ (l : List Blk) (i : Nat), k < (i : Int) → withoutFrom k l i = l
  | [], _, _ => rfl
  | q :: l, i, h => by
    simp only [withoutFrom]
    rw [if_pos (by omega), withoutFrom_far k l (i + 1) (by omega)]

theorem without_filter (n : Int) : ∀ (l : List Blk) (i : Nat), (l.map (·.1)).Nodup → withoutFrom (findFrom n l i) l i = l.filter (fun q => q.1 != n)
  | [], _, _ => rfl
  | q :: l, i, h => by
    simp only [List.map_cons, List.nodup_cons] at h
    simp only [findFrom]
    by_cases hq : q.1 = n
    · rw [if_pos hq]
      simp only [withoutFrom]
      rw [if_neg (by omega), withoutFrom_far _ _ _ (by omega), List.filter_cons_of_neg (by simp [hq])]
      symm
      rw [List.filter_eq_self]
      intro a ha
      have : a.1 ≠ n := by
        rintro e
        exact h.1 (List.mem_map.2 ⟨a, ha, e.trans hq.symm⟩)
      simpa using this
    · rw [if_neg hq, List.filter_cons_of_pos (by simpa using hq)]
      have ih := without_filter n l (i + 1) h.2
      simp only [withoutFrom]
      rw [ih, if_pos]
      rcases findFrom_spec n l (i + 1) with e | ⟨j, q', e, _⟩ <;> omega

/-- What Put comes to, where all is fit. -/
theorem put_facts {l : List Blk} {n : Int} {d : List UInt8} {b : Bool} (hf : fitM l [] = true) (hl : l.length ≤ 8) (hg : good (n, d, b) = true) :
    ∃ x b2 W O, putS l (n, d, b) = ((n, d, b2) :: W, O, 0) ∧ x = (n, d, b2) ∧ fitM ((n, d, b2) :: W) [] = true ∧ W = (l.filter (fun q => q.1 != n)).take 7 ∧ O.length ≤ 1 ∧ (∀ o ∈ O, l.length = 8 ∧ l[7]? = some o ∧ o.2.2 = true ∧ o.1 ≠ n) := by
  obtain ⟨h1, h2, _⟩ := (fitM_iff _ _).1 hf
  have hW := without_filter n l 0 h2
  have hg' := hg
  simp only [good, Bool.and_eq_true, decide_eq_true_eq, beq_iff_eq] at hg
  have hput : putS l (n, d, b) = (((n, d, b || was l n) :: withoutFrom (findFrom n l 0) l 0).take 8, dirties (((n, d, b || was l n) :: withoutFrom (findFrom n l 0) l 0).drop 8), 0) := by
    rw [putS, if_neg (by simp only; omega), if_neg (by simp only; omega)]
    rfl
  rw [hW] at hput
  refine ⟨_, b || was l n, _, _, hput, rfl, ?_, rfl, ?_, ?_⟩
  · refine (fitM_iff _ _).2 ⟨?_, ?_, by simp⟩
    · intro q hq
      rcases List.mem_cons.1 hq with rfl | hq
      · exact hg'
      · exact h1 q (List.mem_filter.1 (List.mem_of_mem_take hq)).1
    · simp only [List.map_cons, List.nodup_cons]
      constructor
      · intro hm
        obtain ⟨q, hq, e⟩ := List.mem_map.1 hm
        have := (List.mem_filter.1 (List.mem_of_mem_take hq)).2
        simp [e] at this
      · exact h2.sublist ((List.take_sublist 7 _).trans List.filter_sublist |>.map _)
  · refine Nat.le_trans (List.length_filter_le _ _) ?_
    simp only [List.drop_succ_cons, List.length_drop]
    have := List.length_filter_le (fun q : Blk => q.1 != n) l
    omega
  · intro o ho
    obtain ⟨ho, hd⟩ := List.mem_filter.1 ho
    simp only [List.drop_succ_cons] at ho
    have hfl := List.length_filter_le (fun q : Blk => q.1 != n) l
    have hpos := List.length_pos_of_mem ho
    simp only [List.length_drop] at hpos
    have hall : l.filter (fun q => q.1 != n) = l := List.length_filter_eq_length_iff.1 (by omega) |> fun h => List.filter_eq_self.2 h
    rw [hall] at ho hpos
    have h8 : l.length = 8 := by omega
    have hon := List.mem_of_mem_drop ho
    rw [← hall] at hon
    refine ⟨h8, ?_, hd, by simpa using (List.mem_filter.1 hon).2⟩
    obtain ⟨j, hj⟩ := List.mem_iff_getElem?.1 ho
    rw [List.getElem?_drop] at hj
    have := (List.getElem?_eq_some_iff.1 hj).1
    have : j = 0 := by omega
    subst this
    exact hj

noncomputable def tabO : Tab := tabOf [e_good_ok, e_fitRef_ok, e_awake_ok, e_put_ok]
theorem tabO_ok : TabOk Try.prog tabO := tabOf_ok _
@[go_sem] theorem tabO_good_ok (args : List AV) : tabO 22 args = (e_good_ok).e args := rfl
@[go_sem] theorem tabO_fitRef_ok (args : List AV) : tabO 21 args = (e_fitRef_ok).e args := rfl
@[go_sem] theorem tabO_awake_ok (args : List AV) : tabO 23 args = (e_awake_ok).e args := rfl
@[go_sem] theorem tabO_put_ok (args : List AV) : tabO 24 args = (e_put_ok).e args := rfl

abbrev O1st (O : List Blk) := { i : Nat // i ≤ O.length }
def cntN (n : Int) (l : List Blk) : Nat := (l.filter (fun q => q.1 != n)).length

theorem cnt_row {n : Int} {l : List Blk} {i : Nat} {q : Blk} (hq : l[i]? = some q) (h : q.1 ≠ n) : (l.filter (fun q => q.1 != n))[cntN n (l.take i)]? = some q ∧ cntN n (l.take (i + 1)) = cntN n (l.take i) + 1 := by
  have hs : l = l.take i ++ q :: l.drop (i + 1) := by rw [← at_drop hq, List.take_append_drop]
  have hp : (q.1 != n) = true := by simpa using h
  constructor
  · conv => lhs; arg 1; rw [hs]
    rw [List.filter_append, List.filter_cons_of_pos (p := fun q : Blk => q.1 != n) hp]
    unfold cntN
    simp
  · rw [at_take hq]
    unfold cntN
    rw [List.filter_append, List.filter_cons_of_pos (p := fun q : Blk => q.1 != n) hp]
    simp
theorem cnt_same {n : Int} {l : List Blk} {i : Nat} {q : Blk} (hq : l[i]? = some q) (h : q.1 = n) : cntN n (l.take (i + 1)) = cntN n (l.take i) := by
  rw [at_take hq]
  unfold cntN
  rw [List.filter_append, List.filter_cons_of_neg (by simp [h])]
  simp
theorem cnt_le (n : Int) (l : List Blk) (i : Nat) : cntN n (l.take i) ≤ l.length :=
  Nat.le_trans (List.length_filter_le _ _) (by simp; omega)

end Go.Aw
