/-
  Put: what is kept, what goes.
-/
import Derived.Test.YtoofpcploeanpaaCacheC
--new
namespace Go.Aw
set_option maxRecDepth 100000
set_option linter.unusedSimpArgs false
set_option linter.unusedVariables false
open Go Go.Proofs

theorem dirty_ok (rows : List (List D)) : ACall Try.prog 52 0 [.d (.sl 3 rows)] [] (fun r _ => r = .fn (.func 65) [] [.dp [.d (.sl 3 rows)]]) := by
  refine acall_frz ?_
  refine acall_of_body Try.func52 rfl (enters Try.func52 (by kernel_rfl) rfl) Try.ntmps52 (by simp) (fun base => ?_)
  repeat' (first
    | ((first | refine aw_seq_regionT noTab (noTab_ok _) (fun K hK => ?_) | refine aw_regionT noTab (noTab_ok _) ?_ | refine aw_seq_region_drawF noTab (noTab_ok _) (show (cxOf Try.prog 0 0 0).P.follows .mixedOrders = true by kernel_rfl) (fun K hK => ?_) | refine aw_region_drawF noTab (noTab_ok _) (show (cxOf Try.prog 0 0 0).P.follows .mixedOrders = true by kernel_rfl) ?_ | refine aw_skip ?_ | refine aw_exit ?_ | refine aw_ret ?_); simp only [go_sem, ↓reduceIte, Nat.reduceAdd, Nat.reduceMul, Nat.reduceSub, Nat.reduceLT, Nat.reduceLeDiff, Nat.reduceEqDiff, Nat.reduceBEq, Int.reduceToNat, Int.reduceLT, Int.reduceLE, Int.reduceAdd, Int.reduceSub, Int.reduceMul, Int.reduceNeg, Int.reduceEq, Try.results52])
    | refine aw_seq (fun K hK => ?_)
    | refine aw_block ?_
    | refine aw_cond_t rfl ?_
    | refine aw_cond_f rfl ?_
    | refine aw_cond rfl (fun hc => ?_) (fun hc => ?_)
    | (first | (refine hK _ ?_; clear hK K) | (clear hK K; refine hK _ ?_; clear hK K) | (clear hK K; clear hK K; refine hK _ ?_; clear hK K) | (clear hK K; clear hK K; clear hK K; refine hK _ ?_; clear hK K) | (clear hK K; clear hK K; clear hK K; clear hK K; refine hK _ ?_; clear hK K))
    | ((first | refine (show AS.le _ _ from ?_) | refine (show leH _ _ from ?_) | refine (show inH _ _ from ?_)); simp only [AS.le, leT, leH, RoundK, AsgK, AV.le, AV.leL, AObj.le, inH, idsT, idsH, AV.ids, AV.idsL, AV.idsR, AObj.ids, lk, hget, go_sem, ↓reduceIte, Nat.reduceAdd, Nat.reduceMul, Nat.reduceSub, Nat.reduceLT, Nat.reduceLeDiff, Nat.reduceEqDiff, Nat.reduceBEq, Int.reduceToNat, Int.reduceLT, Int.reduceLE, Int.reduceAdd, Int.reduceSub, Int.reduceMul, Int.reduceNeg, Int.reduceEq])
    | refine fun (r2 : Rnd _) => ?_
    | refine fun (nb : Bool) (hnb : nb = true → _) => ?_
    | with_reducible refine And.intro ?_ ?_
    | exact ‹_ <+: _›
    | (refine (show drawOkF _ _ = true from ?_); kernel_rfl)
    | omega
    | refine fun (hg : (_ : Bool) = (_ : Bool)) => ?_)
noncomputable def e_dirty_ok : Ent Try.prog := Ent.of 52 (fun x : (List (List D)) => (fun (rows : List (List D)) => ([.d (.sl 3 rows)] : List AV)) x) (fun x : (List (List D)) => (fun (rows : List (List D)) => (True : Prop)) x) (fun x : (List (List D)) => (fun (rows : List (List D)) => (.fn (.func 65) [] [.dp [.d (.sl 3 rows)]] : AV)) x) (fun x hp => ⟨rfl, dirty_ok x⟩)
theorem i_dirty_ok : ∀ x y : (List (List D)), (fun x : (List (List D)) => (fun (rows : List (List D)) => ([.d (.sl 3 rows)] : List AV)) x) x = (fun x : (List (List D)) => (fun (rows : List (List D)) => ([.d (.sl 3 rows)] : List AV)) x) y → x = y := by
  intro x y h
  skip
  simpa only [List.cons.injEq, AV.d.injEq, AV.agg.injEq, AV.dp.injEq, AV.fn.injEq, AV.tup.injEq, AV.asl.injEq, Int.natCast_inj, D.int.injEq, D.str.injEq, D.bool.injEq, D.sl.injEq, Prod.mk.injEq, and_true, true_and, and_assoc, map_inj blkD_inj, map_inj intD_inj, map_inj strD_inj, map_inj boolD_inj] using h
@[go_sem] theorem a0_dirty_ok (rows : List (List D)) : (e_dirty_ok).e [.d (.sl 3 rows)] = some (True, .fn (.func 65) [] [.dp [.d (.sl 3 rows)]]) := Ent.of_app i_dirty_ok (rows)

def blkItem (q : Blk) : List AV := [.agg [.d (.int .i64 q.1), .d (.str q.2.1), .d (.bool q.2.2)]]
def dirties (l : List Blk) : List Blk := l.filter (·.2.2)

abbrev Ist (l : List Blk) := { q : Nat × List (List AV) // q.1 ≤ l.length ∧ q.2 ++ (dirties (l.drop q.1)).map blkItem = (dirties l).map blkItem }

theorem dirtyIter_ok (l : List Blk) (hl : l.length ≤ 400) (fl : Nat) : AIter Try.prog 65 fl [] [.dp [.d (.sl 3 (l.map blkD))]] [] ((dirties l).map blkItem) (fun g h' => (∀ xs, g = some xs → xs = (dirties l).map blkItem) ∧ h' = []) := by
  refine aiter_of_body Try.func65 rfl (enters Try.func65 (by kernel_rfl) rfl) Try.ntmps65 rfl (by simp) (fun base y => ?_)
  repeat' (first
    | (refine aw_keep (fun i => decide (i < fl)) (by simp only [inH, idsH, hsel, AV.ids, AV.idsL, AV.idsR, AObj.ids, hget, go_sem, ↓reduceIte, Nat.reduceAdd, Nat.reduceMul, Nat.reduceSub, Nat.reduceLT, Nat.reduceLeDiff, Nat.reduceEqDiff, Nat.reduceBEq, Int.reduceToNat, Int.reduceLT, Int.reduceLE, Int.reduceAdd, Int.reduceSub, Int.reduceMul, Int.reduceNeg, Int.reduceEq]) ?_; simp only [go_sem, ↓reduceIte, Nat.reduceAdd, Nat.reduceMul, Nat.reduceSub, Nat.reduceLT, Nat.reduceLeDiff, Nat.reduceEqDiff, Nat.reduceBEq, Int.reduceToNat, Int.reduceLT, Int.reduceLE, Int.reduceAdd, Int.reduceSub, Int.reduceMul, Int.reduceNeg, Int.reduceEq, hsel, keepT]; refine aw_ret ?_; simp only [go_sem, ↓reduceIte, Nat.reduceAdd, Nat.reduceMul, Nat.reduceSub, Nat.reduceLT, Nat.reduceLeDiff, Nat.reduceEqDiff, Nat.reduceBEq, Int.reduceToNat, Int.reduceLT, Int.reduceLE, Int.reduceAdd, Int.reduceSub, Int.reduceMul, Int.reduceNeg, Int.reduceEq])
    | ((first | refine aw_seq_regionY noTab (noTab_ok _) (fun K hK => ?_) | refine aw_regionY noTab (noTab_ok _) ?_ | refine aw_seq_region_drawF noTab (noTab_ok _) (show (cxOf Try.prog 0 0 0).P.follows .mixedOrders = true by kernel_rfl) (fun K hK => ?_) | refine aw_region_drawF noTab (noTab_ok _) (show (cxOf Try.prog 0 0 0).P.follows .mixedOrders = true by kernel_rfl) ?_ | refine aw_skip ?_ | refine aw_exit ?_ | refine aw_ret ?_); simp only [go_sem, ↓reduceIte, Nat.reduceAdd, Nat.reduceMul, Nat.reduceSub, Nat.reduceLT, Nat.reduceLeDiff, Nat.reduceEqDiff, Nat.reduceBEq, Int.reduceToNat, Int.reduceLT, Int.reduceLE, Int.reduceAdd, Int.reduceSub, Int.reduceMul, Int.reduceNeg, Int.reduceEq])
    | refine aw_seq (fun K hK => ?_)
    | refine aw_block ?_
    | refine aw_cond_t rfl ?_
    | refine aw_cond_f rfl ?_
    | refine aw_cond rfl (fun hc => ?_) (fun hc => ?_)
    | (first | (refine hK _ ?_; clear hK K) | (clear hK K; refine hK _ ?_; clear hK K) | (clear hK K; clear hK K; refine hK _ ?_; clear hK K) | (clear hK K; clear hK K; clear hK K; refine hK _ ?_; clear hK K) | (clear hK K; clear hK K; clear hK K; clear hK K; refine hK _ ?_; clear hK K))
    | ((first | refine (show AS.le _ _ from ?_) | refine (show leH _ _ from ?_) | refine (show inH _ _ from ?_)); simp only [AS.le, leT, leH, RoundK, AsgK, AV.le, AV.leL, AObj.le, inH, idsT, idsH, AV.ids, AV.idsL, AV.idsR, AObj.ids, lk, hget, go_sem, ↓reduceIte, Nat.reduceAdd, Nat.reduceMul, Nat.reduceSub, Nat.reduceLT, Nat.reduceLeDiff, Nat.reduceEqDiff, Nat.reduceBEq, Int.reduceToNat, Int.reduceLT, Int.reduceLE, Int.reduceAdd, Int.reduceSub, Int.reduceMul, Int.reduceNeg, Int.reduceEq])
    | refine fun (r2 : Rnd _) => ?_
    | refine fun (nb : Bool) (hnb : nb = true → _) => ?_
    | with_reducible refine And.intro ?_ ?_
    | exact ‹_ <+: _›
    | (refine (show drawOkF _ _ = true from ?_); kernel_rfl)
    | omega
    | refine fun (hg : (_ : Bool) = (_ : Bool)) => ?_)
  refine aw_loop (fun q : Ist l => ⟨[(0, true, .fn (.yield y.yl) [] []), (5, true, .d (.sl 3 (l.map blkD))), (6, true, .d (.int .i64 l.length)), (7, true, .d (.int .i64 q.1.1))], [], some q.1.2⟩) (fun q => l.length - q.1.1) ⟨(0, []), Nat.zero_le _, rfl⟩ (by simp only [AS.le, leT, leH, RoundK, AsgK, AV.le, AV.leL, AObj.le, inH, idsT, idsH, AV.ids, AV.idsL, AV.idsR, AObj.ids, lk, hget, go_sem, ↓reduceIte, Nat.reduceAdd, Nat.reduceMul, Nat.reduceSub, Nat.reduceLT, Nat.reduceLeDiff, Nat.reduceEqDiff, Nat.reduceBEq, Int.reduceToNat, Int.reduceLT, Int.reduceLE, Int.reduceAdd, Int.reduceSub, Int.reduceMul, Int.reduceNeg, Int.reduceEq]; rfl) (fun q => ?_)
  obtain ⟨⟨i, xs⟩, hi, hf⟩ := q
  simp only at hi hf ⊢
  rcases at_cases blkD l i hi with ⟨⟨m, d, b⟩, hq, hlt, hcmp, hrow, hdr, htk⟩ | ⟨hend, hcmp⟩
  · simp only [blkD] at hrow
    cases b with
    | false =>
      have hs : dirties (l.drop i) = dirties (l.drop (i + 1)) := by rw [hdr]; rfl
      repeat' (first
    | (refine aw_keep (fun i => decide (i < fl)) (by simp only [inH, idsH, hsel, AV.ids, AV.idsL, AV.idsR, AObj.ids, hget, go_sem, ↓reduceIte, Nat.reduceAdd, Nat.reduceMul, Nat.reduceSub, Nat.reduceLT, Nat.reduceLeDiff, Nat.reduceEqDiff, Nat.reduceBEq, Int.reduceToNat, Int.reduceLT, Int.reduceLE, Int.reduceAdd, Int.reduceSub, Int.reduceMul, Int.reduceNeg, Int.reduceEq]) ?_; simp only [go_sem, ↓reduceIte, Nat.reduceAdd, Nat.reduceMul, Nat.reduceSub, Nat.reduceLT, Nat.reduceLeDiff, Nat.reduceEqDiff, Nat.reduceBEq, Int.reduceToNat, Int.reduceLT, Int.reduceLE, Int.reduceAdd, Int.reduceSub, Int.reduceMul, Int.reduceNeg, Int.reduceEq, hcmp, hrow, hsel, keepT]; refine aw_ret ?_; simp only [go_sem, ↓reduceIte, Nat.reduceAdd, Nat.reduceMul, Nat.reduceSub, Nat.reduceLT, Nat.reduceLeDiff, Nat.reduceEqDiff, Nat.reduceBEq, Int.reduceToNat, Int.reduceLT, Int.reduceLE, Int.reduceAdd, Int.reduceSub, Int.reduceMul, Int.reduceNeg, Int.reduceEq, hcmp, hrow])
    | ((first | refine aw_seq_regionY noTab (noTab_ok _) (fun K hK => ?_) | refine aw_regionY noTab (noTab_ok _) ?_ | refine aw_seq_region_drawF noTab (noTab_ok _) (show (cxOf Try.prog 0 0 0).P.follows .mixedOrders = true by kernel_rfl) (fun K hK => ?_) | refine aw_region_drawF noTab (noTab_ok _) (show (cxOf Try.prog 0 0 0).P.follows .mixedOrders = true by kernel_rfl) ?_ | refine aw_skip ?_ | refine aw_exit ?_ | refine aw_ret ?_); simp only [go_sem, ↓reduceIte, Nat.reduceAdd, Nat.reduceMul, Nat.reduceSub, Nat.reduceLT, Nat.reduceLeDiff, Nat.reduceEqDiff, Nat.reduceBEq, Int.reduceToNat, Int.reduceLT, Int.reduceLE, Int.reduceAdd, Int.reduceSub, Int.reduceMul, Int.reduceNeg, Int.reduceEq, hcmp, hrow])
    | refine aw_seq (fun K hK => ?_)
    | refine aw_block ?_
    | refine aw_cond_t rfl ?_
    | refine aw_cond_f rfl ?_
    | refine aw_cond rfl (fun hc => ?_) (fun hc => ?_)
    | (first | (refine hK _ ?_; clear hK K) | (clear hK K; refine hK _ ?_; clear hK K) | (clear hK K; clear hK K; refine hK _ ?_; clear hK K) | (clear hK K; clear hK K; clear hK K; refine hK _ ?_; clear hK K) | (clear hK K; clear hK K; clear hK K; clear hK K; refine hK _ ?_; clear hK K))
    | ((first | refine (show AS.le _ _ from ?_) | refine (show leH _ _ from ?_) | refine (show inH _ _ from ?_)); simp only [AS.le, leT, leH, RoundK, AsgK, AV.le, AV.leL, AObj.le, inH, idsT, idsH, AV.ids, AV.idsL, AV.idsR, AObj.ids, lk, hget, go_sem, ↓reduceIte, Nat.reduceAdd, Nat.reduceMul, Nat.reduceSub, Nat.reduceLT, Nat.reduceLeDiff, Nat.reduceEqDiff, Nat.reduceBEq, Int.reduceToNat, Int.reduceLT, Int.reduceLE, Int.reduceAdd, Int.reduceSub, Int.reduceMul, Int.reduceNeg, Int.reduceEq, hcmp, hrow])
    | refine fun (r2 : Rnd _) => ?_
    | refine fun (nb : Bool) (hnb : nb = true → _) => ?_
    | with_reducible refine And.intro ?_ ?_
    | exact ‹_ <+: _›
    | (refine (show drawOkF _ _ = true from ?_); kernel_rfl)
    | omega
    | refine fun (hg : (_ : Bool) = (_ : Bool)) => ?_)
      exact ⟨⟨(i + 1, xs), by omega, by rw [← hf, hs]⟩, by rw [wrap_suc (by omega)]; simp only [AS.le, leT, leH, RoundK, AsgK, AV.le, AV.leL, AObj.le, inH, idsT, idsH, AV.ids, AV.idsL, AV.idsR, AObj.ids, lk, hget, go_sem, ↓reduceIte, Nat.reduceAdd, Nat.reduceMul, Nat.reduceSub, Nat.reduceLT, Nat.reduceLeDiff, Nat.reduceEqDiff, Nat.reduceBEq, Int.reduceToNat, Int.reduceLT, Int.reduceLE, Int.reduceAdd, Int.reduceSub, Int.reduceMul, Int.reduceNeg, Int.reduceEq], by show l.length - (i + 1) < l.length - i; omega⟩
    | true =>
      have hs : dirties (l.drop i) = (m, d, true) :: dirties (l.drop (i + 1)) := by rw [hdr]; rfl
      have hp : (xs ++ [blkItem (m, d, true)]) <+: (dirties l).map blkItem := by rw [← hf, hs]; simp
      simp only [blkItem] at hp
      repeat' (first
    | (refine aw_keep (fun i => decide (i < fl)) (by simp only [inH, idsH, hsel, AV.ids, AV.idsL, AV.idsR, AObj.ids, hget, go_sem, ↓reduceIte, Nat.reduceAdd, Nat.reduceMul, Nat.reduceSub, Nat.reduceLT, Nat.reduceLeDiff, Nat.reduceEqDiff, Nat.reduceBEq, Int.reduceToNat, Int.reduceLT, Int.reduceLE, Int.reduceAdd, Int.reduceSub, Int.reduceMul, Int.reduceNeg, Int.reduceEq]) ?_; simp only [go_sem, ↓reduceIte, Nat.reduceAdd, Nat.reduceMul, Nat.reduceSub, Nat.reduceLT, Nat.reduceLeDiff, Nat.reduceEqDiff, Nat.reduceBEq, Int.reduceToNat, Int.reduceLT, Int.reduceLE, Int.reduceAdd, Int.reduceSub, Int.reduceMul, Int.reduceNeg, Int.reduceEq, hcmp, hrow, hsel, keepT]; refine aw_ret ?_; simp only [go_sem, ↓reduceIte, Nat.reduceAdd, Nat.reduceMul, Nat.reduceSub, Nat.reduceLT, Nat.reduceLeDiff, Nat.reduceEqDiff, Nat.reduceBEq, Int.reduceToNat, Int.reduceLT, Int.reduceLE, Int.reduceAdd, Int.reduceSub, Int.reduceMul, Int.reduceNeg, Int.reduceEq, hcmp, hrow])
    | ((first | refine aw_seq_regionY noTab (noTab_ok _) (fun K hK => ?_) | refine aw_regionY noTab (noTab_ok _) ?_ | refine aw_seq_region_drawF noTab (noTab_ok _) (show (cxOf Try.prog 0 0 0).P.follows .mixedOrders = true by kernel_rfl) (fun K hK => ?_) | refine aw_region_drawF noTab (noTab_ok _) (show (cxOf Try.prog 0 0 0).P.follows .mixedOrders = true by kernel_rfl) ?_ | refine aw_skip ?_ | refine aw_exit ?_ | refine aw_ret ?_); simp only [go_sem, ↓reduceIte, Nat.reduceAdd, Nat.reduceMul, Nat.reduceSub, Nat.reduceLT, Nat.reduceLeDiff, Nat.reduceEqDiff, Nat.reduceBEq, Int.reduceToNat, Int.reduceLT, Int.reduceLE, Int.reduceAdd, Int.reduceSub, Int.reduceMul, Int.reduceNeg, Int.reduceEq, hcmp, hrow])
    | refine aw_seq (fun K hK => ?_)
    | refine aw_block ?_
    | refine aw_cond_t rfl ?_
    | refine aw_cond_f rfl ?_
    | refine aw_cond rfl (fun hc => ?_) (fun hc => ?_)
    | (first | (refine hK _ ?_; clear hK K) | (clear hK K; refine hK _ ?_; clear hK K) | (clear hK K; clear hK K; refine hK _ ?_; clear hK K) | (clear hK K; clear hK K; clear hK K; refine hK _ ?_; clear hK K) | (clear hK K; clear hK K; clear hK K; clear hK K; refine hK _ ?_; clear hK K))
    | ((first | refine (show AS.le _ _ from ?_) | refine (show leH _ _ from ?_) | refine (show inH _ _ from ?_)); simp only [AS.le, leT, leH, RoundK, AsgK, AV.le, AV.leL, AObj.le, inH, idsT, idsH, AV.ids, AV.idsL, AV.idsR, AObj.ids, lk, hget, go_sem, ↓reduceIte, Nat.reduceAdd, Nat.reduceMul, Nat.reduceSub, Nat.reduceLT, Nat.reduceLeDiff, Nat.reduceEqDiff, Nat.reduceBEq, Int.reduceToNat, Int.reduceLT, Int.reduceLE, Int.reduceAdd, Int.reduceSub, Int.reduceMul, Int.reduceNeg, Int.reduceEq, hcmp, hrow])
    | refine fun (r2 : Rnd _) => ?_
    | refine fun (nb : Bool) (hnb : nb = true → _) => ?_
    | with_reducible refine And.intro ?_ ?_
    | exact ‹_ <+: _›
    | (refine (show drawOkF _ _ = true from ?_); kernel_rfl)
    | omega
    | refine fun (hg : (_ : Bool) = (_ : Bool)) => ?_)
      exact ⟨⟨(i + 1, xs ++ [blkItem (m, d, true)]), by omega, by rw [← hf, hs]; simp⟩, by rw [wrap_suc (by omega)]; simp only [AS.le, leT, leH, RoundK, AsgK, AV.le, AV.leL, AObj.le, inH, idsT, idsH, AV.ids, AV.idsL, AV.idsR, AObj.ids, lk, hget, go_sem, ↓reduceIte, Nat.reduceAdd, Nat.reduceMul, Nat.reduceSub, Nat.reduceLT, Nat.reduceLeDiff, Nat.reduceEqDiff, Nat.reduceBEq, Int.reduceToNat, Int.reduceLT, Int.reduceLE, Int.reduceAdd, Int.reduceSub, Int.reduceMul, Int.reduceNeg, Int.reduceEq]; rfl, by show l.length - (i + 1) < l.length - i; omega⟩
  · repeat' (first
    | (refine aw_keep (fun i => decide (i < fl)) (by simp only [inH, idsH, hsel, AV.ids, AV.idsL, AV.idsR, AObj.ids, hget, go_sem, ↓reduceIte, Nat.reduceAdd, Nat.reduceMul, Nat.reduceSub, Nat.reduceLT, Nat.reduceLeDiff, Nat.reduceEqDiff, Nat.reduceBEq, Int.reduceToNat, Int.reduceLT, Int.reduceLE, Int.reduceAdd, Int.reduceSub, Int.reduceMul, Int.reduceNeg, Int.reduceEq]) ?_; simp only [go_sem, ↓reduceIte, Nat.reduceAdd, Nat.reduceMul, Nat.reduceSub, Nat.reduceLT, Nat.reduceLeDiff, Nat.reduceEqDiff, Nat.reduceBEq, Int.reduceToNat, Int.reduceLT, Int.reduceLE, Int.reduceAdd, Int.reduceSub, Int.reduceMul, Int.reduceNeg, Int.reduceEq, hcmp, hsel, keepT]; refine aw_ret ?_; simp only [go_sem, ↓reduceIte, Nat.reduceAdd, Nat.reduceMul, Nat.reduceSub, Nat.reduceLT, Nat.reduceLeDiff, Nat.reduceEqDiff, Nat.reduceBEq, Int.reduceToNat, Int.reduceLT, Int.reduceLE, Int.reduceAdd, Int.reduceSub, Int.reduceMul, Int.reduceNeg, Int.reduceEq, hcmp])
    | ((first | refine aw_seq_regionY noTab (noTab_ok _) (fun K hK => ?_) | refine aw_regionY noTab (noTab_ok _) ?_ | refine aw_seq_region_drawF noTab (noTab_ok _) (show (cxOf Try.prog 0 0 0).P.follows .mixedOrders = true by kernel_rfl) (fun K hK => ?_) | refine aw_region_drawF noTab (noTab_ok _) (show (cxOf Try.prog 0 0 0).P.follows .mixedOrders = true by kernel_rfl) ?_ | refine aw_skip ?_ | refine aw_exit ?_ | refine aw_ret ?_); simp only [go_sem, ↓reduceIte, Nat.reduceAdd, Nat.reduceMul, Nat.reduceSub, Nat.reduceLT, Nat.reduceLeDiff, Nat.reduceEqDiff, Nat.reduceBEq, Int.reduceToNat, Int.reduceLT, Int.reduceLE, Int.reduceAdd, Int.reduceSub, Int.reduceMul, Int.reduceNeg, Int.reduceEq, hcmp])
    | refine aw_seq (fun K hK => ?_)
    | refine aw_block ?_
    | refine aw_cond_t rfl ?_
    | refine aw_cond_f rfl ?_
    | refine aw_cond rfl (fun hc => ?_) (fun hc => ?_)
    | (first | (refine hK _ ?_; clear hK K) | (clear hK K; refine hK _ ?_; clear hK K) | (clear hK K; clear hK K; refine hK _ ?_; clear hK K) | (clear hK K; clear hK K; clear hK K; refine hK _ ?_; clear hK K) | (clear hK K; clear hK K; clear hK K; clear hK K; refine hK _ ?_; clear hK K))
    | ((first | refine (show AS.le _ _ from ?_) | refine (show leH _ _ from ?_) | refine (show inH _ _ from ?_)); simp only [AS.le, leT, leH, RoundK, AsgK, AV.le, AV.leL, AObj.le, inH, idsT, idsH, AV.ids, AV.idsL, AV.idsR, AObj.ids, lk, hget, go_sem, ↓reduceIte, Nat.reduceAdd, Nat.reduceMul, Nat.reduceSub, Nat.reduceLT, Nat.reduceLeDiff, Nat.reduceEqDiff, Nat.reduceBEq, Int.reduceToNat, Int.reduceLT, Int.reduceLE, Int.reduceAdd, Int.reduceSub, Int.reduceMul, Int.reduceNeg, Int.reduceEq, hcmp])
    | refine fun (r2 : Rnd _) => ?_
    | refine fun (nb : Bool) (hnb : nb = true → _) => ?_
    | with_reducible refine And.intro ?_ ?_
    | exact ‹_ <+: _›
    | (refine (show drawOkF _ _ = true from ?_); kernel_rfl)
    | omega
    | refine fun (hg : (_ : Bool) = (_ : Bool)) => ?_)
    rintro zs rfl
    rw [hend, List.drop_length] at hf
    simpa [dirties] using hf

noncomputable def tabK : Tab := tabOf [e_cfind_ok, e_front_ok, e_dirty_ok]
theorem tabK_ok : TabOk Try.prog tabK := tabOf_ok _
@[go_sem] theorem tabK_cfind_ok (args : List AV) : tabK 50 args = (e_cfind_ok).e args := rfl
@[go_sem] theorem tabK_front_ok (args : List AV) : tabK 51 args = (e_front_ok).e args := rfl
@[go_sem] theorem tabK_dirty_ok (args : List AV) : tabK 52 args = (e_dirty_ok).e args := rfl

/-- What Put keeps, and what goes. -/
def was (l : List Blk) (n : Int) : Bool := match l[(findFrom n l 0).toNat]? with | some p => decide (0 ≤ findFrom n l 0) && p.2.2 | none => false
def putAll (l : List Blk) (q : Blk) : List Blk := (q.1, q.2.1, q.2.2 || was l q.1) :: withoutFrom (findFrom q.1 l 0) l 0
def putS (l : List Blk) (q : Blk) : List Blk × List Blk × Int :=
  if q.1 < 0 ∨ 1073741824 < q.1 then (l, [], 10)
  else if (q.2.1.length : Int) ≠ 128 then (l, [], 11)
  else ((putAll l q).take 8, dirties ((putAll l q).drop 8), 0)

theorem was_none {l : List Blk} {n : Int} (h : findFrom n l 0 = -1) : was l n = false := by
  unfold was
  rw [h]
  split <;> rfl
theorem was_some {l : List Blk} {n : Int} {j : Nat} {q : Blk} (h : findFrom n l 0 = j) (hq : l[j]? = some q) : was l n = q.2.2 := by
  unfold was
  rw [h, Int.toNat_natCast, hq]
  dsimp only
  rw [decide_eq_true (by omega), Bool.true_and]

theorem put_ok (l : List Blk) (n : Int) (d : List UInt8) (b : Bool) (hl : l.length ≤ 300) : ACall Try.prog 24 0 [.d (.sl 3 (l.map blkD)), .agg [.d (.int .i64 n), .d (.str d), .d (.bool b)]] [] (fun r _ => r = .tup [.d (.sl 3 ((putS l (n, d, b)).1.map blkD)), .d (.sl 3 ((putS l (n, d, b)).2.1.map blkD)), .d (.int .i64 (putS l (n, d, b)).2.2)]) := by
  refine acall_frz ?_
  refine acall_of_body Try.func24 rfl (enters Try.func24 (by kernel_rfl) rfl) Try.ntmps24 (by simp) (fun base => ?_)
  have him : ∀ x : Nat, imin ((x : Nat) : Int) 8 = ((min x 8 : Nat) : Int) := fun x => imin_nat x 8
  have hwl := withoutFrom_len (findFrom n l 0) l 0
  repeat' ((fail_if_success (refine (show AW _ (.seq (.region 6 _ _) _) _ _ from ?_))); (fail_if_success (refine (show AW _ (.seq (.seq (.region 6 _ _) _) _) _ _ from ?_))); (fail_if_success (refine (show AW _ (.seq (.seq (.seq (.region 6 _ _) _) _) _) _ _ from ?_))); (fail_if_success (refine (show AW _ (.region 6 _ _) _ _ from ?_))); first
    | ((first | refine aw_seq_regionT tabK (tabK_ok) (fun K hK => ?_) | refine aw_regionT tabK (tabK_ok) ?_ | refine aw_seq_region_drawF tabK (tabK_ok) (show (cxOf Try.prog 0 0 0).P.follows .mixedOrders = true by kernel_rfl) (fun K hK => ?_) | refine aw_region_drawF tabK (tabK_ok) (show (cxOf Try.prog 0 0 0).P.follows .mixedOrders = true by kernel_rfl) ?_ | refine aw_skip ?_ | refine aw_exit ?_ | refine aw_ret ?_); simp only [go_sem, ↓reduceIte, Nat.reduceAdd, Nat.reduceMul, Nat.reduceSub, Nat.reduceLT, Nat.reduceLeDiff, Nat.reduceEqDiff, Nat.reduceBEq, Int.reduceToNat, Int.reduceLT, Int.reduceLE, Int.reduceAdd, Int.reduceSub, Int.reduceMul, Int.reduceNeg, Int.reduceEq, him, Int.toNat_natCast, Try.results24])
    | refine aw_seq (fun K hK => ?_)
    | refine aw_block ?_
    | refine aw_cond_t rfl ?_
    | refine aw_cond_f rfl ?_
    | refine aw_cond rfl (fun hc => ?_) (fun hc => ?_)
    | (first | (refine hK _ ?_; clear hK K) | (clear hK K; refine hK _ ?_; clear hK K) | (clear hK K; clear hK K; refine hK _ ?_; clear hK K) | (clear hK K; clear hK K; clear hK K; refine hK _ ?_; clear hK K) | (clear hK K; clear hK K; clear hK K; clear hK K; refine hK _ ?_; clear hK K))
    | ((first | refine (show AS.le _ _ from ?_) | refine (show leH _ _ from ?_) | refine (show inH _ _ from ?_)); simp only [AS.le, leT, leH, RoundK, AsgK, AV.le, AV.leL, AObj.le, inH, idsT, idsH, AV.ids, AV.idsL, AV.idsR, AObj.ids, lk, hget, go_sem, ↓reduceIte, Nat.reduceAdd, Nat.reduceMul, Nat.reduceSub, Nat.reduceLT, Nat.reduceLeDiff, Nat.reduceEqDiff, Nat.reduceBEq, Int.reduceToNat, Int.reduceLT, Int.reduceLE, Int.reduceAdd, Int.reduceSub, Int.reduceMul, Int.reduceNeg, Int.reduceEq, him, Int.toNat_natCast])
    | refine fun (r2 : Rnd _) => ?_
    | refine fun (nb : Bool) (hnb : nb = true → _) => ?_
    | with_reducible refine And.intro ?_ ?_
    | exact ‹_ <+: _›
    | (refine (show drawOkF _ _ = true from ?_); kernel_rfl)
    | omega
    | refine fun (hg : (_ : Bool) = (_ : Bool)) => ?_)
  · rw [putS, if_pos (by simpa using hc)]; rfl
  · rename_i hc1
    rw [putS, if_neg (by simpa using hc1), if_pos (by simpa using hc)]; rfl
  · rename_i hc1
    refine aw_join ⟨[(0, true, .d (.sl 3 (l.map blkD))), (3, true, .vp 0 0), (7, true, .d (.int .i64 (findFrom n l 0)))], [(0, .var [.d (.int .i64 n), .d (.str d), .d (.bool (b || was l n))])], some []⟩ ?_ ?_
    · rcases findFrom_spec n l 0 with h | ⟨j, ⟨m, d', b'⟩, h, hq, hm⟩
      · repeat' (first
    | ((first | refine aw_seq_regionT tabK (tabK_ok) (fun K hK => ?_) | refine aw_regionT tabK (tabK_ok) ?_ | refine aw_seq_region_drawF tabK (tabK_ok) (show (cxOf Try.prog 0 0 0).P.follows .mixedOrders = true by kernel_rfl) (fun K hK => ?_) | refine aw_region_drawF tabK (tabK_ok) (show (cxOf Try.prog 0 0 0).P.follows .mixedOrders = true by kernel_rfl) ?_ | refine aw_skip ?_ | refine aw_exit ?_ | refine aw_ret ?_); simp only [go_sem, ↓reduceIte, Nat.reduceAdd, Nat.reduceMul, Nat.reduceSub, Nat.reduceLT, Nat.reduceLeDiff, Nat.reduceEqDiff, Nat.reduceBEq, Int.reduceToNat, Int.reduceLT, Int.reduceLE, Int.reduceAdd, Int.reduceSub, Int.reduceMul, Int.reduceNeg, Int.reduceEq, h, was_none h, Try.results24])
    | refine aw_seq (fun K hK => ?_)
    | refine aw_block ?_
    | refine aw_cond_t rfl ?_
    | refine aw_cond_f rfl ?_
    | refine aw_cond rfl (fun hc => ?_) (fun hc => ?_)
    | (first | (refine hK _ ?_; clear hK K) | (clear hK K; refine hK _ ?_; clear hK K) | (clear hK K; clear hK K; refine hK _ ?_; clear hK K) | (clear hK K; clear hK K; clear hK K; refine hK _ ?_; clear hK K) | (clear hK K; clear hK K; clear hK K; clear hK K; refine hK _ ?_; clear hK K))
    | ((first | refine (show AS.le _ _ from ?_) | refine (show leH _ _ from ?_) | refine (show inH _ _ from ?_)); simp only [AS.le, leT, leH, RoundK, AsgK, AV.le, AV.leL, AObj.le, inH, idsT, idsH, AV.ids, AV.idsL, AV.idsR, AObj.ids, lk, hget, go_sem, ↓reduceIte, Nat.reduceAdd, Nat.reduceMul, Nat.reduceSub, Nat.reduceLT, Nat.reduceLeDiff, Nat.reduceEqDiff, Nat.reduceBEq, Int.reduceToNat, Int.reduceLT, Int.reduceLE, Int.reduceAdd, Int.reduceSub, Int.reduceMul, Int.reduceNeg, Int.reduceEq, h, was_none h])
    | refine fun (r2 : Rnd _) => ?_
    | refine fun (nb : Bool) (hnb : nb = true → _) => ?_
    | with_reducible refine And.intro ?_ ?_
    | exact ‹_ <+: _›
    | (refine (show drawOkF _ _ = true from ?_); kernel_rfl)
    | omega
    | refine fun (hg : (_ : Bool) = (_ : Bool)) => ?_)
      · have hrow := at_row (g := blkD) hq
        simp only [blkD] at hrow
        have hj := (List.getElem?_eq_some_iff.1 hq).1
        rw [Nat.zero_add] at h
        cases b'
        all_goals repeat' (first
    | ((first | refine aw_seq_regionT tabK (tabK_ok) (fun K hK => ?_) | refine aw_regionT tabK (tabK_ok) ?_ | refine aw_seq_region_drawF tabK (tabK_ok) (show (cxOf Try.prog 0 0 0).P.follows .mixedOrders = true by kernel_rfl) (fun K hK => ?_) | refine aw_region_drawF tabK (tabK_ok) (show (cxOf Try.prog 0 0 0).P.follows .mixedOrders = true by kernel_rfl) ?_ | refine aw_skip ?_ | refine aw_exit ?_ | refine aw_ret ?_); simp only [go_sem, ↓reduceIte, Nat.reduceAdd, Nat.reduceMul, Nat.reduceSub, Nat.reduceLT, Nat.reduceLeDiff, Nat.reduceEqDiff, Nat.reduceBEq, Int.reduceToNat, Int.reduceLT, Int.reduceLE, Int.reduceAdd, Int.reduceSub, Int.reduceMul, Int.reduceNeg, Int.reduceEq, h, hrow, was_some h hq, Try.results24])
    | refine aw_seq (fun K hK => ?_)
    | refine aw_block ?_
    | refine aw_cond_t rfl ?_
    | refine aw_cond_f rfl ?_
    | refine aw_cond rfl (fun hc => ?_) (fun hc => ?_)
    | (first | (refine hK _ ?_; clear hK K) | (clear hK K; refine hK _ ?_; clear hK K) | (clear hK K; clear hK K; refine hK _ ?_; clear hK K) | (clear hK K; clear hK K; clear hK K; refine hK _ ?_; clear hK K) | (clear hK K; clear hK K; clear hK K; clear hK K; refine hK _ ?_; clear hK K))
    | ((first | refine (show AS.le _ _ from ?_) | refine (show leH _ _ from ?_) | refine (show inH _ _ from ?_)); simp only [AS.le, leT, leH, RoundK, AsgK, AV.le, AV.leL, AObj.le, inH, idsT, idsH, AV.ids, AV.idsL, AV.idsR, AObj.ids, lk, hget, go_sem, ↓reduceIte, Nat.reduceAdd, Nat.reduceMul, Nat.reduceSub, Nat.reduceLT, Nat.reduceLeDiff, Nat.reduceEqDiff, Nat.reduceBEq, Int.reduceToNat, Int.reduceLT, Int.reduceLE, Int.reduceAdd, Int.reduceSub, Int.reduceMul, Int.reduceNeg, Int.reduceEq, h, hrow, was_some h hq])
    | refine fun (r2 : Rnd _) => ?_
    | refine fun (nb : Bool) (hnb : nb = true → _) => ?_
    | with_reducible refine And.intro ?_ ?_
    | exact ‹_ <+: _›
    | (refine (show drawOkF _ _ = true from ?_); kernel_rfl)
    | omega
    | refine fun (hg : (_ : Bool) = (_ : Bool)) => ?_)
    · have hall : putAll l (n, d, b) = (n, d, b || was l n) :: withoutFrom (findFrom n l 0) l 0 := rfl
      obtain ⟨L, hL⟩ : ∃ L, L = putAll l (n, d, b) := ⟨_, rfl⟩
      have hLn : L.length ≤ 301 := by rw [hL, hall]; simp; omega
      obtain ⟨D8, hD⟩ : ∃ D8, D8 = L.drop (min L.length 8) := ⟨_, rfl⟩
      have hDn : D8.length ≤ 301 := by rw [hD]; simp; omega
      have hdl : (dirties D8).length ≤ 301 := Nat.le_trans (List.length_filter_le _ _) hDn
      repeat' (first
    | ((first | refine aw_seq_regionT tabK (tabK_ok) (fun K hK => ?_) | refine aw_regionT tabK (tabK_ok) ?_ | refine aw_seq_region_drawF tabK (tabK_ok) (show (cxOf Try.prog 0 0 0).P.follows .mixedOrders = true by kernel_rfl) (fun K hK => ?_) | refine aw_region_drawF tabK (tabK_ok) (show (cxOf Try.prog 0 0 0).P.follows .mixedOrders = true by kernel_rfl) ?_ | refine aw_skip ?_ | refine aw_exit ?_ | refine aw_ret ?_); simp only [go_sem, ↓reduceIte, Nat.reduceAdd, Nat.reduceMul, Nat.reduceSub, Nat.reduceLT, Nat.reduceLeDiff, Nat.reduceEqDiff, Nat.reduceBEq, Int.reduceToNat, Int.reduceLT, Int.reduceLE, Int.reduceAdd, Int.reduceSub, Int.reduceMul, Int.reduceNeg, Int.reduceEq, him, Int.toNat_natCast, ← hall, map_cons', ← hL, ← List.map_drop, ← hD, Try.results24])
    | refine aw_seq (fun K hK => ?_)
    | refine aw_block ?_
    | refine aw_cond_t rfl ?_
    | refine aw_cond_f rfl ?_
    | refine aw_cond rfl (fun hc => ?_) (fun hc => ?_)
    | (first | (refine hK _ ?_; clear hK K) | (clear hK K; refine hK _ ?_; clear hK K) | (clear hK K; clear hK K; refine hK _ ?_; clear hK K) | (clear hK K; clear hK K; clear hK K; refine hK _ ?_; clear hK K) | (clear hK K; clear hK K; clear hK K; clear hK K; refine hK _ ?_; clear hK K))
    | ((first | refine (show AS.le _ _ from ?_) | refine (show leH _ _ from ?_) | refine (show inH _ _ from ?_)); simp only [AS.le, leT, leH, RoundK, AsgK, AV.le, AV.leL, AObj.le, inH, idsT, idsH, AV.ids, AV.idsL, AV.idsR, AObj.ids, lk, hget, go_sem, ↓reduceIte, Nat.reduceAdd, Nat.reduceMul, Nat.reduceSub, Nat.reduceLT, Nat.reduceLeDiff, Nat.reduceEqDiff, Nat.reduceBEq, Int.reduceToNat, Int.reduceLT, Int.reduceLE, Int.reduceAdd, Int.reduceSub, Int.reduceMul, Int.reduceNeg, Int.reduceEq, him, Int.toNat_natCast, ← hall, map_cons', ← hL, ← List.map_drop, ← hD])
    | refine fun (r2 : Rnd _) => ?_
    | refine fun (nb : Bool) (hnb : nb = true → _) => ?_
    | with_reducible refine And.intro ?_ ?_
    | exact ‹_ <+: _›
    | (refine (show drawOkF _ _ = true from ?_); kernel_rfl)
    | omega
    | refine fun (hg : (_ : Bool) = (_ : Bool)) => ?_)
      refine aw_adoptH 1 0 3 (cs := [.nils 3]) rfl rfl ?_
      simp only [go_sem, ↓reduceIte, Nat.reduceAdd, Nat.reduceMul, Nat.reduceSub, Nat.reduceLT, Nat.reduceLeDiff, Nat.reduceEqDiff, Nat.reduceBEq, Int.reduceToNat, Int.reduceLT, Int.reduceLE, Int.reduceAdd, Int.reduceSub, Int.reduceMul, Int.reduceNeg, Int.reduceEq]
      obtain ⟨I, hI⟩ : ∃ I : List (List AV) → AHeap × Option (List (List AV)), I = fun xs => ([(2, .arr 3 (xs.map rowOf)), (1, .var [.osl 2 3 xs.length 0 xs.length])], some []) := ⟨_, rfl⟩
      refine aw_range0 100 I (fun _ _ _ => False) (dirtyIter_ok D8 (by omega) 100) (by simp only [go_sem, ↓reduceIte, Nat.reduceAdd, Nat.reduceMul, Nat.reduceSub, Nat.reduceLT, Nat.reduceLeDiff, Nat.reduceEqDiff, Nat.reduceBEq, Int.reduceToNat, Int.reduceLT, Int.reduceLE, Int.reduceAdd, Int.reduceSub, Int.reduceMul, Int.reduceNeg, Int.reduceEq]) rfl (hfl_of rfl) (Nat.zero_le _) rfl (by rw [hI]; simp only [AS.le, leT, leH, RoundK, AsgK, AV.le, AV.leL, AObj.le, inH, idsT, idsH, AV.ids, AV.idsL, AV.idsR, AObj.ids, lk, hget, go_sem, ↓reduceIte, Nat.reduceAdd, Nat.reduceMul, Nat.reduceSub, Nat.reduceLT, Nat.reduceLeDiff, Nat.reduceEqDiff, Nat.reduceBEq, Int.reduceToNat, Int.reduceLT, Int.reduceLE, Int.reduceAdd, Int.reduceSub, Int.reduceMul, Int.reduceNeg, Int.reduceEq] <;> simp [AV.leL, AV.le]) (by rw [hI]; simp only [AS.le, leT, leH, RoundK, AsgK, AV.le, AV.leL, AObj.le, inH, idsT, idsH, AV.ids, AV.idsL, AV.idsR, AObj.ids, lk, hget, go_sem, ↓reduceIte, Nat.reduceAdd, Nat.reduceMul, Nat.reduceSub, Nat.reduceLT, Nat.reduceLeDiff, Nat.reduceEqDiff, Nat.reduceBEq, Int.reduceToNat, Int.reduceLT, Int.reduceLE, Int.reduceAdd, Int.reduceSub, Int.reduceMul, Int.reduceNeg, Int.reduceEq] <;> simp) (by rw [hI]) (by intro x hx; obtain ⟨q, _, rfl⟩ := List.mem_map.1 hx; rfl) (by intro t ht; simp at ht; subst ht; simp [cxOf]) ?_ ?_ (fun _ _ _ h => h.elim)
      · intro xs x hpre l1 r1
        obtain ⟨q, hq, rfl⟩ := List.mem_map.1 (hpre.subset (List.mem_append_right _ (List.mem_singleton.2 rfl)))
        have hxl := hpre.length_le
        simp only [List.length_append, List.length_map, List.length_cons, List.length_nil] at hxl
        obtain ⟨m, d', b'⟩ := q
        simp only [blkItem]
        refine aw_le ⟨[(53, true, .agg [.d (.int .i64 m), .d (.str d'), .d (.bool b')]), (10, true, .vp 1 0)], [(2, .arr 3 (xs.map rowOf)), (1, .var [.osl 2 3 xs.length 0 xs.length])], some []⟩ (by rw [hI]; simp only [AS.le, leT, leH, RoundK, AsgK, AV.le, AV.leL, AObj.le, inH, idsT, idsH, AV.ids, AV.idsL, AV.idsR, AObj.ids, lk, hget, go_sem, ↓reduceIte, Nat.reduceAdd, Nat.reduceMul, Nat.reduceSub, Nat.reduceLT, Nat.reduceLeDiff, Nat.reduceEqDiff, Nat.reduceBEq, Int.reduceToNat, Int.reduceLT, Int.reduceLE, Int.reduceAdd, Int.reduceSub, Int.reduceMul, Int.reduceNeg, Int.reduceEq]) ?_
        repeat' (first
    | ((first | refine aw_seq_regionT noTab (noTab_ok _) (fun K hK => ?_) | refine aw_regionT noTab (noTab_ok _) ?_ | refine aw_seq_region_drawF noTab (noTab_ok _) (show (cxOf Try.prog 0 0 0).P.follows .mixedOrders = true by kernel_rfl) (fun K hK => ?_) | refine aw_region_drawF noTab (noTab_ok _) (show (cxOf Try.prog 0 0 0).P.follows .mixedOrders = true by kernel_rfl) ?_ | refine aw_skip ?_ | refine aw_exit ?_ | refine aw_ret ?_); simp only [go_sem, ↓reduceIte, Nat.reduceAdd, Nat.reduceMul, Nat.reduceSub, Nat.reduceLT, Nat.reduceLeDiff, Nat.reduceEqDiff, Nat.reduceBEq, Int.reduceToNat, Int.reduceLT, Int.reduceLE, Int.reduceAdd, Int.reduceSub, Int.reduceMul, Int.reduceNeg, Int.reduceEq, hI, Try.results24])
    | refine aw_seq (fun K hK => ?_)
    | refine aw_block ?_
    | refine aw_cond_t rfl ?_
    | refine aw_cond_f rfl ?_
    | refine aw_cond rfl (fun hc => ?_) (fun hc => ?_)
    | (first | (refine hK _ ?_; clear hK K) | (clear hK K; refine hK _ ?_; clear hK K) | (clear hK K; clear hK K; refine hK _ ?_; clear hK K) | (clear hK K; clear hK K; clear hK K; refine hK _ ?_; clear hK K) | (clear hK K; clear hK K; clear hK K; clear hK K; refine hK _ ?_; clear hK K))
    | ((first | refine (show AS.le _ _ from ?_) | refine (show leH _ _ from ?_) | refine (show inH _ _ from ?_)); simp only [AS.le, leT, leH, RoundK, AsgK, AV.le, AV.leL, AObj.le, inH, idsT, idsH, AV.ids, AV.idsL, AV.idsR, AObj.ids, lk, hget, go_sem, ↓reduceIte, Nat.reduceAdd, Nat.reduceMul, Nat.reduceSub, Nat.reduceLT, Nat.reduceLeDiff, Nat.reduceEqDiff, Nat.reduceBEq, Int.reduceToNat, Int.reduceLT, Int.reduceLE, Int.reduceAdd, Int.reduceSub, Int.reduceMul, Int.reduceNeg, Int.reduceEq, hI])
    | refine fun (r2 : Rnd _) => ?_
    | refine fun (nb : Bool) (hnb : nb = true → _) => ?_
    | with_reducible refine And.intro ?_ ?_
    | exact ‹_ <+: _›
    | (refine (show drawOkF _ _ = true from ?_); kernel_rfl)
    | omega
    | refine fun (hg : (_ : Bool) = (_ : Bool)) => ?_)
        · simp [rowOf, toDs, AV.toD]
        · simp
      · rw [hI]
        repeat' (first
    | ((first | refine aw_seq_regionT noTab (noTab_ok _) (fun K hK => ?_) | refine aw_regionT noTab (noTab_ok _) ?_ | refine aw_seq_region_drawF noTab (noTab_ok _) (show (cxOf Try.prog 0 0 0).P.follows .mixedOrders = true by kernel_rfl) (fun K hK => ?_) | refine aw_region_drawF noTab (noTab_ok _) (show (cxOf Try.prog 0 0 0).P.follows .mixedOrders = true by kernel_rfl) ?_ | refine aw_skip ?_ | refine aw_exit ?_ | refine aw_ret ?_); simp only [go_sem, ↓reduceIte, Nat.reduceAdd, Nat.reduceMul, Nat.reduceSub, Nat.reduceLT, Nat.reduceLeDiff, Nat.reduceEqDiff, Nat.reduceBEq, Int.reduceToNat, Int.reduceLT, Int.reduceLE, Int.reduceAdd, Int.reduceSub, Int.reduceMul, Int.reduceNeg, Int.reduceEq, Try.results24])
    | refine aw_seq (fun K hK => ?_)
    | refine aw_block ?_
    | refine aw_cond_t rfl ?_
    | refine aw_cond_f rfl ?_
    | refine aw_cond rfl (fun hc => ?_) (fun hc => ?_)
    | (first | (refine hK _ ?_; clear hK K) | (clear hK K; refine hK _ ?_; clear hK K) | (clear hK K; clear hK K; refine hK _ ?_; clear hK K) | (clear hK K; clear hK K; clear hK K; refine hK _ ?_; clear hK K) | (clear hK K; clear hK K; clear hK K; clear hK K; refine hK _ ?_; clear hK K))
    | ((first | refine (show AS.le _ _ from ?_) | refine (show leH _ _ from ?_) | refine (show inH _ _ from ?_)); simp only [AS.le, leT, leH, RoundK, AsgK, AV.le, AV.leL, AObj.le, inH, idsT, idsH, AV.ids, AV.idsL, AV.idsR, AObj.ids, lk, hget, go_sem, ↓reduceIte, Nat.reduceAdd, Nat.reduceMul, Nat.reduceSub, Nat.reduceLT, Nat.reduceLeDiff, Nat.reduceEqDiff, Nat.reduceBEq, Int.reduceToNat, Int.reduceLT, Int.reduceLE, Int.reduceAdd, Int.reduceSub, Int.reduceMul, Int.reduceNeg, Int.reduceEq])
    | refine fun (r2 : Rnd _) => ?_
    | refine fun (nb : Bool) (hnb : nb = true → _) => ?_
    | with_reducible refine And.intro ?_ ?_
    | exact ‹_ <+: _›
    | (refine (show drawOkF _ _ = true from ?_); kernel_rfl)
    | omega
    | refine fun (hg : (_ : Bool) = (_ : Bool)) => ?_)
        have hrw : (dirties D8).map (fun q => rowOf (blkItem q)) = (dirties D8).map blkD := rfl
        have h8 : L.take (min L.length 8) = L.take 8 := by
          rcases Nat.le_total L.length 8 with h | h
          · rw [Nat.min_eq_left h, List.take_of_length_le (Nat.le_refl _), List.take_of_length_le h]
          · rw [Nat.min_eq_right h]
        have h8' : L.drop (min L.length 8) = L.drop 8 := by
          rcases Nat.le_total L.length 8 with h | h
          · rw [Nat.min_eq_left h, List.drop_of_length_le (Nat.le_refl _), List.drop_of_length_le h]
          · rw [Nat.min_eq_right h]
        rw [putS, if_neg (by simpa using hc1), if_neg (by simpa using hc), ← hL, ← List.map_take, ← List.map_take, ← List.map_take, h8, ← h8', ← hD, take_all, List.map_map]
        rfl
noncomputable def e_put_ok : Ent Try.prog := Ent.of 24 (fun x : (List Blk) × (Int) × (List UInt8) × (Bool) => (fun (l : List Blk) (n : Int) (d : List UInt8) (b : Bool) => ([.d (.sl 3 (l.map blkD)), .agg [.d (.int .i64 n), .d (.str d), .d (.bool b)]] : List AV)) x.1 x.2.1 x.2.2.1 x.2.2.2) (fun x : (List Blk) × (Int) × (List UInt8) × (Bool) => (fun (l : List Blk) (n : Int) (d : List UInt8) (b : Bool) => ((l.length ≤ 300) : Prop)) x.1 x.2.1 x.2.2.1 x.2.2.2) (fun x : (List Blk) × (Int) × (List UInt8) × (Bool) => (fun (l : List Blk) (n : Int) (d : List UInt8) (b : Bool) => (.tup [.d (.sl 3 ((putS l (n, d, b)).1.map blkD)), .d (.sl 3 ((putS l (n, d, b)).2.1.map blkD)), .d (.int .i64 (putS l (n, d, b)).2.2)] : AV)) x.1 x.2.1 x.2.2.1 x.2.2.2) (fun x hp => ⟨rfl, put_ok x.1 x.2.1 x.2.2.1 x.2.2.2 hp⟩)
theorem i_put_ok : ∀ x y : (List Blk) × (Int) × (List UInt8) × (Bool), (fun x : (List Blk) × (Int) × (List UInt8) × (Bool) => (fun (l : List Blk) (n : Int) (d : List UInt8) (b : Bool) => ([.d (.sl 3 (l.map blkD)), .agg [.d (.int .i64 n), .d (.str d), .d (.bool b)]] : List AV)) x.1 x.2.1 x.2.2.1 x.2.2.2) x = (fun x : (List Blk) × (Int) × (List UInt8) × (Bool) => (fun (l : List Blk) (n : Int) (d : List UInt8) (b : Bool) => ([.d (.sl 3 (l.map blkD)), .agg [.d (.int .i64 n), .d (.str d), .d (.bool b)]] : List AV)) x.1 x.2.1 x.2.2.1 x.2.2.2) y → x = y := by
  intro x y h
  obtain ⟨_, _, _, _⟩ := x
  obtain ⟨_, _, _, _⟩ := y
  simpa only [List.cons.injEq, AV.d.injEq, AV.agg.injEq, AV.dp.injEq, AV.fn.injEq, AV.tup.injEq, AV.asl.injEq, Int.natCast_inj, D.int.injEq, D.str.injEq, D.bool.injEq, D.sl.injEq, Prod.mk.injEq, and_true, true_and, and_assoc, map_inj blkD_inj, map_inj intD_inj, map_inj strD_inj, map_inj boolD_inj] using h
@[go_sem] theorem a0_put_ok (l : List Blk) (n : Int) (d : List UInt8) (b : Bool) : (e_put_ok).e [.d (.sl 3 (l.map blkD)), .agg [.d (.int .i64 n), .d (.str d), .d (.bool b)]] = some ((l.length ≤ 300), .tup [.d (.sl 3 ((putS l (n, d, b)).1.map blkD)), .d (.sl 3 ((putS l (n, d, b)).2.1.map blkD)), .d (.int .i64 (putS l (n, d, b)).2.2)]) := Ent.of_app i_put_ok (l, n, d, b)
@[go_sem] theorem a1_put_ok (n : Int) (d : List UInt8) (b : Bool) : (e_put_ok).e [.d (.sl 3 []), .agg [.d (.int .i64 n), .d (.str d), .d (.bool b)]] = some ((([] : List Blk).length ≤ 300), .tup [.d (.sl 3 ((putS ([] : List Blk) (n, d, b)).1.map blkD)), .d (.sl 3 ((putS ([] : List Blk) (n, d, b)).2.1.map blkD)), .d (.int .i64 (putS ([] : List Blk) (n, d, b)).2.2)]) := Ent.of_app i_put_ok (([] : List Blk), n, d, b)

theorem putRef_ok (l : List Blk) (n : Int) (d : List UInt8) (b : Bool) (hl : l.length ≤ 8) : ACall Try.prog 38 0 [.d (.sl 3 (l.map blkD)), .agg [.d (.int .i64 n), .d (.str d), .d (.bool b)]] [] (fun r _ => r = .tup [.d (.sl 3 ((putS l (n, d, b)).1.map blkD)), .d (.sl 3 ((putS l (n, d, b)).2.1.map blkD)), .d (.int .i64 (putS l (n, d, b)).2.2)]) := by
  refine acall_frz ?_
  refine acall_of_body Try.func38 rfl (enters Try.func38 (by kernel_rfl) rfl) Try.ntmps38 (by simp) (fun base => ?_)
  repeat' ((fail_if_success (refine (show AW _ (.seq (.region 6 _ _) _) _ _ from ?_))); (fail_if_success (refine (show AW _ (.seq (.seq (.region 6 _ _) _) _) _ _ from ?_))); (fail_if_success (refine (show AW _ (.seq (.seq (.seq (.region 6 _ _) _) _) _) _ _ from ?_))); (fail_if_success (refine (show AW _ (.region 6 _ _) _ _ from ?_))); first
    | ((first | refine aw_seq_regionT tabJ (tabJ_ok) (fun K hK => ?_) | refine aw_regionT tabJ (tabJ_ok) ?_ | refine aw_seq_region_drawF tabJ (tabJ_ok) (show (cxOf Try.prog 0 0 0).P.follows .mixedOrders = true by kernel_rfl) (fun K hK => ?_) | refine aw_region_drawF tabJ (tabJ_ok) (show (cxOf Try.prog 0 0 0).P.follows .mixedOrders = true by kernel_rfl) ?_ | refine aw_skip ?_ | refine aw_exit ?_ | refine aw_ret ?_); simp only [go_sem, ↓reduceIte, Nat.reduceAdd, Nat.reduceMul, Nat.reduceSub, Nat.reduceLT, Nat.reduceLeDiff, Nat.reduceEqDiff, Nat.reduceBEq, Int.reduceToNat, Int.reduceLT, Int.reduceLE, Int.reduceAdd, Int.reduceSub, Int.reduceMul, Int.reduceNeg, Int.reduceEq, Try.results38])
    | refine aw_seq (fun K hK => ?_)
    | refine aw_block ?_
    | refine aw_cond_t rfl ?_
    | refine aw_cond_f rfl ?_
    | refine aw_cond rfl (fun hc => ?_) (fun hc => ?_)
    | (first | (refine hK _ ?_; clear hK K) | (clear hK K; refine hK _ ?_; clear hK K) | (clear hK K; clear hK K; refine hK _ ?_; clear hK K) | (clear hK K; clear hK K; clear hK K; refine hK _ ?_; clear hK K) | (clear hK K; clear hK K; clear hK K; clear hK K; refine hK _ ?_; clear hK K))
    | ((first | refine (show AS.le _ _ from ?_) | refine (show leH _ _ from ?_) | refine (show inH _ _ from ?_)); simp only [AS.le, leT, leH, RoundK, AsgK, AV.le, AV.leL, AObj.le, inH, idsT, idsH, AV.ids, AV.idsL, AV.idsR, AObj.ids, lk, hget, go_sem, ↓reduceIte, Nat.reduceAdd, Nat.reduceMul, Nat.reduceSub, Nat.reduceLT, Nat.reduceLeDiff, Nat.reduceEqDiff, Nat.reduceBEq, Int.reduceToNat, Int.reduceLT, Int.reduceLE, Int.reduceAdd, Int.reduceSub, Int.reduceMul, Int.reduceNeg, Int.reduceEq])
    | refine fun (r2 : Rnd _) => ?_
    | refine fun (nb : Bool) (hnb : nb = true → _) => ?_
    | with_reducible refine And.intro ?_ ?_
    | exact ‹_ <+: _›
    | (refine (show drawOkF _ _ = true from ?_); kernel_rfl)
    | omega
    | refine fun (hg : (_ : Bool) = (_ : Bool)) => ?_)
  · rw [putS, if_pos (by simpa using hc)]; rfl
  · rename_i hc1
    rw [putS, if_neg (by simpa using hc1), if_pos (by simpa using hc)]; rfl
  · rename_i hc1
    have hwl := withoutFrom_len (findFrom n l 0) l 0
    refine aw_join ⟨[(0, true, .d (.sl 3 (l.map blkD))), (3, true, .vp 0 0), (7, true, .d (.int .i64 (findFrom n l 0)))], [(0, .var [.d (.int .i64 n), .d (.str d), .d (.bool (b || was l n))])], some []⟩ ?_ ?_
    · rcases findFrom_spec n l 0 with h | ⟨j, ⟨m, d', b'⟩, h, hq, hm⟩
      · repeat' (first
    | ((first | refine aw_seq_regionT tabJ (tabJ_ok) (fun K hK => ?_) | refine aw_regionT tabJ (tabJ_ok) ?_ | refine aw_seq_region_drawF tabJ (tabJ_ok) (show (cxOf Try.prog 0 0 0).P.follows .mixedOrders = true by kernel_rfl) (fun K hK => ?_) | refine aw_region_drawF tabJ (tabJ_ok) (show (cxOf Try.prog 0 0 0).P.follows .mixedOrders = true by kernel_rfl) ?_ | refine aw_skip ?_ | refine aw_exit ?_ | refine aw_ret ?_); simp only [go_sem, ↓reduceIte, Nat.reduceAdd, Nat.reduceMul, Nat.reduceSub, Nat.reduceLT, Nat.reduceLeDiff, Nat.reduceEqDiff, Nat.reduceBEq, Int.reduceToNat, Int.reduceLT, Int.reduceLE, Int.reduceAdd, Int.reduceSub, Int.reduceMul, Int.reduceNeg, Int.reduceEq, h, was_none h, Try.results38])
    | refine aw_seq (fun K hK => ?_)
    | refine aw_block ?_
    | refine aw_cond_t rfl ?_
    | refine aw_cond_f rfl ?_
    | refine aw_cond rfl (fun hc => ?_) (fun hc => ?_)
    | (first | (refine hK _ ?_; clear hK K) | (clear hK K; refine hK _ ?_; clear hK K) | (clear hK K; clear hK K; refine hK _ ?_; clear hK K) | (clear hK K; clear hK K; clear hK K; refine hK _ ?_; clear hK K) | (clear hK K; clear hK K; clear hK K; clear hK K; refine hK _ ?_; clear hK K))
    | ((first | refine (show AS.le _ _ from ?_) | refine (show leH _ _ from ?_) | refine (show inH _ _ from ?_)); simp only [AS.le, leT, leH, RoundK, AsgK, AV.le, AV.leL, AObj.le, inH, idsT, idsH, AV.ids, AV.idsL, AV.idsR, AObj.ids, lk, hget, go_sem, ↓reduceIte, Nat.reduceAdd, Nat.reduceMul, Nat.reduceSub, Nat.reduceLT, Nat.reduceLeDiff, Nat.reduceEqDiff, Nat.reduceBEq, Int.reduceToNat, Int.reduceLT, Int.reduceLE, Int.reduceAdd, Int.reduceSub, Int.reduceMul, Int.reduceNeg, Int.reduceEq, h, was_none h])
    | refine fun (r2 : Rnd _) => ?_
    | refine fun (nb : Bool) (hnb : nb = true → _) => ?_
    | with_reducible refine And.intro ?_ ?_
    | exact ‹_ <+: _›
    | (refine (show drawOkF _ _ = true from ?_); kernel_rfl)
    | omega
    | refine fun (hg : (_ : Bool) = (_ : Bool)) => ?_)
      · have hrow := at_row (g := blkD) hq
        simp only [blkD] at hrow
        have hj := (List.getElem?_eq_some_iff.1 hq).1
        rw [Nat.zero_add] at h
        repeat' (first
    | ((first | refine aw_seq_regionT tabJ (tabJ_ok) (fun K hK => ?_) | refine aw_regionT tabJ (tabJ_ok) ?_ | refine aw_seq_region_drawF tabJ (tabJ_ok) (show (cxOf Try.prog 0 0 0).P.follows .mixedOrders = true by kernel_rfl) (fun K hK => ?_) | refine aw_region_drawF tabJ (tabJ_ok) (show (cxOf Try.prog 0 0 0).P.follows .mixedOrders = true by kernel_rfl) ?_ | refine aw_skip ?_ | refine aw_exit ?_ | refine aw_ret ?_); simp only [go_sem, ↓reduceIte, Nat.reduceAdd, Nat.reduceMul, Nat.reduceSub, Nat.reduceLT, Nat.reduceLeDiff, Nat.reduceEqDiff, Nat.reduceBEq, Int.reduceToNat, Int.reduceLT, Int.reduceLE, Int.reduceAdd, Int.reduceSub, Int.reduceMul, Int.reduceNeg, Int.reduceEq, h, hrow, was_some h hq, Try.results38])
    | refine aw_seq (fun K hK => ?_)
    | refine aw_block ?_
    | refine aw_cond_t rfl ?_
    | refine aw_cond_f rfl ?_
    | refine aw_cond rfl (fun hc => ?_) (fun hc => ?_)
    | (first | (refine hK _ ?_; clear hK K) | (clear hK K; refine hK _ ?_; clear hK K) | (clear hK K; clear hK K; refine hK _ ?_; clear hK K) | (clear hK K; clear hK K; clear hK K; refine hK _ ?_; clear hK K) | (clear hK K; clear hK K; clear hK K; clear hK K; refine hK _ ?_; clear hK K))
    | ((first | refine (show AS.le _ _ from ?_) | refine (show leH _ _ from ?_) | refine (show inH _ _ from ?_)); simp only [AS.le, leT, leH, RoundK, AsgK, AV.le, AV.leL, AObj.le, inH, idsT, idsH, AV.ids, AV.idsL, AV.idsR, AObj.ids, lk, hget, go_sem, ↓reduceIte, Nat.reduceAdd, Nat.reduceMul, Nat.reduceSub, Nat.reduceLT, Nat.reduceLeDiff, Nat.reduceEqDiff, Nat.reduceBEq, Int.reduceToNat, Int.reduceLT, Int.reduceLE, Int.reduceAdd, Int.reduceSub, Int.reduceMul, Int.reduceNeg, Int.reduceEq, h, hrow, was_some h hq])
    | refine fun (r2 : Rnd _) => ?_
    | refine fun (nb : Bool) (hnb : nb = true → _) => ?_
    | with_reducible refine And.intro ?_ ?_
    | exact ‹_ <+: _›
    | (refine (show drawOkF _ _ = true from ?_); kernel_rfl)
    | omega
    | refine fun (hg : (_ : Bool) = (_ : Bool)) => ?_)
    · obtain ⟨W, hW⟩ : ∃ W, W = withoutFrom (findFrom n l 0) l 0 := ⟨_, rfl⟩
      have hall : putAll l (n, d, b) = (n, d, b || was l n) :: W := by rw [hW]; rfl
      rw [← hW] at hwl
      have hcm : 1 + W.length = W.length + 1 := Nat.add_comm ..
      have hP : putS l (n, d, b) = (((n, d, b || was l n) :: W).take 8, dirties (((n, d, b || was l n) :: W).drop 8), 0) := by
        rw [putS, if_neg (by simpa using hc1), if_neg (by simpa using hc), hall]
      rcases Nat.lt_or_ge 7 W.length with h7 | h7
      · obtain ⟨⟨m, d', c⟩, hq⟩ := at_some h7
        have hrow := at_row (g := blkD) hq
        simp only [blkD] at hrow
        have hd8 := at_drop hq
        have hle : decide (((W.length + 1 : Nat) : Int) ≤ 8) = false := decide_eq_false (by omega)
        have h7' : ¬ (8 ≤ 7) := by omega
        have hdr : dirties (((n, d, b || was l n) :: W).drop 8) = if c then [(m, d', c)] else [] := by
          rw [List.drop_succ_cons, hd8, List.drop_of_length_le (by omega)]
          cases c <;> rfl
        have htk : (((n, d, b || was l n) :: W).take 8).map blkD = [D.int .i64 n, D.str d, D.bool (b || was l n)] :: List.take 7 (W.map blkD) := by
          rw [List.map_take]; rfl
        repeat' (first
    | ((first | refine aw_seq_regionT tabJ (tabJ_ok) (fun K hK => ?_) | refine aw_regionT tabJ (tabJ_ok) ?_ | refine aw_seq_region_drawF tabJ (tabJ_ok) (show (cxOf Try.prog 0 0 0).P.follows .mixedOrders = true by kernel_rfl) (fun K hK => ?_) | refine aw_region_drawF tabJ (tabJ_ok) (show (cxOf Try.prog 0 0 0).P.follows .mixedOrders = true by kernel_rfl) ?_ | refine aw_skip ?_ | refine aw_exit ?_ | refine aw_ret ?_); simp only [go_sem, ↓reduceIte, Nat.reduceAdd, Nat.reduceMul, Nat.reduceSub, Nat.reduceLT, Nat.reduceLeDiff, Nat.reduceEqDiff, Nat.reduceBEq, Int.reduceToNat, Int.reduceLT, Int.reduceLE, Int.reduceAdd, Int.reduceSub, Int.reduceMul, Int.reduceNeg, Int.reduceEq, ← hW, hcm, hle, hrow, putL, Try.results38])
    | refine aw_seq (fun K hK => ?_)
    | refine aw_block ?_
    | refine aw_cond_t rfl ?_
    | refine aw_cond_f rfl ?_
    | refine aw_cond rfl (fun hc => ?_) (fun hc => ?_)
    | (first | (refine hK _ ?_; clear hK K) | (clear hK K; refine hK _ ?_; clear hK K) | (clear hK K; clear hK K; refine hK _ ?_; clear hK K) | (clear hK K; clear hK K; clear hK K; refine hK _ ?_; clear hK K) | (clear hK K; clear hK K; clear hK K; clear hK K; refine hK _ ?_; clear hK K))
    | ((first | refine (show AS.le _ _ from ?_) | refine (show leH _ _ from ?_) | refine (show inH _ _ from ?_)); simp only [AS.le, leT, leH, RoundK, AsgK, AV.le, AV.leL, AObj.le, inH, idsT, idsH, AV.ids, AV.idsL, AV.idsR, AObj.ids, lk, hget, go_sem, ↓reduceIte, Nat.reduceAdd, Nat.reduceMul, Nat.reduceSub, Nat.reduceLT, Nat.reduceLeDiff, Nat.reduceEqDiff, Nat.reduceBEq, Int.reduceToNat, Int.reduceLT, Int.reduceLE, Int.reduceAdd, Int.reduceSub, Int.reduceMul, Int.reduceNeg, Int.reduceEq, ← hW, hcm, hle, hrow, putL])
    | refine fun (r2 : Rnd _) => ?_
    | refine fun (nb : Bool) (hnb : nb = true → _) => ?_
    | with_reducible refine And.intro ?_ ?_
    | exact ‹_ <+: _›
    | (refine (show drawOkF _ _ = true from ?_); kernel_rfl)
    | omega
    | refine fun (hg : (_ : Bool) = (_ : Bool)) => ?_)
        · rw [hP, hdr, hc, if_pos (by omega), htk]; rfl
        · rw [hP, hdr, hc, if_pos (by omega), htk]; rfl
      · have hle : decide (((W.length + 1 : Nat) : Int) ≤ 8) = true := decide_eq_true (by omega)
        repeat' (first
    | ((first | refine aw_seq_regionT tabJ (tabJ_ok) (fun K hK => ?_) | refine aw_regionT tabJ (tabJ_ok) ?_ | refine aw_seq_region_drawF tabJ (tabJ_ok) (show (cxOf Try.prog 0 0 0).P.follows .mixedOrders = true by kernel_rfl) (fun K hK => ?_) | refine aw_region_drawF tabJ (tabJ_ok) (show (cxOf Try.prog 0 0 0).P.follows .mixedOrders = true by kernel_rfl) ?_ | refine aw_skip ?_ | refine aw_exit ?_ | refine aw_ret ?_); simp only [go_sem, ↓reduceIte, Nat.reduceAdd, Nat.reduceMul, Nat.reduceSub, Nat.reduceLT, Nat.reduceLeDiff, Nat.reduceEqDiff, Nat.reduceBEq, Int.reduceToNat, Int.reduceLT, Int.reduceLE, Int.reduceAdd, Int.reduceSub, Int.reduceMul, Int.reduceNeg, Int.reduceEq, ← hW, hcm, hle, Try.results38])
    | refine aw_seq (fun K hK => ?_)
    | refine aw_block ?_
    | refine aw_cond_t rfl ?_
    | refine aw_cond_f rfl ?_
    | refine aw_cond rfl (fun hc => ?_) (fun hc => ?_)
    | (first | (refine hK _ ?_; clear hK K) | (clear hK K; refine hK _ ?_; clear hK K) | (clear hK K; clear hK K; refine hK _ ?_; clear hK K) | (clear hK K; clear hK K; clear hK K; refine hK _ ?_; clear hK K) | (clear hK K; clear hK K; clear hK K; clear hK K; refine hK _ ?_; clear hK K))
    | ((first | refine (show AS.le _ _ from ?_) | refine (show leH _ _ from ?_) | refine (show inH _ _ from ?_)); simp only [AS.le, leT, leH, RoundK, AsgK, AV.le, AV.leL, AObj.le, inH, idsT, idsH, AV.ids, AV.idsL, AV.idsR, AObj.ids, lk, hget, go_sem, ↓reduceIte, Nat.reduceAdd, Nat.reduceMul, Nat.reduceSub, Nat.reduceLT, Nat.reduceLeDiff, Nat.reduceEqDiff, Nat.reduceBEq, Int.reduceToNat, Int.reduceLT, Int.reduceLE, Int.reduceAdd, Int.reduceSub, Int.reduceMul, Int.reduceNeg, Int.reduceEq, ← hW, hcm, hle])
    | refine fun (r2 : Rnd _) => ?_
    | refine fun (nb : Bool) (hnb : nb = true → _) => ?_
    | with_reducible refine And.intro ?_ ?_
    | exact ‹_ <+: _›
    | (refine (show drawOkF _ _ = true from ?_); kernel_rfl)
    | omega
    | refine fun (hg : (_ : Bool) = (_ : Bool)) => ?_)
        rw [hP, List.take_of_length_le (by simp; omega), List.drop_of_length_le (by simp; omega)]
        rfl
noncomputable def e_putRef_ok : Ent Try.prog := Ent.of 38 (fun x : (List Blk) × (Int) × (List UInt8) × (Bool) => (fun (l : List Blk) (n : Int) (d : List UInt8) (b : Bool) => ([.d (.sl 3 (l.map blkD)), .agg [.d (.int .i64 n), .d (.str d), .d (.bool b)]] : List AV)) x.1 x.2.1 x.2.2.1 x.2.2.2) (fun x : (List Blk) × (Int) × (List UInt8) × (Bool) => (fun (l : List Blk) (n : Int) (d : List UInt8) (b : Bool) => ((l.length ≤ 8) : Prop)) x.1 x.2.1 x.2.2.1 x.2.2.2) (fun x : (List Blk) × (Int) × (List UInt8) × (Bool) => (fun (l : List Blk) (n : Int) (d : List UInt8) (b : Bool) => (.tup [.d (.sl 3 ((putS l (n, d, b)).1.map blkD)), .d (.sl 3 ((putS l (n, d, b)).2.1.map blkD)), .d (.int .i64 (putS l (n, d, b)).2.2)] : AV)) x.1 x.2.1 x.2.2.1 x.2.2.2) (fun x hp => ⟨rfl, putRef_ok x.1 x.2.1 x.2.2.1 x.2.2.2 hp⟩)
theorem i_putRef_ok : ∀ x y : (List Blk) × (Int) × (List UInt8) × (Bool), (fun x : (List Blk) × (Int) × (List UInt8) × (Bool) => (fun (l : List Blk) (n : Int) (d : List UInt8) (b : Bool) => ([.d (.sl 3 (l.map blkD)), .agg [.d (.int .i64 n), .d (.str d), .d (.bool b)]] : List AV)) x.1 x.2.1 x.2.2.1 x.2.2.2) x = (fun x : (List Blk) × (Int) × (List UInt8) × (Bool) => (fun (l : List Blk) (n : Int) (d : List UInt8) (b : Bool) => ([.d (.sl 3 (l.map blkD)), .agg [.d (.int .i64 n), .d (.str d), .d (.bool b)]] : List AV)) x.1 x.2.1 x.2.2.1 x.2.2.2) y → x = y := by
  intro x y h
  obtain ⟨_, _, _, _⟩ := x
  obtain ⟨_, _, _, _⟩ := y
  simpa only [List.cons.injEq, AV.d.injEq, AV.agg.injEq, AV.dp.injEq, AV.fn.injEq, AV.tup.injEq, AV.asl.injEq, Int.natCast_inj, D.int.injEq, D.str.injEq, D.bool.injEq, D.sl.injEq, Prod.mk.injEq, and_true, true_and, and_assoc, map_inj blkD_inj, map_inj intD_inj, map_inj strD_inj, map_inj boolD_inj] using h
@[go_sem] theorem a0_putRef_ok (l : List Blk) (n : Int) (d : List UInt8) (b : Bool) : (e_putRef_ok).e [.d (.sl 3 (l.map blkD)), .agg [.d (.int .i64 n), .d (.str d), .d (.bool b)]] = some ((l.length ≤ 8), .tup [.d (.sl 3 ((putS l (n, d, b)).1.map blkD)), .d (.sl 3 ((putS l (n, d, b)).2.1.map blkD)), .d (.int .i64 (putS l (n, d, b)).2.2)]) := Ent.of_app i_putRef_ok (l, n, d, b)
@[go_sem] theorem a1_putRef_ok (n : Int) (d : List UInt8) (b : Bool) : (e_putRef_ok).e [.d (.sl 3 []), .agg [.d (.int .i64 n), .d (.str d), .d (.bool b)]] = some ((([] : List Blk).length ≤ 8), .tup [.d (.sl 3 ((putS ([] : List Blk) (n, d, b)).1.map blkD)), .d (.sl 3 ((putS ([] : List Blk) (n, d, b)).2.1.map blkD)), .d (.int .i64 (putS ([] : List Blk) (n, d, b)).2.2)]) := Ent.of_app i_putRef_ok (([] : List Blk), n, d, b)
end Go.Aw
