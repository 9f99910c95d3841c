/-
  Dirty, the program's and the reference's.
-/
import Derived.Test.YtoofpcploeanpaaCacheI
--new
namespace Go.Aw
set_option maxRecDepth 100000
set_option linter.unusedSimpArgs false
set_option linter.unusedVariables false
open Go Go.Proofs

theorem pdq_ok (L : List Blk) (m : Int) (hl : L.length ≤ 8) : ACall Try.prog 74 2 [.osl 1 3 L.length 0 L.length, .d (.int .i64 0), .d (.int .i64 L.length), .d (.int .i64 m), .fn (.func 55) [] []] [(1, .arr 3 (L.map blkD))] (fun _ h' => h' = [(1, .arr 3 ((srt [] L).map blkD))]) := by
  refine acall_of_body Try.func74 rfl (enters Try.func74 (by kernel_rfl) rfl) Try.ntmps74 (by simp) (fun base => ?_)
  repeat' (first
    | ((first | refine aw_seq_regionT noTab (noTab_ok _) (fun K hK => ?_) | refine aw_regionT noTab (noTab_ok _) ?_ | refine aw_seq_region_drawF noTab (noTab_ok _) (show (cxOf Try.prog 0 0 0).P.follows .mixedOrders = true by kernel_rfl) (fun K hK => ?_) | refine aw_region_drawF noTab (noTab_ok _) (show (cxOf Try.prog 0 0 0).P.follows .mixedOrders = true by kernel_rfl) ?_ | refine aw_skip ?_ | refine aw_exit ?_ | refine aw_ret ?_); simp only [go_sem, ↓reduceIte, Nat.reduceAdd, Nat.reduceMul, Nat.reduceSub, Nat.reduceLT, Nat.reduceLeDiff, Nat.reduceEqDiff, Nat.reduceBEq, Int.reduceToNat, Int.reduceLT, Int.reduceLE, Int.reduceAdd, Int.reduceSub, Int.reduceMul, Int.reduceNeg, Int.reduceEq, Try.results74])
    | refine aw_seq (fun K hK => ?_)
    | refine aw_block ?_
    | refine aw_cond_t rfl ?_
    | refine aw_cond_f rfl ?_
    | refine aw_cond rfl (fun hc => ?_) (fun hc => ?_)
    | (first | (refine hK _ ?_; clear hK K) | (clear hK K; refine hK _ ?_; clear hK K) | (clear hK K; clear hK K; refine hK _ ?_; clear hK K) | (clear hK K; clear hK K; clear hK K; refine hK _ ?_; clear hK K) | (clear hK K; clear hK K; clear hK K; clear hK K; refine hK _ ?_; clear hK K))
    | ((first | refine (show AS.le _ _ from ?_) | refine (show leH _ _ from ?_) | refine (show inH _ _ from ?_)); simp only [AS.le, leT, leH, RoundK, AsgK, AV.le, AV.leL, AObj.le, inH, idsT, idsH, AV.ids, AV.idsL, AV.idsR, AObj.ids, lk, hget, go_sem, ↓reduceIte, Nat.reduceAdd, Nat.reduceMul, Nat.reduceSub, Nat.reduceLT, Nat.reduceLeDiff, Nat.reduceEqDiff, Nat.reduceBEq, Int.reduceToNat, Int.reduceLT, Int.reduceLE, Int.reduceAdd, Int.reduceSub, Int.reduceMul, Int.reduceNeg, Int.reduceEq])
    | refine fun (r2 : Rnd _) => ?_
    | refine fun (nb : Bool) (hnb : nb = true → _) => ?_
    | with_reducible refine And.intro ?_ ?_
    | exact ‹_ <+: _›
    | (refine (show drawOkF _ _ = true from ?_); kernel_rfl)
    | omega
    | refine fun (hg : (_ : Bool) = (_ : Bool)) => ?_)
  have hw : IntKind.i64.wrap ((L.length : Int) - 0) = L.length := by rw [IntKind.wrap_i64]; omega
  have hle : decide ((L.length : Int) ≤ 12) = true := decide_eq_true (by omega)
  refine aw_loop (fun _ : Unit => ⟨[(0, true, .osl 1 3 L.length 0 L.length), (1, true, .d (.int .i64 0)), (2, true, .d (.int .i64 L.length)), (4, true, .fn (.func 55) [] [])], [(1, .arr 3 (L.map blkD))], some []⟩) (fun _ => 0) () (by simp only [AS.le, leT, leH, RoundK, AsgK, AV.le, AV.leL, AObj.le, inH, idsT, idsH, AV.ids, AV.idsL, AV.idsR, AObj.ids, lk, hget, go_sem, ↓reduceIte, Nat.reduceAdd, Nat.reduceMul, Nat.reduceSub, Nat.reduceLT, Nat.reduceLeDiff, Nat.reduceEqDiff, Nat.reduceBEq, Int.reduceToNat, Int.reduceLT, Int.reduceLE, Int.reduceAdd, Int.reduceSub, Int.reduceMul, Int.reduceNeg, Int.reduceEq]) (fun _ => ?_)
  repeat' (first
    | ((first | refine aw_seq_regionT noTab (noTab_ok _) (fun K hK => ?_) | refine aw_regionT noTab (noTab_ok _) ?_ | refine aw_seq_region_drawF noTab (noTab_ok _) (show (cxOf Try.prog 0 0 0).P.follows .mixedOrders = true by kernel_rfl) (fun K hK => ?_) | refine aw_region_drawF noTab (noTab_ok _) (show (cxOf Try.prog 0 0 0).P.follows .mixedOrders = true by kernel_rfl) ?_ | refine aw_skip ?_ | refine aw_exit ?_ | refine aw_ret ?_); simp only [go_sem, ↓reduceIte, Nat.reduceAdd, Nat.reduceMul, Nat.reduceSub, Nat.reduceLT, Nat.reduceLeDiff, Nat.reduceEqDiff, Nat.reduceBEq, Int.reduceToNat, Int.reduceLT, Int.reduceLE, Int.reduceAdd, Int.reduceSub, Int.reduceMul, Int.reduceNeg, Int.reduceEq, hw, hle, Try.results74])
    | refine aw_seq (fun K hK => ?_)
    | refine aw_block ?_
    | refine aw_cond_t rfl ?_
    | refine aw_cond_f rfl ?_
    | refine aw_cond rfl (fun hc => ?_) (fun hc => ?_)
    | (first | (refine hK _ ?_; clear hK K) | (clear hK K; refine hK _ ?_; clear hK K) | (clear hK K; clear hK K; refine hK _ ?_; clear hK K) | (clear hK K; clear hK K; clear hK K; refine hK _ ?_; clear hK K) | (clear hK K; clear hK K; clear hK K; clear hK K; refine hK _ ?_; clear hK K))
    | ((first | refine (show AS.le _ _ from ?_) | refine (show leH _ _ from ?_) | refine (show inH _ _ from ?_)); simp only [AS.le, leT, leH, RoundK, AsgK, AV.le, AV.leL, AObj.le, inH, idsT, idsH, AV.ids, AV.idsL, AV.idsR, AObj.ids, lk, hget, go_sem, ↓reduceIte, Nat.reduceAdd, Nat.reduceMul, Nat.reduceSub, Nat.reduceLT, Nat.reduceLeDiff, Nat.reduceEqDiff, Nat.reduceBEq, Int.reduceToNat, Int.reduceLT, Int.reduceLE, Int.reduceAdd, Int.reduceSub, Int.reduceMul, Int.reduceNeg, Int.reduceEq, hw, hle])
    | refine fun (r2 : Rnd _) => ?_
    | refine fun (nb : Bool) (hnb : nb = true → _) => ?_
    | with_reducible refine And.intro ?_ ?_
    | exact ‹_ <+: _›
    | (refine (show drawOkF _ _ = true from ?_); kernel_rfl)
    | omega
    | refine fun (hg : (_ : Bool) = (_ : Bool)) => ?_)
  refine ((insertion_ok L (by omega)).whole (hfl_of rfl) (Nat.le_refl _) (by rintro r h' rfl i hi; simp only [hget] at hi ⊢; split <;> simp_all)).mono ?_
  rintro r h' rfl
  repeat' (first
    | ((first | refine aw_seq_regionT noTab (noTab_ok _) (fun K hK => ?_) | refine aw_regionT noTab (noTab_ok _) ?_ | refine aw_seq_region_drawF noTab (noTab_ok _) (show (cxOf Try.prog 0 0 0).P.follows .mixedOrders = true by kernel_rfl) (fun K hK => ?_) | refine aw_region_drawF noTab (noTab_ok _) (show (cxOf Try.prog 0 0 0).P.follows .mixedOrders = true by kernel_rfl) ?_ | refine aw_skip ?_ | refine aw_exit ?_ | refine aw_ret ?_); simp only [go_sem, ↓reduceIte, Nat.reduceAdd, Nat.reduceMul, Nat.reduceSub, Nat.reduceLT, Nat.reduceLeDiff, Nat.reduceEqDiff, Nat.reduceBEq, Int.reduceToNat, Int.reduceLT, Int.reduceLE, Int.reduceAdd, Int.reduceSub, Int.reduceMul, Int.reduceNeg, Int.reduceEq, Try.results74])
    | refine aw_seq (fun K hK => ?_)
    | refine aw_block ?_
    | refine aw_cond_t rfl ?_
    | refine aw_cond_f rfl ?_
    | refine aw_cond rfl (fun hc => ?_) (fun hc => ?_)
    | (first | (refine hK _ ?_; clear hK K) | (clear hK K; refine hK _ ?_; clear hK K) | (clear hK K; clear hK K; refine hK _ ?_; clear hK K) | (clear hK K; clear hK K; clear hK K; refine hK _ ?_; clear hK K) | (clear hK K; clear hK K; clear hK K; clear hK K; refine hK _ ?_; clear hK K))
    | ((first | refine (show AS.le _ _ from ?_) | refine (show leH _ _ from ?_) | refine (show inH _ _ from ?_)); simp only [AS.le, leT, leH, RoundK, AsgK, AV.le, AV.leL, AObj.le, inH, idsT, idsH, AV.ids, AV.idsL, AV.idsR, AObj.ids, lk, hget, go_sem, ↓reduceIte, Nat.reduceAdd, Nat.reduceMul, Nat.reduceSub, Nat.reduceLT, Nat.reduceLeDiff, Nat.reduceEqDiff, Nat.reduceBEq, Int.reduceToNat, Int.reduceLT, Int.reduceLE, Int.reduceAdd, Int.reduceSub, Int.reduceMul, Int.reduceNeg, Int.reduceEq])
    | refine fun (r2 : Rnd _) => ?_
    | refine fun (nb : Bool) (hnb : nb = true → _) => ?_
    | with_reducible refine And.intro ?_ ?_
    | exact ‹_ <+: _›
    | (refine (show drawOkF _ _ = true from ?_); kernel_rfl)
    | omega
    | refine fun (hg : (_ : Bool) = (_ : Bool)) => ?_)

noncomputable def tabSf : Tab := tabOf [e_len_ok]
theorem tabSf_ok : TabOk Try.prog tabSf := tabOf_ok _
@[go_sem] theorem tabSf_len_ok (args : List AV) : tabSf 75 args = (e_len_ok).e args := rfl

theorem sortFunc_ok (L : List Blk) (hl : L.length ≤ 8) : ACall Try.prog 69 2 [.osl 1 3 L.length 0 L.length, .fn (.func 55) [] []] [(1, .arr 3 (L.map blkD))] (fun _ h' => h' = [(1, .arr 3 ((srt [] L).map blkD))]) := by
  refine acall_of_body Try.func69 rfl (enters Try.func69 (by kernel_rfl) rfl) Try.ntmps69 (by simp) (fun base => ?_)
  repeat' (first
    | ((first | refine aw_seq_regionT tabSf (tabSf_ok) (fun K hK => ?_) | refine aw_regionT tabSf (tabSf_ok) ?_ | refine aw_seq_region_drawF tabSf (tabSf_ok) (show (cxOf Try.prog 0 0 0).P.follows .mixedOrders = true by kernel_rfl) (fun K hK => ?_) | refine aw_region_drawF tabSf (tabSf_ok) (show (cxOf Try.prog 0 0 0).P.follows .mixedOrders = true by kernel_rfl) ?_ | refine aw_skip ?_ | refine aw_exit ?_ | refine aw_ret ?_); simp only [go_sem, ↓reduceIte, Nat.reduceAdd, Nat.reduceMul, Nat.reduceSub, Nat.reduceLT, Nat.reduceLeDiff, Nat.reduceEqDiff, Nat.reduceBEq, Int.reduceToNat, Int.reduceLT, Int.reduceLE, Int.reduceAdd, Int.reduceSub, Int.reduceMul, Int.reduceNeg, Int.reduceEq, wrap_u64 hl, Try.results69])
    | refine aw_seq (fun K hK => ?_)
    | refine aw_block ?_
    | refine aw_cond_t rfl ?_
    | refine aw_cond_f rfl ?_
    | refine aw_cond rfl (fun hc => ?_) (fun hc => ?_)
    | (first | (refine hK _ ?_; clear hK K) | (clear hK K; refine hK _ ?_; clear hK K) | (clear hK K; clear hK K; refine hK _ ?_; clear hK K) | (clear hK K; clear hK K; clear hK K; refine hK _ ?_; clear hK K) | (clear hK K; clear hK K; clear hK K; clear hK K; refine hK _ ?_; clear hK K))
    | ((first | refine (show AS.le _ _ from ?_) | refine (show leH _ _ from ?_) | refine (show inH _ _ from ?_)); simp only [AS.le, leT, leH, RoundK, AsgK, AV.le, AV.leL, AObj.le, inH, idsT, idsH, AV.ids, AV.idsL, AV.idsR, AObj.ids, lk, hget, go_sem, ↓reduceIte, Nat.reduceAdd, Nat.reduceMul, Nat.reduceSub, Nat.reduceLT, Nat.reduceLeDiff, Nat.reduceEqDiff, Nat.reduceBEq, Int.reduceToNat, Int.reduceLT, Int.reduceLE, Int.reduceAdd, Int.reduceSub, Int.reduceMul, Int.reduceNeg, Int.reduceEq, wrap_u64 hl])
    | refine fun (r2 : Rnd _) => ?_
    | refine fun (nb : Bool) (hnb : nb = true → _) => ?_
    | with_reducible refine And.intro ?_ ?_
    | exact ‹_ <+: _›
    | (refine (show drawOkF _ _ = true from ?_); kernel_rfl)
    | omega
    | refine fun (hg : (_ : Bool) = (_ : Bool)) => ?_)
  refine ((pdq_ok L _ hl).whole (hfl_of rfl) (Nat.le_refl _) (by rintro r h' rfl i hi; simp only [hget] at hi ⊢; split <;> simp_all)).mono ?_
  rintro r h' rfl
  repeat' (first
    | ((first | refine aw_seq_regionT noTab (noTab_ok _) (fun K hK => ?_) | refine aw_regionT noTab (noTab_ok _) ?_ | refine aw_seq_region_drawF noTab (noTab_ok _) (show (cxOf Try.prog 0 0 0).P.follows .mixedOrders = true by kernel_rfl) (fun K hK => ?_) | refine aw_region_drawF noTab (noTab_ok _) (show (cxOf Try.prog 0 0 0).P.follows .mixedOrders = true by kernel_rfl) ?_ | refine aw_skip ?_ | refine aw_exit ?_ | refine aw_ret ?_); simp only [go_sem, ↓reduceIte, Nat.reduceAdd, Nat.reduceMul, Nat.reduceSub, Nat.reduceLT, Nat.reduceLeDiff, Nat.reduceEqDiff, Nat.reduceBEq, Int.reduceToNat, Int.reduceLT, Int.reduceLE, Int.reduceAdd, Int.reduceSub, Int.reduceMul, Int.reduceNeg, Int.reduceEq, Try.results69])
    | refine aw_seq (fun K hK => ?_)
    | refine aw_block ?_
    | refine aw_cond_t rfl ?_
    | refine aw_cond_f rfl ?_
    | refine aw_cond rfl (fun hc => ?_) (fun hc => ?_)
    | (first | (refine hK _ ?_; clear hK K) | (clear hK K; refine hK _ ?_; clear hK K) | (clear hK K; clear hK K; refine hK _ ?_; clear hK K) | (clear hK K; clear hK K; clear hK K; refine hK _ ?_; clear hK K) | (clear hK K; clear hK K; clear hK K; clear hK K; refine hK _ ?_; clear hK K))
    | ((first | refine (show AS.le _ _ from ?_) | refine (show leH _ _ from ?_) | refine (show inH _ _ from ?_)); simp only [AS.le, leT, leH, RoundK, AsgK, AV.le, AV.leL, AObj.le, inH, idsT, idsH, AV.ids, AV.idsL, AV.idsR, AObj.ids, lk, hget, go_sem, ↓reduceIte, Nat.reduceAdd, Nat.reduceMul, Nat.reduceSub, Nat.reduceLT, Nat.reduceLeDiff, Nat.reduceEqDiff, Nat.reduceBEq, Int.reduceToNat, Int.reduceLT, Int.reduceLE, Int.reduceAdd, Int.reduceSub, Int.reduceMul, Int.reduceNeg, Int.reduceEq])
    | refine fun (r2 : Rnd _) => ?_
    | refine fun (nb : Bool) (hnb : nb = true → _) => ?_
    | with_reducible refine And.intro ?_ ?_
    | exact ‹_ <+: _›
    | (refine (show drawOkF _ _ = true from ?_); kernel_rfl)
    | omega
    | refine fun (hg : (_ : Bool) = (_ : Bool)) => ?_)
  rfl

theorem srt_len : ∀ (l acc : List Blk), (srt acc l).length = acc.length + l.length
  | [], acc => by simp [srt]
  | q :: l, acc => by
    simp only [srt]
    rw [srt_len l, insB_len]
    simp; omega

theorem sortedFunc_ok (l : List Blk) (hl : l.length ≤ 8) : ACall Try.prog 54 0 [.fn (.func 65) [] [.dp [.d (.sl 3 (l.map blkD))]], .fn (.func 55) [] []] [] (fun r _ => r = .d (.sl 3 ((srt [] (dirties l)).map blkD))) := by
  refine acall_frz ?_
  refine acall_of_body Try.func54 rfl (enters Try.func54 (by kernel_rfl) rfl) Try.ntmps54 (by simp) (fun base => ?_)
  have hdl : (dirties l).length ≤ 8 := Nat.le_trans (List.length_filter_le _ _) hl
  repeat' (first
    | ((first | refine aw_seq_regionT noTab (noTab_ok _) (fun K hK => ?_) | refine aw_regionT noTab (noTab_ok _) ?_ | refine aw_seq_region_drawF noTab (noTab_ok _) (show (cxOf Try.prog 0 0 0).P.follows .mixedOrders = true by kernel_rfl) (fun K hK => ?_) | refine aw_region_drawF noTab (noTab_ok _) (show (cxOf Try.prog 0 0 0).P.follows .mixedOrders = true by kernel_rfl) ?_ | refine aw_skip ?_ | refine aw_exit ?_ | refine aw_ret ?_); simp only [go_sem, ↓reduceIte, Nat.reduceAdd, Nat.reduceMul, Nat.reduceSub, Nat.reduceLT, Nat.reduceLeDiff, Nat.reduceEqDiff, Nat.reduceBEq, Int.reduceToNat, Int.reduceLT, Int.reduceLE, Int.reduceAdd, Int.reduceSub, Int.reduceMul, Int.reduceNeg, Int.reduceEq, Try.results54])
    | refine aw_seq (fun K hK => ?_)
    | refine aw_block ?_
    | refine aw_cond_t rfl ?_
    | refine aw_cond_f rfl ?_
    | refine aw_cond rfl (fun hc => ?_) (fun hc => ?_)
    | (first | (refine hK _ ?_; clear hK K) | (clear hK K; refine hK _ ?_; clear hK K) | (clear hK K; clear hK K; refine hK _ ?_; clear hK K) | (clear hK K; clear hK K; clear hK K; refine hK _ ?_; clear hK K) | (clear hK K; clear hK K; clear hK K; clear hK K; refine hK _ ?_; clear hK K))
    | ((first | refine (show AS.le _ _ from ?_) | refine (show leH _ _ from ?_) | refine (show inH _ _ from ?_)); simp only [AS.le, leT, leH, RoundK, AsgK, AV.le, AV.leL, AObj.le, inH, idsT, idsH, AV.ids, AV.idsL, AV.idsR, AObj.ids, lk, hget, go_sem, ↓reduceIte, Nat.reduceAdd, Nat.reduceMul, Nat.reduceSub, Nat.reduceLT, Nat.reduceLeDiff, Nat.reduceEqDiff, Nat.reduceBEq, Int.reduceToNat, Int.reduceLT, Int.reduceLE, Int.reduceAdd, Int.reduceSub, Int.reduceMul, Int.reduceNeg, Int.reduceEq])
    | refine fun (r2 : Rnd _) => ?_
    | refine fun (nb : Bool) (hnb : nb = true → _) => ?_
    | with_reducible refine And.intro ?_ ?_
    | exact ‹_ <+: _›
    | (refine (show drawOkF _ _ = true from ?_); kernel_rfl)
    | omega
    | refine fun (hg : (_ : Bool) = (_ : Bool)) => ?_)
  refine ((collect_ok l (by omega)).whole (hfl_of rfl) (Nat.le_refl _) (by rintro r h' _ i hi; simp [hget] at hi)).mono ?_
  rintro r h' ⟨rfl, rfl⟩
  repeat' (first
    | ((first | refine aw_seq_regionT noTab (noTab_ok _) (fun K hK => ?_) | refine aw_regionT noTab (noTab_ok _) ?_ | refine aw_seq_region_drawF noTab (noTab_ok _) (show (cxOf Try.prog 0 0 0).P.follows .mixedOrders = true by kernel_rfl) (fun K hK => ?_) | refine aw_region_drawF noTab (noTab_ok _) (show (cxOf Try.prog 0 0 0).P.follows .mixedOrders = true by kernel_rfl) ?_ | refine aw_skip ?_ | refine aw_exit ?_ | refine aw_ret ?_); simp only [go_sem, ↓reduceIte, Nat.reduceAdd, Nat.reduceMul, Nat.reduceSub, Nat.reduceLT, Nat.reduceLeDiff, Nat.reduceEqDiff, Nat.reduceBEq, Int.reduceToNat, Int.reduceLT, Int.reduceLE, Int.reduceAdd, Int.reduceSub, Int.reduceMul, Int.reduceNeg, Int.reduceEq, Try.results54])
    | refine aw_seq (fun K hK => ?_)
    | refine aw_block ?_
    | refine aw_cond_t rfl ?_
    | refine aw_cond_f rfl ?_
    | refine aw_cond rfl (fun hc => ?_) (fun hc => ?_)
    | (first | (refine hK _ ?_; clear hK K) | (clear hK K; refine hK _ ?_; clear hK K) | (clear hK K; clear hK K; refine hK _ ?_; clear hK K) | (clear hK K; clear hK K; clear hK K; refine hK _ ?_; clear hK K) | (clear hK K; clear hK K; clear hK K; clear hK K; refine hK _ ?_; clear hK K))
    | ((first | refine (show AS.le _ _ from ?_) | refine (show leH _ _ from ?_) | refine (show inH _ _ from ?_)); simp only [AS.le, leT, leH, RoundK, AsgK, AV.le, AV.leL, AObj.le, inH, idsT, idsH, AV.ids, AV.idsL, AV.idsR, AObj.ids, lk, hget, go_sem, ↓reduceIte, Nat.reduceAdd, Nat.reduceMul, Nat.reduceSub, Nat.reduceLT, Nat.reduceLeDiff, Nat.reduceEqDiff, Nat.reduceBEq, Int.reduceToNat, Int.reduceLT, Int.reduceLE, Int.reduceAdd, Int.reduceSub, Int.reduceMul, Int.reduceNeg, Int.reduceEq])
    | refine fun (r2 : Rnd _) => ?_
    | refine fun (nb : Bool) (hnb : nb = true → _) => ?_
    | with_reducible refine And.intro ?_ ?_
    | exact ‹_ <+: _›
    | (refine (show drawOkF _ _ = true from ?_); kernel_rfl)
    | omega
    | refine fun (hg : (_ : Bool) = (_ : Bool)) => ?_)
  refine ((sortFunc_ok (dirties l) hdl).whole (hfl_of rfl) (Nat.zero_le _) (by rintro r h' rfl i hi; simp only [hget] at hi ⊢; split <;> simp_all)).mono ?_
  rintro r h' rfl
  have hsl : (srt [] (dirties l)).length = (dirties l).length := by rw [srt_len]; simp
  repeat' (first
    | ((first | refine aw_seq_regionT noTab (noTab_ok _) (fun K hK => ?_) | refine aw_regionT noTab (noTab_ok _) ?_ | refine aw_seq_region_drawF noTab (noTab_ok _) (show (cxOf Try.prog 0 0 0).P.follows .mixedOrders = true by kernel_rfl) (fun K hK => ?_) | refine aw_region_drawF noTab (noTab_ok _) (show (cxOf Try.prog 0 0 0).P.follows .mixedOrders = true by kernel_rfl) ?_ | refine aw_skip ?_ | refine aw_exit ?_ | refine aw_ret ?_); simp only [go_sem, ↓reduceIte, Nat.reduceAdd, Nat.reduceMul, Nat.reduceSub, Nat.reduceLT, Nat.reduceLeDiff, Nat.reduceEqDiff, Nat.reduceBEq, Int.reduceToNat, Int.reduceLT, Int.reduceLE, Int.reduceAdd, Int.reduceSub, Int.reduceMul, Int.reduceNeg, Int.reduceEq, hsl, Try.results54])
    | refine aw_seq (fun K hK => ?_)
    | refine aw_block ?_
    | refine aw_cond_t rfl ?_
    | refine aw_cond_f rfl ?_
    | refine aw_cond rfl (fun hc => ?_) (fun hc => ?_)
    | (first | (refine hK _ ?_; clear hK K) | (clear hK K; refine hK _ ?_; clear hK K) | (clear hK K; clear hK K; refine hK _ ?_; clear hK K) | (clear hK K; clear hK K; clear hK K; refine hK _ ?_; clear hK K) | (clear hK K; clear hK K; clear hK K; clear hK K; refine hK _ ?_; clear hK K))
    | ((first | refine (show AS.le _ _ from ?_) | refine (show leH _ _ from ?_) | refine (show inH _ _ from ?_)); simp only [AS.le, leT, leH, RoundK, AsgK, AV.le, AV.leL, AObj.le, inH, idsT, idsH, AV.ids, AV.idsL, AV.idsR, AObj.ids, lk, hget, go_sem, ↓reduceIte, Nat.reduceAdd, Nat.reduceMul, Nat.reduceSub, Nat.reduceLT, Nat.reduceLeDiff, Nat.reduceEqDiff, Nat.reduceBEq, Int.reduceToNat, Int.reduceLT, Int.reduceLE, Int.reduceAdd, Int.reduceSub, Int.reduceMul, Int.reduceNeg, Int.reduceEq, hsl])
    | refine fun (r2 : Rnd _) => ?_
    | refine fun (nb : Bool) (hnb : nb = true → _) => ?_
    | with_reducible refine And.intro ?_ ?_
    | exact ‹_ <+: _›
    | (refine (show drawOkF _ _ = true from ?_); kernel_rfl)
    | omega
    | refine fun (hg : (_ : Bool) = (_ : Bool)) => ?_)
  rw [List.take_of_length_le (by simp [hsl])]
noncomputable def e_sortedFunc_ok : Ent Try.prog := Ent.of 54 (fun x : (List Blk) => (fun (l : List Blk) => ([.fn (.func 65) [] [.dp [.d (.sl 3 (l.map blkD))]], .fn (.func 55) [] []] : List AV)) x) (fun x : (List Blk) => (fun (l : List Blk) => ((l.length ≤ 8) : Prop)) x) (fun x : (List Blk) => (fun (l : List Blk) => (.d (.sl 3 ((srt [] (dirties l)).map blkD)) : AV)) x) (fun x hp => ⟨rfl, sortedFunc_ok x hp⟩)
theorem i_sortedFunc_ok : ∀ x y : (List Blk), (fun x : (List Blk) => (fun (l : List Blk) => ([.fn (.func 65) [] [.dp [.d (.sl 3 (l.map blkD))]], .fn (.func 55) [] []] : List AV)) x) x = (fun x : (List Blk) => (fun (l : List Blk) => ([.fn (.func 65) [] [.dp [.d (.sl 3 (l.map blkD))]], .fn (.func 55) [] []] : List AV)) x) y → x = y := by
  intro x y h
  skip
  simpa only [List.cons.injEq, AV.d.injEq, AV.agg.injEq, AV.dp.injEq, AV.fn.injEq, AV.tup.injEq, AV.asl.injEq, Int.natCast_inj, D.int.injEq, D.str.injEq, D.bool.injEq, D.sl.injEq, Prod.mk.injEq, and_true, true_and, and_assoc, map_inj blkD_inj, map_inj intD_inj, map_inj strD_inj, map_inj boolD_inj] using h
@[go_sem] theorem a0_sortedFunc_ok (l : List Blk) : (e_sortedFunc_ok).e [.fn (.func 65) [] [.dp [.d (.sl 3 (l.map blkD))]], .fn (.func 55) [] []] = some ((l.length ≤ 8), .d (.sl 3 ((srt [] (dirties l)).map blkD))) := Ent.of_app i_sortedFunc_ok (l)
@[go_sem] theorem a1_sortedFunc_ok  : (e_sortedFunc_ok).e [.fn (.func 65) [] [.dp [.d (.sl 3 [])]], .fn (.func 55) [] []] = some ((([] : List Blk).length ≤ 8), .d (.sl 3 ((srt [] (dirties ([] : List Blk))).map blkD))) := Ent.of_app i_sortedFunc_ok (([] : List Blk))
noncomputable def tabSo : Tab := tabOf [e_sortedFunc_ok, e_dirty_ok]
theorem tabSo_ok : TabOk Try.prog tabSo := tabOf_ok _
@[go_sem] theorem tabSo_sortedFunc_ok (args : List AV) : tabSo 54 args = (e_sortedFunc_ok).e args := rfl
@[go_sem] theorem tabSo_dirty_ok (args : List AV) : tabSo 52 args = (e_dirty_ok).e args := rfl

theorem cdirty_ok (l : List Blk) (hl : l.length ≤ 8) : ACall Try.prog 36 0 [.d (.sl 3 (l.map blkD))] [] (fun r _ => r = .d (.sl 3 ((srt [] (dirties l)).map blkD))) := by
  refine acall_of_body Try.func36 rfl (enters Try.func36 (by kernel_rfl) rfl) Try.ntmps36 (by simp) (fun base => ?_)
  repeat' (first
    | ((first | refine aw_seq_regionT tabSo (tabSo_ok) (fun K hK => ?_) | refine aw_regionT tabSo (tabSo_ok) ?_ | refine aw_seq_region_drawF tabSo (tabSo_ok) (show (cxOf Try.prog 0 0 0).P.follows .mixedOrders = true by kernel_rfl) (fun K hK => ?_) | refine aw_region_drawF tabSo (tabSo_ok) (show (cxOf Try.prog 0 0 0).P.follows .mixedOrders = true by kernel_rfl) ?_ | refine aw_skip ?_ | refine aw_exit ?_ | refine aw_ret ?_); simp only [go_sem, ↓reduceIte, Nat.reduceAdd, Nat.reduceMul, Nat.reduceSub, Nat.reduceLT, Nat.reduceLeDiff, Nat.reduceEqDiff, Nat.reduceBEq, Int.reduceToNat, Int.reduceLT, Int.reduceLE, Int.reduceAdd, Int.reduceSub, Int.reduceMul, Int.reduceNeg, Int.reduceEq, Try.results36])
    | refine aw_seq (fun K hK => ?_)
    | refine aw_block ?_
    | refine aw_cond_t rfl ?_
    | refine aw_cond_f rfl ?_
    | refine aw_cond rfl (fun hc => ?_) (fun hc => ?_)
    | (first | (refine hK _ ?_; clear hK K) | (clear hK K; refine hK _ ?_; clear hK K) | (clear hK K; clear hK K; refine hK _ ?_; clear hK K) | (clear hK K; clear hK K; clear hK K; refine hK _ ?_; clear hK K) | (clear hK K; clear hK K; clear hK K; clear hK K; refine hK _ ?_; clear hK K))
    | ((first | refine (show AS.le _ _ from ?_) | refine (show leH _ _ from ?_) | refine (show inH _ _ from ?_)); simp only [AS.le, leT, leH, RoundK, AsgK, AV.le, AV.leL, AObj.le, inH, idsT, idsH, AV.ids, AV.idsL, AV.idsR, AObj.ids, lk, hget, go_sem, ↓reduceIte, Nat.reduceAdd, Nat.reduceMul, Nat.reduceSub, Nat.reduceLT, Nat.reduceLeDiff, Nat.reduceEqDiff, Nat.reduceBEq, Int.reduceToNat, Int.reduceLT, Int.reduceLE, Int.reduceAdd, Int.reduceSub, Int.reduceMul, Int.reduceNeg, Int.reduceEq])
    | refine fun (r2 : Rnd _) => ?_
    | refine fun (nb : Bool) (hnb : nb = true → _) => ?_
    | with_reducible refine And.intro ?_ ?_
    | exact ‹_ <+: _›
    | (refine (show drawOkF _ _ = true from ?_); kernel_rfl)
    | omega
    | refine fun (hg : (_ : Bool) = (_ : Bool)) => ?_)
noncomputable def e_cdirty_ok : Ent Try.prog := Ent.of 36 (fun x : (List Blk) => (fun (l : List Blk) => ([.d (.sl 3 (l.map blkD))] : List AV)) x) (fun x : (List Blk) => (fun (l : List Blk) => ((l.length ≤ 8) : Prop)) x) (fun x : (List Blk) => (fun (l : List Blk) => (.d (.sl 3 ((srt [] (dirties l)).map blkD)) : AV)) x) (fun x hp => ⟨rfl, cdirty_ok x hp⟩)
theorem i_cdirty_ok : ∀ x y : (List Blk), (fun x : (List Blk) => (fun (l : List Blk) => ([.d (.sl 3 (l.map blkD))] : List AV)) x) x = (fun x : (List Blk) => (fun (l : List Blk) => ([.d (.sl 3 (l.map blkD))] : List AV)) x) y → x = y := by
  intro x y h
  skip
  simpa only [List.cons.injEq, AV.d.injEq, AV.agg.injEq, AV.dp.injEq, AV.fn.injEq, AV.tup.injEq, AV.asl.injEq, Int.natCast_inj, D.int.injEq, D.str.injEq, D.bool.injEq, D.sl.injEq, Prod.mk.injEq, and_true, true_and, and_assoc, map_inj blkD_inj, map_inj intD_inj, map_inj strD_inj, map_inj boolD_inj] using h
@[go_sem] theorem a0_cdirty_ok (l : List Blk) : (e_cdirty_ok).e [.d (.sl 3 (l.map blkD))] = some ((l.length ≤ 8), .d (.sl 3 ((srt [] (dirties l)).map blkD))) := Ent.of_app i_cdirty_ok (l)
@[go_sem] theorem a1_cdirty_ok  : (e_cdirty_ok).e [.d (.sl 3 [])] = some ((([] : List Blk).length ≤ 8), .d (.sl 3 ((srt [] (dirties ([] : List Blk))).map blkD))) := Ent.of_app i_cdirty_ok (([] : List Blk))

abbrev Ddst (l : List Blk) := { q : Nat × List Blk // q.1 ≤ l.length ∧ srt q.2 (dirties (l.drop q.1)) = srt [] (dirties l) ∧ q.2.length ≤ q.1 }

theorem dirtyRef_ok (l : List Blk) (hl : l.length ≤ 300) : ACall Try.prog 41 0 [.d (.sl 3 (l.map blkD))] [] (fun r _ => r = .d (.sl 3 ((srt [] (dirties l)).map blkD))) := by
  refine acall_frz ?_
  refine acall_of_body Try.func41 rfl (enters Try.func41 (by kernel_rfl) rfl) Try.ntmps41 (by simp) (fun base => ?_)
  repeat' (first
    | ((first | refine aw_seq_regionT noTab (noTab_ok _) (fun K hK => ?_) | refine aw_regionT noTab (noTab_ok _) ?_ | refine aw_seq_region_drawF noTab (noTab_ok _) (show (cxOf Try.prog 0 0 0).P.follows .mixedOrders = true by kernel_rfl) (fun K hK => ?_) | refine aw_region_drawF noTab (noTab_ok _) (show (cxOf Try.prog 0 0 0).P.follows .mixedOrders = true by kernel_rfl) ?_ | refine aw_skip ?_ | refine aw_exit ?_ | refine aw_ret ?_); simp only [go_sem, ↓reduceIte, Nat.reduceAdd, Nat.reduceMul, Nat.reduceSub, Nat.reduceLT, Nat.reduceLeDiff, Nat.reduceEqDiff, Nat.reduceBEq, Int.reduceToNat, Int.reduceLT, Int.reduceLE, Int.reduceAdd, Int.reduceSub, Int.reduceMul, Int.reduceNeg, Int.reduceEq, Try.results41])
    | refine aw_seq (fun K hK => ?_)
    | refine aw_block ?_
    | refine aw_cond_t rfl ?_
    | refine aw_cond_f rfl ?_
    | refine aw_cond rfl (fun hc => ?_) (fun hc => ?_)
    | (first | (refine hK _ ?_; clear hK K) | (clear hK K; refine hK _ ?_; clear hK K) | (clear hK K; clear hK K; refine hK _ ?_; clear hK K) | (clear hK K; clear hK K; clear hK K; refine hK _ ?_; clear hK K) | (clear hK K; clear hK K; clear hK K; clear hK K; refine hK _ ?_; clear hK K))
    | ((first | refine (show AS.le _ _ from ?_) | refine (show leH _ _ from ?_) | refine (show inH _ _ from ?_)); simp only [AS.le, leT, leH, RoundK, AsgK, AV.le, AV.leL, AObj.le, inH, idsT, idsH, AV.ids, AV.idsL, AV.idsR, AObj.ids, lk, hget, go_sem, ↓reduceIte, Nat.reduceAdd, Nat.reduceMul, Nat.reduceSub, Nat.reduceLT, Nat.reduceLeDiff, Nat.reduceEqDiff, Nat.reduceBEq, Int.reduceToNat, Int.reduceLT, Int.reduceLE, Int.reduceAdd, Int.reduceSub, Int.reduceMul, Int.reduceNeg, Int.reduceEq])
    | refine fun (r2 : Rnd _) => ?_
    | refine fun (nb : Bool) (hnb : nb = true → _) => ?_
    | with_reducible refine And.intro ?_ ?_
    | exact ‹_ <+: _›
    | (refine (show drawOkF _ _ = true from ?_); kernel_rfl)
    | omega
    | refine fun (hg : (_ : Bool) = (_ : Bool)) => ?_)
  refine aw_le ⟨[(0, true, .d (.sl 3 (l.map blkD))), (3, true, .d (.sl 3 [])), (4, true, .d (.int .i64 0))], [], some []⟩ (by simp only [AS.le, leT, leH, RoundK, AsgK, AV.le, AV.leL, AObj.le, inH, idsT, idsH, AV.ids, AV.idsL, AV.idsR, AObj.ids, lk, hget, go_sem, ↓reduceIte, Nat.reduceAdd, Nat.reduceMul, Nat.reduceSub, Nat.reduceLT, Nat.reduceLeDiff, Nat.reduceEqDiff, Nat.reduceBEq, Int.reduceToNat, Int.reduceLT, Int.reduceLE, Int.reduceAdd, Int.reduceSub, Int.reduceMul, Int.reduceNeg, Int.reduceEq]) ?_
  refine aw_loop (fun q : Ddst l => ⟨[(0, true, .d (.sl 3 (l.map blkD))), (3, true, .d (.sl 3 (q.1.2.map blkD))), (4, true, .d (.int .i64 q.1.1))], [], some []⟩) (fun q => l.length - q.1.1) ⟨(0, []), Nat.zero_le _, rfl, Nat.le_refl _⟩ (by simp only [AS.le, leT, leH, RoundK, AsgK, AV.le, AV.leL, AObj.le, inH, idsT, idsH, AV.ids, AV.idsL, AV.idsR, AObj.ids, lk, hget, go_sem, ↓reduceIte, Nat.reduceAdd, Nat.reduceMul, Nat.reduceSub, Nat.reduceLT, Nat.reduceLeDiff, Nat.reduceEqDiff, Nat.reduceBEq, Int.reduceToNat, Int.reduceLT, Int.reduceLE, Int.reduceAdd, Int.reduceSub, Int.reduceMul, Int.reduceNeg, Int.reduceEq]; rfl) (fun q => ?_)
  obtain ⟨⟨i, acc⟩, hi, hs, hal⟩ := q
  simp only at hi hs hal ⊢
  rcases at_cases blkD l i hi with ⟨⟨m, d, b⟩, hq, hlt, hcmp, hrow, hdr, htk⟩ | ⟨hend, hcmp⟩
  · simp only [blkD] at hrow
    have hwi := wrap_suc (i := i) (by omega)
    cases b with
    | false =>
      have hd2 : dirties (l.drop i) = dirties (l.drop (i + 1)) := by rw [hdr]; rfl
      rw [hd2] at hs
      repeat' (first
    | ((first | refine aw_seq_regionT noTab (noTab_ok _) (fun K hK => ?_) | refine aw_regionT noTab (noTab_ok _) ?_ | refine aw_seq_region_drawF noTab (noTab_ok _) (show (cxOf Try.prog 0 0 0).P.follows .mixedOrders = true by kernel_rfl) (fun K hK => ?_) | refine aw_region_drawF noTab (noTab_ok _) (show (cxOf Try.prog 0 0 0).P.follows .mixedOrders = true by kernel_rfl) ?_ | refine aw_skip ?_ | refine aw_exit ?_ | refine aw_ret ?_); simp only [go_sem, ↓reduceIte, Nat.reduceAdd, Nat.reduceMul, Nat.reduceSub, Nat.reduceLT, Nat.reduceLeDiff, Nat.reduceEqDiff, Nat.reduceBEq, Int.reduceToNat, Int.reduceLT, Int.reduceLE, Int.reduceAdd, Int.reduceSub, Int.reduceMul, Int.reduceNeg, Int.reduceEq, hcmp, hrow, Try.results41])
    | refine aw_seq (fun K hK => ?_)
    | refine aw_block ?_
    | refine aw_cond_t rfl ?_
    | refine aw_cond_f rfl ?_
    | refine aw_cond rfl (fun hc => ?_) (fun hc => ?_)
    | (first | (refine hK _ ?_; clear hK K) | (clear hK K; refine hK _ ?_; clear hK K) | (clear hK K; clear hK K; refine hK _ ?_; clear hK K) | (clear hK K; clear hK K; clear hK K; refine hK _ ?_; clear hK K) | (clear hK K; clear hK K; clear hK K; clear hK K; refine hK _ ?_; clear hK K))
    | ((first | refine (show AS.le _ _ from ?_) | refine (show leH _ _ from ?_) | refine (show inH _ _ from ?_)); simp only [AS.le, leT, leH, RoundK, AsgK, AV.le, AV.leL, AObj.le, inH, idsT, idsH, AV.ids, AV.idsL, AV.idsR, AObj.ids, lk, hget, go_sem, ↓reduceIte, Nat.reduceAdd, Nat.reduceMul, Nat.reduceSub, Nat.reduceLT, Nat.reduceLeDiff, Nat.reduceEqDiff, Nat.reduceBEq, Int.reduceToNat, Int.reduceLT, Int.reduceLE, Int.reduceAdd, Int.reduceSub, Int.reduceMul, Int.reduceNeg, Int.reduceEq, hcmp, hrow])
    | refine fun (r2 : Rnd _) => ?_
    | refine fun (nb : Bool) (hnb : nb = true → _) => ?_
    | with_reducible refine And.intro ?_ ?_
    | exact ‹_ <+: _›
    | (refine (show drawOkF _ _ = true from ?_); kernel_rfl)
    | omega
    | refine fun (hg : (_ : Bool) = (_ : Bool)) => ?_)
      exact ⟨⟨(i + 1, acc), by omega, hs, by simp only; omega⟩, by simp only [AS.le, leT, leH, RoundK, AsgK, AV.le, AV.leL, AObj.le, inH, idsT, idsH, AV.ids, AV.idsL, AV.idsR, AObj.ids, lk, hget, go_sem, ↓reduceIte, Nat.reduceAdd, Nat.reduceMul, Nat.reduceSub, Nat.reduceLT, Nat.reduceLeDiff, Nat.reduceEqDiff, Nat.reduceBEq, Int.reduceToNat, Int.reduceLT, Int.reduceLE, Int.reduceAdd, Int.reduceSub, Int.reduceMul, Int.reduceNeg, Int.reduceEq, hwi], by simp; omega⟩
    | true =>
      have hd2 : dirties (l.drop i) = (m, d, true) :: dirties (l.drop (i + 1)) := by rw [hdr]; rfl
      rw [hd2] at hs
      repeat' (first
    | ((first | refine aw_seq_regionT noTab (noTab_ok _) (fun K hK => ?_) | refine aw_regionT noTab (noTab_ok _) ?_ | refine aw_seq_region_drawF noTab (noTab_ok _) (show (cxOf Try.prog 0 0 0).P.follows .mixedOrders = true by kernel_rfl) (fun K hK => ?_) | refine aw_region_drawF noTab (noTab_ok _) (show (cxOf Try.prog 0 0 0).P.follows .mixedOrders = true by kernel_rfl) ?_ | refine aw_skip ?_ | refine aw_exit ?_ | refine aw_ret ?_); simp only [go_sem, ↓reduceIte, Nat.reduceAdd, Nat.reduceMul, Nat.reduceSub, Nat.reduceLT, Nat.reduceLeDiff, Nat.reduceEqDiff, Nat.reduceBEq, Int.reduceToNat, Int.reduceLT, Int.reduceLE, Int.reduceAdd, Int.reduceSub, Int.reduceMul, Int.reduceNeg, Int.reduceEq, hcmp, hrow, Try.results41])
    | refine aw_seq (fun K hK => ?_)
    | refine aw_block ?_
    | refine aw_cond_t rfl ?_
    | refine aw_cond_f rfl ?_
    | refine aw_cond rfl (fun hc => ?_) (fun hc => ?_)
    | (first | (refine hK _ ?_; clear hK K) | (clear hK K; refine hK _ ?_; clear hK K) | (clear hK K; clear hK K; refine hK _ ?_; clear hK K) | (clear hK K; clear hK K; clear hK K; refine hK _ ?_; clear hK K) | (clear hK K; clear hK K; clear hK K; clear hK K; refine hK _ ?_; clear hK K))
    | ((first | refine (show AS.le _ _ from ?_) | refine (show leH _ _ from ?_) | refine (show inH _ _ from ?_)); simp only [AS.le, leT, leH, RoundK, AsgK, AV.le, AV.leL, AObj.le, inH, idsT, idsH, AV.ids, AV.idsL, AV.idsR, AObj.ids, lk, hget, go_sem, ↓reduceIte, Nat.reduceAdd, Nat.reduceMul, Nat.reduceSub, Nat.reduceLT, Nat.reduceLeDiff, Nat.reduceEqDiff, Nat.reduceBEq, Int.reduceToNat, Int.reduceLT, Int.reduceLE, Int.reduceAdd, Int.reduceSub, Int.reduceMul, Int.reduceNeg, Int.reduceEq, hcmp, hrow])
    | refine fun (r2 : Rnd _) => ?_
    | refine fun (nb : Bool) (hnb : nb = true → _) => ?_
    | with_reducible refine And.intro ?_ ?_
    | exact ‹_ <+: _›
    | (refine (show drawOkF _ _ = true from ?_); kernel_rfl)
    | omega
    | refine fun (hg : (_ : Bool) = (_ : Bool)) => ?_)
      obtain ⟨S, hS⟩ : ∃ S, S = insB (m, d, true) acc.reverse [] := ⟨_, rfl⟩
      have hs2 : srt S (dirties (l.drop (i + 1))) = srt [] (dirties l) := by rw [← hs, hS]; rfl
      have hSl : S.length = acc.length + 1 := by rw [hS, insB_len]; simp
      refine aw_loop (fun q : { q : List Blk × List Blk // insB (m, d, true) q.1 q.2 = S ∧ q.1.reverse ++ q.2 = acc } => ⟨[(0, true, .d (.sl 3 (l.map blkD))), (3, true, .d (.sl 3 (acc.map blkD))), (4, true, .d (.int .i64 i)), (5, true, .d (.int .i64 q.1.1.length))], [], some []⟩) (fun q => q.1.1.length) ⟨(acc.reverse, []), hS.symm, by simp⟩ (by simp only [AS.le, leT, leH, RoundK, AsgK, AV.le, AV.leL, AObj.le, inH, idsT, idsH, AV.ids, AV.idsL, AV.idsR, AObj.ids, lk, hget, go_sem, ↓reduceIte, Nat.reduceAdd, Nat.reduceMul, Nat.reduceSub, Nat.reduceLT, Nat.reduceLeDiff, Nat.reduceEqDiff, Nat.reduceBEq, Int.reduceToNat, Int.reduceLT, Int.reduceLE, Int.reduceAdd, Int.reduceSub, Int.reduceMul, Int.reduceNeg, Int.reduceEq, List.length_reverse]) (fun q => ?_)
      obtain ⟨⟨Ar, B⟩, hq1, hq2⟩ := q
      simp only at hq1 hq2 ⊢
      have hABl : Ar.length + B.length = acc.length := by rw [← hq2]; simp
      have hdone : ∀ (hstop : insB (m, d, true) Ar B = Ar.reverse ++ (m, d, true) :: B), List.take Ar.length (acc.map blkD) ++ [[D.int .i64 m, D.str d, D.bool true]] ++ List.drop Ar.length (acc.map blkD) = S.map blkD := by
        intro hstop
        rw [← hq1, hstop, ← hq2, ← List.map_take, ← List.map_drop, List.take_left' (by simp), List.drop_left' (by simp)]
        simp [blkD]
      have hle0 : Ar.length ≤ acc.length := by omega
      have hml : min Ar.length acc.length = Ar.length := by omega
      have hsub : Ar.length + 1 + (acc.length - Ar.length) = S.length := by omega
      cases Ar with
      | nil =>
        have hz : decide ((0 : Int) < ((0 : Nat) : Int)) = false := by decide
        repeat' ((fail_if_success (refine (show AW _ (.seq (.region 4 _ _) _) _ _ from ?_))); (fail_if_success (refine (show AW _ (.seq (.seq (.region 4 _ _) _) _) _ _ from ?_))); (fail_if_success (refine (show AW _ (.seq (.seq (.seq (.region 4 _ _) _) _) _) _ _ from ?_))); (fail_if_success (refine (show AW _ (.region 4 _ _) _ _ from ?_))); first
    | ((first | refine aw_seq_regionT noTab (noTab_ok _) (fun K hK => ?_) | refine aw_regionT noTab (noTab_ok _) ?_ | refine aw_seq_region_drawF noTab (noTab_ok _) (show (cxOf Try.prog 0 0 0).P.follows .mixedOrders = true by kernel_rfl) (fun K hK => ?_) | refine aw_region_drawF noTab (noTab_ok _) (show (cxOf Try.prog 0 0 0).P.follows .mixedOrders = true by kernel_rfl) ?_ | refine aw_skip ?_ | refine aw_exit ?_ | refine aw_ret ?_); simp only [go_sem, ↓reduceIte, Nat.reduceAdd, Nat.reduceMul, Nat.reduceSub, Nat.reduceLT, Nat.reduceLeDiff, Nat.reduceEqDiff, Nat.reduceBEq, Int.reduceToNat, Int.reduceLT, Int.reduceLE, Int.reduceAdd, Int.reduceSub, Int.reduceMul, Int.reduceNeg, Int.reduceEq, hz, hrow, List.length_take, List.length_drop, hml, Try.results41])
    | refine aw_seq (fun K hK => ?_)
    | refine aw_block ?_
    | refine aw_cond_t rfl ?_
    | refine aw_cond_f rfl ?_
    | refine aw_cond rfl (fun hc => ?_) (fun hc => ?_)
    | (first | (refine hK _ ?_; clear hK K) | (clear hK K; refine hK _ ?_; clear hK K) | (clear hK K; clear hK K; refine hK _ ?_; clear hK K) | (clear hK K; clear hK K; clear hK K; refine hK _ ?_; clear hK K) | (clear hK K; clear hK K; clear hK K; clear hK K; refine hK _ ?_; clear hK K))
    | ((first | refine (show AS.le _ _ from ?_) | refine (show leH _ _ from ?_) | refine (show inH _ _ from ?_)); simp only [AS.le, leT, leH, RoundK, AsgK, AV.le, AV.leL, AObj.le, inH, idsT, idsH, AV.ids, AV.idsL, AV.idsR, AObj.ids, lk, hget, go_sem, ↓reduceIte, Nat.reduceAdd, Nat.reduceMul, Nat.reduceSub, Nat.reduceLT, Nat.reduceLeDiff, Nat.reduceEqDiff, Nat.reduceBEq, Int.reduceToNat, Int.reduceLT, Int.reduceLE, Int.reduceAdd, Int.reduceSub, Int.reduceMul, Int.reduceNeg, Int.reduceEq, hz, hrow, List.length_take, List.length_drop, hml])
    | refine fun (r2 : Rnd _) => ?_
    | refine fun (nb : Bool) (hnb : nb = true → _) => ?_
    | with_reducible refine And.intro ?_ ?_
    | exact ‹_ <+: _›
    | (refine (show drawOkF _ _ = true from ?_); kernel_rfl)
    | omega
    | refine fun (hg : (_ : Bool) = (_ : Bool)) => ?_)
        have hS2 : S = (m, d, true) :: acc := by
          rw [← hq1, ← hq2]; rfl
        have hX : [D.int .i64 m, D.str d, D.bool true] :: acc.map blkD = S.map blkD := by rw [hS2]; rfl
        rw [hX]
        refine aw_freeze 0 rfl ?_; simp only [go_sem, ↓reduceIte, Nat.reduceAdd, Nat.reduceMul, Nat.reduceSub, Nat.reduceLT, Nat.reduceLeDiff, Nat.reduceEqDiff, Nat.reduceBEq, Int.reduceToNat, Int.reduceLT, Int.reduceLE, Int.reduceAdd, Int.reduceSub, Int.reduceMul, Int.reduceNeg, Int.reduceEq,  ← hSl, Nat.add_comm 1 acc.length]
        repeat' (first
    | ((first | refine aw_seq_regionT noTab (noTab_ok _) (fun K hK => ?_) | refine aw_regionT noTab (noTab_ok _) ?_ | refine aw_seq_region_drawF noTab (noTab_ok _) (show (cxOf Try.prog 0 0 0).P.follows .mixedOrders = true by kernel_rfl) (fun K hK => ?_) | refine aw_region_drawF noTab (noTab_ok _) (show (cxOf Try.prog 0 0 0).P.follows .mixedOrders = true by kernel_rfl) ?_ | refine aw_skip ?_ | refine aw_exit ?_ | refine aw_ret ?_); simp only [go_sem, ↓reduceIte, Nat.reduceAdd, Nat.reduceMul, Nat.reduceSub, Nat.reduceLT, Nat.reduceLeDiff, Nat.reduceEqDiff, Nat.reduceBEq, Int.reduceToNat, Int.reduceLT, Int.reduceLE, Int.reduceAdd, Int.reduceSub, Int.reduceMul, Int.reduceNeg, Int.reduceEq, Try.results41])
    | refine aw_seq (fun K hK => ?_)
    | refine aw_block ?_
    | refine aw_cond_t rfl ?_
    | refine aw_cond_f rfl ?_
    | refine aw_cond rfl (fun hc => ?_) (fun hc => ?_)
    | (first | (refine hK _ ?_; clear hK K) | (clear hK K; refine hK _ ?_; clear hK K) | (clear hK K; clear hK K; refine hK _ ?_; clear hK K) | (clear hK K; clear hK K; clear hK K; refine hK _ ?_; clear hK K) | (clear hK K; clear hK K; clear hK K; clear hK K; refine hK _ ?_; clear hK K))
    | ((first | refine (show AS.le _ _ from ?_) | refine (show leH _ _ from ?_) | refine (show inH _ _ from ?_)); simp only [AS.le, leT, leH, RoundK, AsgK, AV.le, AV.leL, AObj.le, inH, idsT, idsH, AV.ids, AV.idsL, AV.idsR, AObj.ids, lk, hget, go_sem, ↓reduceIte, Nat.reduceAdd, Nat.reduceMul, Nat.reduceSub, Nat.reduceLT, Nat.reduceLeDiff, Nat.reduceEqDiff, Nat.reduceBEq, Int.reduceToNat, Int.reduceLT, Int.reduceLE, Int.reduceAdd, Int.reduceSub, Int.reduceMul, Int.reduceNeg, Int.reduceEq])
    | refine fun (r2 : Rnd _) => ?_
    | refine fun (nb : Bool) (hnb : nb = true → _) => ?_
    | with_reducible refine And.intro ?_ ?_
    | exact ‹_ <+: _›
    | (refine (show drawOkF _ _ = true from ?_); kernel_rfl)
    | omega
    | refine fun (hg : (_ : Bool) = (_ : Bool)) => ?_)
        exact ⟨⟨(i + 1, S), by omega, hs2, by simp only; omega⟩, by simp only [AS.le, leT, leH, RoundK, AsgK, AV.le, AV.leL, AObj.le, inH, idsT, idsH, AV.ids, AV.idsL, AV.idsR, AObj.ids, lk, hget, go_sem, ↓reduceIte, Nat.reduceAdd, Nat.reduceMul, Nat.reduceSub, Nat.reduceLT, Nat.reduceLeDiff, Nat.reduceEqDiff, Nat.reduceBEq, Int.reduceToNat, Int.reduceLT, Int.reduceLE, Int.reduceAdd, Int.reduceSub, Int.reduceMul, Int.reduceNeg, Int.reduceEq, hwi], by simp; omega⟩
      | cons a A =>
        obtain ⟨n, e, c⟩ := a
        have hpos : decide ((0 : Int) < ((A.length + 1 : Nat) : Int)) = true := decide_eq_true (by omega)
        have hw : IntKind.i64.wrap (((A.length + 1 : Nat) : Int) - 1) = ((A.length : Nat) : Int) := by rw [IntKind.wrap_i64]; simp only [List.length_cons] at hABl; omega
        have hr1 : (acc.map blkD).getD A.length [] = [D.int .i64 n, .str e, .bool c] := at_row (q := (n, e, c)) (by rw [← hq2, List.reverse_cons, List.append_assoc, List.getElem?_append_right (by simp)]; simp)
        simp only [List.length_cons] at hABl hle0 hml hsub ⊢
        repeat' ((fail_if_success (refine (show AW _ (.seq (.region 4 _ _) _) _ _ from ?_))); (fail_if_success (refine (show AW _ (.seq (.seq (.region 4 _ _) _) _) _ _ from ?_))); (fail_if_success (refine (show AW _ (.seq (.seq (.seq (.region 4 _ _) _) _) _) _ _ from ?_))); (fail_if_success (refine (show AW _ (.region 4 _ _) _ _ from ?_))); first
    | ((first | refine aw_seq_regionT noTab (noTab_ok _) (fun K hK => ?_) | refine aw_regionT noTab (noTab_ok _) ?_ | refine aw_seq_region_drawF noTab (noTab_ok _) (show (cxOf Try.prog 0 0 0).P.follows .mixedOrders = true by kernel_rfl) (fun K hK => ?_) | refine aw_region_drawF noTab (noTab_ok _) (show (cxOf Try.prog 0 0 0).P.follows .mixedOrders = true by kernel_rfl) ?_ | refine aw_skip ?_ | refine aw_exit ?_ | refine aw_ret ?_); simp only [go_sem, ↓reduceIte, Nat.reduceAdd, Nat.reduceMul, Nat.reduceSub, Nat.reduceLT, Nat.reduceLeDiff, Nat.reduceEqDiff, Nat.reduceBEq, Int.reduceToNat, Int.reduceLT, Int.reduceLE, Int.reduceAdd, Int.reduceSub, Int.reduceMul, Int.reduceNeg, Int.reduceEq, hrow, hpos, hw, hr1, List.length_take, List.length_drop, List.length_append, hml, Try.results41])
    | refine aw_seq (fun K hK => ?_)
    | refine aw_block ?_
    | refine aw_cond_t rfl ?_
    | refine aw_cond_f rfl ?_
    | refine aw_cond rfl (fun hc => ?_) (fun hc => ?_)
    | (first | (refine hK _ ?_; clear hK K) | (clear hK K; refine hK _ ?_; clear hK K) | (clear hK K; clear hK K; refine hK _ ?_; clear hK K) | (clear hK K; clear hK K; clear hK K; refine hK _ ?_; clear hK K) | (clear hK K; clear hK K; clear hK K; clear hK K; refine hK _ ?_; clear hK K))
    | ((first | refine (show AS.le _ _ from ?_) | refine (show leH _ _ from ?_) | refine (show inH _ _ from ?_)); simp only [AS.le, leT, leH, RoundK, AsgK, AV.le, AV.leL, AObj.le, inH, idsT, idsH, AV.ids, AV.idsL, AV.idsR, AObj.ids, lk, hget, go_sem, ↓reduceIte, Nat.reduceAdd, Nat.reduceMul, Nat.reduceSub, Nat.reduceLT, Nat.reduceLeDiff, Nat.reduceEqDiff, Nat.reduceBEq, Int.reduceToNat, Int.reduceLT, Int.reduceLE, Int.reduceAdd, Int.reduceSub, Int.reduceMul, Int.reduceNeg, Int.reduceEq, hrow, hpos, hw, hr1, List.length_take, List.length_drop, List.length_append, hml])
    | refine fun (r2 : Rnd _) => ?_
    | refine fun (nb : Bool) (hnb : nb = true → _) => ?_
    | with_reducible refine And.intro ?_ ?_
    | exact ‹_ <+: _›
    | (refine (show drawOkF _ _ = true from ?_); kernel_rfl)
    | omega
    | refine fun (hg : (_ : Bool) = (_ : Bool)) => ?_)
        · have hmn : m < n := by simpa using hc
          have hin : insB (m, d, true) A ((n, e, c) :: B) = S := by rw [← hq1, insB, if_pos hmn]
          exact ⟨⟨(A, (n, e, c) :: B), hin, by rw [← hq2]; simp⟩, by simp only [AS.le, leT, leH, RoundK, AsgK, AV.le, AV.leL, AObj.le, inH, idsT, idsH, AV.ids, AV.idsL, AV.idsR, AObj.ids, lk, hget, go_sem, ↓reduceIte, Nat.reduceAdd, Nat.reduceMul, Nat.reduceSub, Nat.reduceLT, Nat.reduceLeDiff, Nat.reduceEqDiff, Nat.reduceBEq, Int.reduceToNat, Int.reduceLT, Int.reduceLE, Int.reduceAdd, Int.reduceSub, Int.reduceMul, Int.reduceNeg, Int.reduceEq], by simp⟩
        · have hmn : ¬ m < n := by simpa using hc
          have hX := hdone (by rw [insB, if_neg hmn, List.reverse_cons, List.append_assoc]; rfl)
          simp only [List.length_cons] at hX
          rw [hX]
          refine aw_freeze 0 rfl ?_; simp only [go_sem, ↓reduceIte, Nat.reduceAdd, Nat.reduceMul, Nat.reduceSub, Nat.reduceLT, Nat.reduceLeDiff, Nat.reduceEqDiff, Nat.reduceBEq, Int.reduceToNat, Int.reduceLT, Int.reduceLE, Int.reduceAdd, Int.reduceSub, Int.reduceMul, Int.reduceNeg, Int.reduceEq,  hsub]
          repeat' (first
    | ((first | refine aw_seq_regionT noTab (noTab_ok _) (fun K hK => ?_) | refine aw_regionT noTab (noTab_ok _) ?_ | refine aw_seq_region_drawF noTab (noTab_ok _) (show (cxOf Try.prog 0 0 0).P.follows .mixedOrders = true by kernel_rfl) (fun K hK => ?_) | refine aw_region_drawF noTab (noTab_ok _) (show (cxOf Try.prog 0 0 0).P.follows .mixedOrders = true by kernel_rfl) ?_ | refine aw_skip ?_ | refine aw_exit ?_ | refine aw_ret ?_); simp only [go_sem, ↓reduceIte, Nat.reduceAdd, Nat.reduceMul, Nat.reduceSub, Nat.reduceLT, Nat.reduceLeDiff, Nat.reduceEqDiff, Nat.reduceBEq, Int.reduceToNat, Int.reduceLT, Int.reduceLE, Int.reduceAdd, Int.reduceSub, Int.reduceMul, Int.reduceNeg, Int.reduceEq, Try.results41])
    | refine aw_seq (fun K hK => ?_)
    | refine aw_block ?_
    | refine aw_cond_t rfl ?_
    | refine aw_cond_f rfl ?_
    | refine aw_cond rfl (fun hc => ?_) (fun hc => ?_)
    | (first | (refine hK _ ?_; clear hK K) | (clear hK K; refine hK _ ?_; clear hK K) | (clear hK K; clear hK K; refine hK _ ?_; clear hK K) | (clear hK K; clear hK K; clear hK K; refine hK _ ?_; clear hK K) | (clear hK K; clear hK K; clear hK K; clear hK K; refine hK _ ?_; clear hK K))
    | ((first | refine (show AS.le _ _ from ?_) | refine (show leH _ _ from ?_) | refine (show inH _ _ from ?_)); simp only [AS.le, leT, leH, RoundK, AsgK, AV.le, AV.leL, AObj.le, inH, idsT, idsH, AV.ids, AV.idsL, AV.idsR, AObj.ids, lk, hget, go_sem, ↓reduceIte, Nat.reduceAdd, Nat.reduceMul, Nat.reduceSub, Nat.reduceLT, Nat.reduceLeDiff, Nat.reduceEqDiff, Nat.reduceBEq, Int.reduceToNat, Int.reduceLT, Int.reduceLE, Int.reduceAdd, Int.reduceSub, Int.reduceMul, Int.reduceNeg, Int.reduceEq])
    | refine fun (r2 : Rnd _) => ?_
    | refine fun (nb : Bool) (hnb : nb = true → _) => ?_
    | with_reducible refine And.intro ?_ ?_
    | exact ‹_ <+: _›
    | (refine (show drawOkF _ _ = true from ?_); kernel_rfl)
    | omega
    | refine fun (hg : (_ : Bool) = (_ : Bool)) => ?_)
          exact ⟨⟨(i + 1, S), by omega, hs2, by simp only; omega⟩, by simp only [AS.le, leT, leH, RoundK, AsgK, AV.le, AV.leL, AObj.le, inH, idsT, idsH, AV.ids, AV.idsL, AV.idsR, AObj.ids, lk, hget, go_sem, ↓reduceIte, Nat.reduceAdd, Nat.reduceMul, Nat.reduceSub, Nat.reduceLT, Nat.reduceLeDiff, Nat.reduceEqDiff, Nat.reduceBEq, Int.reduceToNat, Int.reduceLT, Int.reduceLE, Int.reduceAdd, Int.reduceSub, Int.reduceMul, Int.reduceNeg, Int.reduceEq, hwi], by simp; omega⟩
  · repeat' (first
    | ((first | refine aw_seq_regionT noTab (noTab_ok _) (fun K hK => ?_) | refine aw_regionT noTab (noTab_ok _) ?_ | refine aw_seq_region_drawF noTab (noTab_ok _) (show (cxOf Try.prog 0 0 0).P.follows .mixedOrders = true by kernel_rfl) (fun K hK => ?_) | refine aw_region_drawF noTab (noTab_ok _) (show (cxOf Try.prog 0 0 0).P.follows .mixedOrders = true by kernel_rfl) ?_ | refine aw_skip ?_ | refine aw_exit ?_ | refine aw_ret ?_); simp only [go_sem, ↓reduceIte, Nat.reduceAdd, Nat.reduceMul, Nat.reduceSub, Nat.reduceLT, Nat.reduceLeDiff, Nat.reduceEqDiff, Nat.reduceBEq, Int.reduceToNat, Int.reduceLT, Int.reduceLE, Int.reduceAdd, Int.reduceSub, Int.reduceMul, Int.reduceNeg, Int.reduceEq, hcmp, Try.results41])
    | refine aw_seq (fun K hK => ?_)
    | refine aw_block ?_
    | refine aw_cond_t rfl ?_
    | refine aw_cond_f rfl ?_
    | refine aw_cond rfl (fun hc => ?_) (fun hc => ?_)
    | (first | (refine hK _ ?_; clear hK K) | (clear hK K; refine hK _ ?_; clear hK K) | (clear hK K; clear hK K; refine hK _ ?_; clear hK K) | (clear hK K; clear hK K; clear hK K; refine hK _ ?_; clear hK K) | (clear hK K; clear hK K; clear hK K; clear hK K; refine hK _ ?_; clear hK K))
    | ((first | refine (show AS.le _ _ from ?_) | refine (show leH _ _ from ?_) | refine (show inH _ _ from ?_)); simp only [AS.le, leT, leH, RoundK, AsgK, AV.le, AV.leL, AObj.le, inH, idsT, idsH, AV.ids, AV.idsL, AV.idsR, AObj.ids, lk, hget, go_sem, ↓reduceIte, Nat.reduceAdd, Nat.reduceMul, Nat.reduceSub, Nat.reduceLT, Nat.reduceLeDiff, Nat.reduceEqDiff, Nat.reduceBEq, Int.reduceToNat, Int.reduceLT, Int.reduceLE, Int.reduceAdd, Int.reduceSub, Int.reduceMul, Int.reduceNeg, Int.reduceEq, hcmp])
    | refine fun (r2 : Rnd _) => ?_
    | refine fun (nb : Bool) (hnb : nb = true → _) => ?_
    | with_reducible refine And.intro ?_ ?_
    | exact ‹_ <+: _›
    | (refine (show drawOkF _ _ = true from ?_); kernel_rfl)
    | omega
    | refine fun (hg : (_ : Bool) = (_ : Bool)) => ?_)
    rw [hend, List.drop_length] at hs
    exact congrArg (fun x => AV.d (.sl 3 (x.map blkD))) hs
noncomputable def e_dirtyRef_ok : Ent Try.prog := Ent.of 41 (fun x : (List Blk) => (fun (l : List Blk) => ([.d (.sl 3 (l.map blkD))] : List AV)) x) (fun x : (List Blk) => (fun (l : List Blk) => ((l.length ≤ 300) : Prop)) x) (fun x : (List Blk) => (fun (l : List Blk) => (.d (.sl 3 ((srt [] (dirties l)).map blkD)) : AV)) x) (fun x hp => ⟨rfl, dirtyRef_ok x hp⟩)
theorem i_dirtyRef_ok : ∀ x y : (List Blk), (fun x : (List Blk) => (fun (l : List Blk) => ([.d (.sl 3 (l.map blkD))] : List AV)) x) x = (fun x : (List Blk) => (fun (l : List Blk) => ([.d (.sl 3 (l.map blkD))] : List AV)) x) y → x = y := by
  intro x y h
  skip
  simpa only [List.cons.injEq, AV.d.injEq, AV.agg.injEq, AV.dp.injEq, AV.fn.injEq, AV.tup.injEq, AV.asl.injEq, Int.natCast_inj, D.int.injEq, D.str.injEq, D.bool.injEq, D.sl.injEq, Prod.mk.injEq, and_true, true_and, and_assoc, map_inj blkD_inj, map_inj intD_inj, map_inj strD_inj, map_inj boolD_inj] using h
@[go_sem] theorem a0_dirtyRef_ok (l : List Blk) : (e_dirtyRef_ok).e [.d (.sl 3 (l.map blkD))] = some ((l.length ≤ 300), .d (.sl 3 ((srt [] (dirties l)).map blkD))) := Ent.of_app i_dirtyRef_ok (l)
@[go_sem] theorem a1_dirtyRef_ok  : (e_dirtyRef_ok).e [.d (.sl 3 [])] = some ((([] : List Blk).length ≤ 300), .d (.sl 3 ((srt [] (dirties ([] : List Blk))).map blkD))) := Ent.of_app i_dirtyRef_ok (([] : List Blk))
end Go.Aw
