/-
  The law WordNothing.
-/
import Derived.Test.YtioccpkcnnkpjaaGreatWordC
--new
namespace Go.Aw
set_option maxRecDepth 100000
set_option linter.unusedSimpArgs false
set_option linter.unusedVariables false
open Go Go.Proofs

theorem accS_small {said : Txt} (h : said.length ≤ 18) : accS said = (greet.take said.length == said) := by
  unfold accS
  rw [Nat.min_eq_left h, List.take_length, List.drop_length]
  rw [show (([] : Txt) == []) = true from rfl, Bool.and_true]
  exact BEq.comm

theorem accS_big {said : Txt} (h : 18 < said.length) : accS said = false := by
  unfold accS
  rw [Nat.min_eq_right (by omega)]
  have : said.drop 18 ≠ [] := by
    intro e
    have := congrArg List.length e
    simp at this
    omega
  rw [show (said.drop 18 == []) = false by simpa using this, Bool.and_false]

noncomputable def tabLw : Tab := tabOf [e_good_ok, e_greet_ok, e_accept0_ok, e_awake_ok]
theorem tabLw_ok : TabOk Tryz.prog tabLw := tabOf_ok _
@[go_sem] theorem tabLw_good_ok (args : List AV) : tabLw 5 args = (e_good_ok).e args := rfl
@[go_sem] theorem tabLw_greet_ok (args : List AV) : tabLw 8 args = (e_greet_ok).e args := rfl
@[go_sem] theorem tabLw_accept0_ok (args : List AV) : tabLw 7 args = (e_accept0_ok).e args := rfl
@[go_sem] theorem tabLw_awake_ok (args : List AV) : tabLw 6 args = (e_awake_ok).e args := rfl

theorem wordNothing_law (size : Int) (names : List Txt) (said : Txt) (hn : names.length ≤ 9223372036854775807) (hl : ∀ s ∈ names, s.length ≤ 9223372036854775807) (hs : said.length ≤ 9223372036854775807) : ACall Tryz.prog 4 0 [.agg [.d (.int .u64 size), .d (.sl 1 (names.map strD))], .d (.str said)] [] (fun r _ => r = .d (.bool true)) := by
  refine acall_of_body Tryz.func4 rfl (enters Tryz.func4 (by kernel_rfl) rfl) Tryz.ntmps4 (by simp) (fun base => ?_)
  cases hg : goodS names said with
  | false => repeat' (first
    | ((first | refine aw_seq_regionT tabLw (tabLw_ok) (fun K hK => ?_) | refine aw_regionT tabLw (tabLw_ok) ?_ | refine aw_seq_region_drawF tabLw (tabLw_ok) (show (cxOf Tryz.prog 0 0 0).P.follows .mixedOrders = true by kernel_rfl) (fun K hK => ?_) | refine aw_region_drawF tabLw (tabLw_ok) (show (cxOf Tryz.prog 0 0 0).P.follows .mixedOrders = true by kernel_rfl) ?_ | refine aw_skip ?_ | refine aw_exit ?_ | refine aw_ret ?_); simp only [go_sem, aeq, aeq.aeqF, ↓reduceIte, Nat.reduceAdd, Nat.reduceMul, Nat.reduceSub, Nat.reduceLT, Nat.reduceLeDiff, Nat.reduceEqDiff, Nat.reduceBEq, Int.reduceToNat, Int.reduceLT, Int.reduceLE, Int.reduceAdd, Int.reduceSub, Int.reduceMul, Int.reduceNeg, Int.reduceEq, hg, Tryz.results4])
    | refine aw_seq (fun K hK => ?_)
    | refine aw_block ?_
    | refine aw_scope ?_
    | (refine aw_label ?_; simp only [go_sem, aeq, aeq.aeqF, ↓reduceIte, Nat.reduceAdd, Nat.reduceMul, Nat.reduceSub, Nat.reduceLT, Nat.reduceLeDiff, Nat.reduceEqDiff, Nat.reduceBEq, Int.reduceToNat, Int.reduceLT, Int.reduceLE, Int.reduceAdd, Int.reduceSub, Int.reduceMul, Int.reduceNeg, Int.reduceEq, hg, Tryz.results4])
    | refine aw_cond_t rfl ?_
    | refine aw_cond_f rfl ?_
    | refine aw_cond rfl (fun hc => ?_) (fun hc => ?_)
    | (first | (refine hK _ ?_; clear hK K) | (clear hK K; refine hK _ ?_; clear hK K) | (clear hK K; clear hK K; refine hK _ ?_; clear hK K) | (clear hK K; clear hK K; clear hK K; refine hK _ ?_; clear hK K) | (clear hK K; clear hK K; clear hK K; clear hK K; refine hK _ ?_; clear hK K))
    | ((first | refine (show AS.le _ _ from ?_) | refine (show leH _ _ from ?_) | refine (show inH _ _ from ?_)); simp only [AS.le, leT, leH, RoundK, AsgK, AV.le, AV.leL, AObj.le, inH, idsT, idsH, AV.ids, AV.idsL, AV.idsR, AObj.ids, lk, hget, go_sem, aeq, aeq.aeqF, ↓reduceIte, Nat.reduceAdd, Nat.reduceMul, Nat.reduceSub, Nat.reduceLT, Nat.reduceLeDiff, Nat.reduceEqDiff, Nat.reduceBEq, Int.reduceToNat, Int.reduceLT, Int.reduceLE, Int.reduceAdd, Int.reduceSub, Int.reduceMul, Int.reduceNeg, Int.reduceEq, hg])
    | refine fun (r2 : Rnd _) => ?_
    | refine fun (nb : Bool) (hnb : nb = true → _) => ?_
    | with_reducible refine And.intro ?_ ?_
    | exact ‹_ <+: _›
    | (refine (show drawOkF _ _ = true from ?_); kernel_rfl)
    | omega
    | assumption
    | refine fun (hg : (_ : Bool) = (_ : Bool)) => ?_)
  | true =>
    rcases Nat.lt_or_ge 18 said.length with h | h
    · have hle : decide ((said.length : Int) ≤ ((18 : Nat) : Int)) = false := decide_eq_false (by omega)
      have ha := accS_big h
      repeat' (first
    | ((first | refine aw_seq_regionT tabLw (tabLw_ok) (fun K hK => ?_) | refine aw_regionT tabLw (tabLw_ok) ?_ | refine aw_seq_region_drawF tabLw (tabLw_ok) (show (cxOf Tryz.prog 0 0 0).P.follows .mixedOrders = true by kernel_rfl) (fun K hK => ?_) | refine aw_region_drawF tabLw (tabLw_ok) (show (cxOf Tryz.prog 0 0 0).P.follows .mixedOrders = true by kernel_rfl) ?_ | refine aw_skip ?_ | refine aw_exit ?_ | refine aw_ret ?_); simp only [go_sem, aeq, aeq.aeqF, ↓reduceIte, Nat.reduceAdd, Nat.reduceMul, Nat.reduceSub, Nat.reduceLT, Nat.reduceLeDiff, Nat.reduceEqDiff, Nat.reduceBEq, Int.reduceToNat, Int.reduceLT, Int.reduceLE, Int.reduceAdd, Int.reduceSub, Int.reduceMul, Int.reduceNeg, Int.reduceEq, hg, hle, ha, Tryz.results4])
    | refine aw_seq (fun K hK => ?_)
    | refine aw_block ?_
    | refine aw_scope ?_
    | (refine aw_label ?_; simp only [go_sem, aeq, aeq.aeqF, ↓reduceIte, Nat.reduceAdd, Nat.reduceMul, Nat.reduceSub, Nat.reduceLT, Nat.reduceLeDiff, Nat.reduceEqDiff, Nat.reduceBEq, Int.reduceToNat, Int.reduceLT, Int.reduceLE, Int.reduceAdd, Int.reduceSub, Int.reduceMul, Int.reduceNeg, Int.reduceEq, hg, hle, ha, Tryz.results4])
    | refine aw_cond_t rfl ?_
    | refine aw_cond_f rfl ?_
    | refine aw_cond rfl (fun hc => ?_) (fun hc => ?_)
    | (first | (refine hK _ ?_; clear hK K) | (clear hK K; refine hK _ ?_; clear hK K) | (clear hK K; clear hK K; refine hK _ ?_; clear hK K) | (clear hK K; clear hK K; clear hK K; refine hK _ ?_; clear hK K) | (clear hK K; clear hK K; clear hK K; clear hK K; refine hK _ ?_; clear hK K))
    | ((first | refine (show AS.le _ _ from ?_) | refine (show leH _ _ from ?_) | refine (show inH _ _ from ?_)); simp only [AS.le, leT, leH, RoundK, AsgK, AV.le, AV.leL, AObj.le, inH, idsT, idsH, AV.ids, AV.idsL, AV.idsR, AObj.ids, lk, hget, go_sem, aeq, aeq.aeqF, ↓reduceIte, Nat.reduceAdd, Nat.reduceMul, Nat.reduceSub, Nat.reduceLT, Nat.reduceLeDiff, Nat.reduceEqDiff, Nat.reduceBEq, Int.reduceToNat, Int.reduceLT, Int.reduceLE, Int.reduceAdd, Int.reduceSub, Int.reduceMul, Int.reduceNeg, Int.reduceEq, hg, hle, ha])
    | refine fun (r2 : Rnd _) => ?_
    | refine fun (nb : Bool) (hnb : nb = true → _) => ?_
    | with_reducible refine And.intro ?_ ?_
    | exact ‹_ <+: _›
    | (refine (show drawOkF _ _ = true from ?_); kernel_rfl)
    | omega
    | assumption
    | refine fun (hg : (_ : Bool) = (_ : Bool)) => ?_)
      all_goals (refine congrArg (fun b => AV.d (.bool b)) ?_; first | rfl | simp)
    · have hle : decide ((said.length : Int) ≤ ((18 : Nat) : Int)) = true := decide_eq_true (by omega)
      have ha := accS_small h
      repeat' (first
    | ((first | refine aw_seq_regionT tabLw (tabLw_ok) (fun K hK => ?_) | refine aw_regionT tabLw (tabLw_ok) ?_ | refine aw_seq_region_drawF tabLw (tabLw_ok) (show (cxOf Tryz.prog 0 0 0).P.follows .mixedOrders = true by kernel_rfl) (fun K hK => ?_) | refine aw_region_drawF tabLw (tabLw_ok) (show (cxOf Tryz.prog 0 0 0).P.follows .mixedOrders = true by kernel_rfl) ?_ | refine aw_skip ?_ | refine aw_exit ?_ | refine aw_ret ?_); simp only [go_sem, aeq, aeq.aeqF, ↓reduceIte, Nat.reduceAdd, Nat.reduceMul, Nat.reduceSub, Nat.reduceLT, Nat.reduceLeDiff, Nat.reduceEqDiff, Nat.reduceBEq, Int.reduceToNat, Int.reduceLT, Int.reduceLE, Int.reduceAdd, Int.reduceSub, Int.reduceMul, Int.reduceNeg, Int.reduceEq, hg, hle, ha, Int.toNat_natCast, Tryz.results4])
    | refine aw_seq (fun K hK => ?_)
    | refine aw_block ?_
    | refine aw_scope ?_
    | (refine aw_label ?_; simp only [go_sem, aeq, aeq.aeqF, ↓reduceIte, Nat.reduceAdd, Nat.reduceMul, Nat.reduceSub, Nat.reduceLT, Nat.reduceLeDiff, Nat.reduceEqDiff, Nat.reduceBEq, Int.reduceToNat, Int.reduceLT, Int.reduceLE, Int.reduceAdd, Int.reduceSub, Int.reduceMul, Int.reduceNeg, Int.reduceEq, hg, hle, ha, Int.toNat_natCast, Tryz.results4])
    | refine aw_cond_t rfl ?_
    | refine aw_cond_f rfl ?_
    | refine aw_cond rfl (fun hc => ?_) (fun hc => ?_)
    | (first | (refine hK _ ?_; clear hK K) | (clear hK K; refine hK _ ?_; clear hK K) | (clear hK K; clear hK K; refine hK _ ?_; clear hK K) | (clear hK K; clear hK K; clear hK K; refine hK _ ?_; clear hK K) | (clear hK K; clear hK K; clear hK K; clear hK K; refine hK _ ?_; clear hK K))
    | ((first | refine (show AS.le _ _ from ?_) | refine (show leH _ _ from ?_) | refine (show inH _ _ from ?_)); simp only [AS.le, leT, leH, RoundK, AsgK, AV.le, AV.leL, AObj.le, inH, idsT, idsH, AV.ids, AV.idsL, AV.idsR, AObj.ids, lk, hget, go_sem, aeq, aeq.aeqF, ↓reduceIte, Nat.reduceAdd, Nat.reduceMul, Nat.reduceSub, Nat.reduceLT, Nat.reduceLeDiff, Nat.reduceEqDiff, Nat.reduceBEq, Int.reduceToNat, Int.reduceLT, Int.reduceLE, Int.reduceAdd, Int.reduceSub, Int.reduceMul, Int.reduceNeg, Int.reduceEq, hg, hle, ha, Int.toNat_natCast])
    | refine fun (r2 : Rnd _) => ?_
    | refine fun (nb : Bool) (hnb : nb = true → _) => ?_
    | with_reducible refine And.intro ?_ ?_
    | exact ‹_ <+: _›
    | (refine (show drawOkF _ _ = true from ?_); kernel_rfl)
    | omega
    | assumption
    | refine fun (hg : (_ : Bool) = (_ : Bool)) => ?_)
      all_goals (refine congrArg (fun b => AV.d (.bool b)) ?_; first | rfl | simp)
