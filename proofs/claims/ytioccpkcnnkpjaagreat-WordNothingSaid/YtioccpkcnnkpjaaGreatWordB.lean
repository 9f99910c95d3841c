/-
  nego.Feed at the beginning, to nothing.
-/
import Derived.Test.YtioccpkcnnkpjaaGreatWordA
--new
namespace Go.Aw
set_option maxRecDepth 100000
set_option linter.unusedSimpArgs false
set_option linter.unusedVariables false
open Go Go.Proofs

abbrev ngC : List AV := [.d (.int .i64 0), .d (.str []), .d (.bool false), .d (.bool false), .d (.sl 1 [])]
abbrev exC (size : Int) (names : List (List D)) : List AV := [.d (.int .u64 size), .d (.sl 1 names)]

abbrev fdH (size : Int) (names : List (List D)) : AHeap := [(4, .var [.fn (.func 29) [.tp 3 0] [], .fn (.func 30) [.tp 3 0] []]), (3, .tvar 84 [.d (.int .i64 0), .d (.str []), .d (.bool false), .d (.bool false), .d (.sl 1 []), .d (.int .u64 size), .d (.sl 1 names), .d (.int .u32 0), .d (.str []), .d .nilp, .nils 1]), (2, .var [.d (.int .i64 0), .d (.str []), .d (.bool false), .d (.bool false), .nils 1])]

theorem flags_ok (size : Int) (names : List (List D)) : ACall Tryz.prog 29 5 [.tp 3 0] (fdH size names) (fun r h' => r = .d (.bool false) ∧ h' = fdH size names) := by
  refine acall_of_body Tryz.func29 rfl (enters Tryz.func29 (by kernel_rfl) rfl) Tryz.ntmps29 (by simp) (fun base => ?_)
  repeat' (first
    | ((first | refine aw_seq_regionT tabW0 (tabW0_ok) (fun K hK => ?_) | refine aw_regionT tabW0 (tabW0_ok) ?_ | refine aw_seq_region_drawF tabW0 (tabW0_ok) (show (cxOf Tryz.prog 0 0 0).P.follows .mixedOrders = true by kernel_rfl) (fun K hK => ?_) | refine aw_region_drawF tabW0 (tabW0_ok) (show (cxOf Tryz.prog 0 0 0).P.follows .mixedOrders = true by kernel_rfl) ?_ | refine aw_skip ?_ | refine aw_exit ?_ | refine aw_ret ?_); simp only [go_sem, aeq, aeq.aeqF, ↓reduceIte, Nat.reduceAdd, Nat.reduceMul, Nat.reduceSub, Nat.reduceLT, Nat.reduceLeDiff, Nat.reduceEqDiff, Nat.reduceBEq, Int.reduceToNat, Int.reduceLT, Int.reduceLE, Int.reduceAdd, Int.reduceSub, Int.reduceMul, Int.reduceNeg, Int.reduceEq, Tryz.results29])
    | refine aw_seq (fun K hK => ?_)
    | refine aw_block ?_
    | refine aw_scope ?_
    | (refine aw_label ?_; simp only [go_sem, aeq, aeq.aeqF, ↓reduceIte, Nat.reduceAdd, Nat.reduceMul, Nat.reduceSub, Nat.reduceLT, Nat.reduceLeDiff, Nat.reduceEqDiff, Nat.reduceBEq, Int.reduceToNat, Int.reduceLT, Int.reduceLE, Int.reduceAdd, Int.reduceSub, Int.reduceMul, Int.reduceNeg, Int.reduceEq, Tryz.results29])
    | refine aw_cond_t rfl ?_
    | refine aw_cond_f rfl ?_
    | refine aw_cond rfl (fun hc => ?_) (fun hc => ?_)
    | (first | (refine hK _ ?_; clear hK K) | (clear hK K; refine hK _ ?_; clear hK K) | (clear hK K; clear hK K; refine hK _ ?_; clear hK K) | (clear hK K; clear hK K; clear hK K; refine hK _ ?_; clear hK K) | (clear hK K; clear hK K; clear hK K; clear hK K; refine hK _ ?_; clear hK K))
    | ((first | refine (show AS.le _ _ from ?_) | refine (show leH _ _ from ?_) | refine (show inH _ _ from ?_)); simp only [AS.le, leT, leH, RoundK, AsgK, AV.le, AV.leL, AObj.le, inH, idsT, idsH, AV.ids, AV.idsL, AV.idsR, AObj.ids, lk, hget, go_sem, aeq, aeq.aeqF, ↓reduceIte, Nat.reduceAdd, Nat.reduceMul, Nat.reduceSub, Nat.reduceLT, Nat.reduceLeDiff, Nat.reduceEqDiff, Nat.reduceBEq, Int.reduceToNat, Int.reduceLT, Int.reduceLE, Int.reduceAdd, Int.reduceSub, Int.reduceMul, Int.reduceNeg, Int.reduceEq])
    | refine fun (r2 : Rnd _) => ?_
    | refine fun (nb : Bool) (hnb : nb = true → _) => ?_
    | with_reducible refine And.intro ?_ ?_
    | exact ‹_ <+: _›
    | (refine (show drawOkF _ _ = true from ?_); kernel_rfl)
    | omega
    | assumption
    | refine fun (hg : (_ : Bool) = (_ : Bool)) => ?_)

theorem feed0_ok (size : Int) (names : List (List D)) : ACall Tryz.prog 18 0 [.agg [.d (.int .i64 0), .d (.str []), .d (.bool false), .d (.bool false), .d (.sl 1 [])], .agg [.d (.int .u64 size), .d (.sl 1 names)], .d (.str [])] [] (fun r _ => r = .tup [.agg [.d (.int .i64 0), .d (.str []), .d (.bool false), .d (.bool false), .d (.sl 1 [])], .d (.str [])]) := by
  refine acall_frz ?_
  refine acall_of_body Tryz.func18 rfl (enters Tryz.func18 (by kernel_rfl) rfl) Tryz.ntmps18 (by simp) (fun base => ?_)
  repeat' (first
    | ((first | refine aw_seq_regionT noTab (noTab_ok _) (fun K hK => ?_) | refine aw_regionT noTab (noTab_ok _) ?_ | refine aw_seq_region_drawF noTab (noTab_ok _) (show (cxOf Tryz.prog 0 0 0).P.follows .mixedOrders = true by kernel_rfl) (fun K hK => ?_) | refine aw_region_drawF noTab (noTab_ok _) (show (cxOf Tryz.prog 0 0 0).P.follows .mixedOrders = true by kernel_rfl) ?_ | refine aw_skip ?_ | refine aw_exit ?_ | refine aw_ret ?_); simp only [go_sem, aeq, aeq.aeqF, ↓reduceIte, Nat.reduceAdd, Nat.reduceMul, Nat.reduceSub, Nat.reduceLT, Nat.reduceLeDiff, Nat.reduceEqDiff, Nat.reduceBEq, Int.reduceToNat, Int.reduceLT, Int.reduceLE, Int.reduceAdd, Int.reduceSub, Int.reduceMul, Int.reduceNeg, Int.reduceEq, Tryz.results18])
    | refine aw_seq (fun K hK => ?_)
    | refine aw_block ?_
    | refine aw_scope ?_
    | (refine aw_label ?_; simp only [go_sem, aeq, aeq.aeqF, ↓reduceIte, Nat.reduceAdd, Nat.reduceMul, Nat.reduceSub, Nat.reduceLT, Nat.reduceLeDiff, Nat.reduceEqDiff, Nat.reduceBEq, Int.reduceToNat, Int.reduceLT, Int.reduceLE, Int.reduceAdd, Int.reduceSub, Int.reduceMul, Int.reduceNeg, Int.reduceEq, Tryz.results18])
    | refine aw_cond_t rfl ?_
    | refine aw_cond_f rfl ?_
    | refine aw_cond rfl (fun hc => ?_) (fun hc => ?_)
    | (first | (refine hK _ ?_; clear hK K) | (clear hK K; refine hK _ ?_; clear hK K) | (clear hK K; clear hK K; refine hK _ ?_; clear hK K) | (clear hK K; clear hK K; clear hK K; refine hK _ ?_; clear hK K) | (clear hK K; clear hK K; clear hK K; clear hK K; refine hK _ ?_; clear hK K))
    | ((first | refine (show AS.le _ _ from ?_) | refine (show leH _ _ from ?_) | refine (show inH _ _ from ?_)); simp only [AS.le, leT, leH, RoundK, AsgK, AV.le, AV.leL, AObj.le, inH, idsT, idsH, AV.ids, AV.idsL, AV.idsR, AObj.ids, lk, hget, go_sem, aeq, aeq.aeqF, ↓reduceIte, Nat.reduceAdd, Nat.reduceMul, Nat.reduceSub, Nat.reduceLT, Nat.reduceLeDiff, Nat.reduceEqDiff, Nat.reduceBEq, Int.reduceToNat, Int.reduceLT, Int.reduceLE, Int.reduceAdd, Int.reduceSub, Int.reduceMul, Int.reduceNeg, Int.reduceEq])
    | refine fun (r2 : Rnd _) => ?_
    | refine fun (nb : Bool) (hnb : nb = true → _) => ?_
    | with_reducible refine And.intro ?_ ?_
    | exact ‹_ <+: _›
    | (refine (show drawOkF _ _ = true from ?_); kernel_rfl)
    | omega
    | assumption
    | refine fun (hg : (_ : Bool) = (_ : Bool)) => ?_)
  refine aw_loop (fun _ : Unit => ⟨[(8, true, .tp 3 0), (9, true, .vp 4 0), (6, true, .vp 2 0)], fdH size names, some []⟩) (fun _ => 0) () (by simp only [AS.le, leT, leH, RoundK, AsgK, AV.le, AV.leL, AObj.le, inH, idsT, idsH, AV.ids, AV.idsL, AV.idsR, AObj.ids, lk, hget, go_sem, aeq, aeq.aeqF, ↓reduceIte, Nat.reduceAdd, Nat.reduceMul, Nat.reduceSub, Nat.reduceLT, Nat.reduceLeDiff, Nat.reduceEqDiff, Nat.reduceBEq, Int.reduceToNat, Int.reduceLT, Int.reduceLE, Int.reduceAdd, Int.reduceSub, Int.reduceMul, Int.reduceNeg, Int.reduceEq]) (fun _ => ?_)
  repeat' (first
    | ((first | refine aw_seq_regionT noTab (noTab_ok _) (fun K hK => ?_) | refine aw_regionT noTab (noTab_ok _) ?_ | refine aw_seq_region_drawF noTab (noTab_ok _) (show (cxOf Tryz.prog 0 0 0).P.follows .mixedOrders = true by kernel_rfl) (fun K hK => ?_) | refine aw_region_drawF noTab (noTab_ok _) (show (cxOf Tryz.prog 0 0 0).P.follows .mixedOrders = true by kernel_rfl) ?_ | refine aw_skip ?_ | refine aw_exit ?_ | refine aw_ret ?_); simp only [go_sem, aeq, aeq.aeqF, ↓reduceIte, Nat.reduceAdd, Nat.reduceMul, Nat.reduceSub, Nat.reduceLT, Nat.reduceLeDiff, Nat.reduceEqDiff, Nat.reduceBEq, Int.reduceToNat, Int.reduceLT, Int.reduceLE, Int.reduceAdd, Int.reduceSub, Int.reduceMul, Int.reduceNeg, Int.reduceEq, Tryz.results18])
    | refine aw_seq (fun K hK => ?_)
    | refine aw_block ?_
    | refine aw_scope ?_
    | (refine aw_label ?_; simp only [go_sem, aeq, aeq.aeqF, ↓reduceIte, Nat.reduceAdd, Nat.reduceMul, Nat.reduceSub, Nat.reduceLT, Nat.reduceLeDiff, Nat.reduceEqDiff, Nat.reduceBEq, Int.reduceToNat, Int.reduceLT, Int.reduceLE, Int.reduceAdd, Int.reduceSub, Int.reduceMul, Int.reduceNeg, Int.reduceEq, Tryz.results18])
    | refine aw_cond_t rfl ?_
    | refine aw_cond_f rfl ?_
    | refine aw_cond rfl (fun hc => ?_) (fun hc => ?_)
    | (first | (refine hK _ ?_; clear hK K) | (clear hK K; refine hK _ ?_; clear hK K) | (clear hK K; clear hK K; refine hK _ ?_; clear hK K) | (clear hK K; clear hK K; clear hK K; refine hK _ ?_; clear hK K) | (clear hK K; clear hK K; clear hK K; clear hK K; refine hK _ ?_; clear hK K))
    | ((first | refine (show AS.le _ _ from ?_) | refine (show leH _ _ from ?_) | refine (show inH _ _ from ?_)); simp only [AS.le, leT, leH, RoundK, AsgK, AV.le, AV.leL, AObj.le, inH, idsT, idsH, AV.ids, AV.idsL, AV.idsR, AObj.ids, lk, hget, go_sem, aeq, aeq.aeqF, ↓reduceIte, Nat.reduceAdd, Nat.reduceMul, Nat.reduceSub, Nat.reduceLT, Nat.reduceLeDiff, Nat.reduceEqDiff, Nat.reduceBEq, Int.reduceToNat, Int.reduceLT, Int.reduceLE, Int.reduceAdd, Int.reduceSub, Int.reduceMul, Int.reduceNeg, Int.reduceEq])
    | refine fun (r2 : Rnd _) => ?_
    | refine fun (nb : Bool) (hnb : nb = true → _) => ?_
    | with_reducible refine And.intro ?_ ?_
    | exact ‹_ <+: _›
    | (refine (show drawOkF _ _ = true from ?_); kernel_rfl)
    | omega
    | assumption
    | refine fun (hg : (_ : Bool) = (_ : Bool)) => ?_)
  refine ((flags_ok size names).whole (hfl_of rfl) (by omega) (by rintro r h' ⟨_, rfl⟩ i hi; exact hi)).mono ?_
  rintro r h' ⟨rfl, rfl⟩
  repeat' ((fail_if_success (refine (show AW _ (.seq (.region 7 _ _) _) _ _ from ?_))); (fail_if_success (refine (show AW _ (.seq (.seq (.region 7 _ _) _) _) _ _ from ?_))); (fail_if_success (refine (show AW _ (.seq (.seq (.seq (.region 7 _ _) _) _) _) _ _ from ?_))); (fail_if_success (refine (show AW _ (.region 7 _ _) _ _ from ?_))); first
    | ((first | refine aw_seq_regionT noTab (noTab_ok _) (fun K hK => ?_) | refine aw_regionT noTab (noTab_ok _) ?_ | refine aw_seq_region_drawF noTab (noTab_ok _) (show (cxOf Tryz.prog 0 0 0).P.follows .mixedOrders = true by kernel_rfl) (fun K hK => ?_) | refine aw_region_drawF noTab (noTab_ok _) (show (cxOf Tryz.prog 0 0 0).P.follows .mixedOrders = true by kernel_rfl) ?_ | refine aw_skip ?_ | refine aw_exit ?_ | refine aw_ret ?_); simp only [go_sem, aeq, aeq.aeqF, ↓reduceIte, Nat.reduceAdd, Nat.reduceMul, Nat.reduceSub, Nat.reduceLT, Nat.reduceLeDiff, Nat.reduceEqDiff, Nat.reduceBEq, Int.reduceToNat, Int.reduceLT, Int.reduceLE, Int.reduceAdd, Int.reduceSub, Int.reduceMul, Int.reduceNeg, Int.reduceEq, Tryz.results18])
    | refine aw_seq (fun K hK => ?_)
    | refine aw_block ?_
    | refine aw_scope ?_
    | (refine aw_label ?_; simp only [go_sem, aeq, aeq.aeqF, ↓reduceIte, Nat.reduceAdd, Nat.reduceMul, Nat.reduceSub, Nat.reduceLT, Nat.reduceLeDiff, Nat.reduceEqDiff, Nat.reduceBEq, Int.reduceToNat, Int.reduceLT, Int.reduceLE, Int.reduceAdd, Int.reduceSub, Int.reduceMul, Int.reduceNeg, Int.reduceEq, Tryz.results18])
    | refine aw_cond_t rfl ?_
    | refine aw_cond_f rfl ?_
    | refine aw_cond rfl (fun hc => ?_) (fun hc => ?_)
    | (first | (refine hK _ ?_; clear hK K) | (clear hK K; refine hK _ ?_; clear hK K) | (clear hK K; clear hK K; refine hK _ ?_; clear hK K) | (clear hK K; clear hK K; clear hK K; refine hK _ ?_; clear hK K) | (clear hK K; clear hK K; clear hK K; clear hK K; refine hK _ ?_; clear hK K))
    | ((first | refine (show AS.le _ _ from ?_) | refine (show leH _ _ from ?_) | refine (show inH _ _ from ?_)); simp only [AS.le, leT, leH, RoundK, AsgK, AV.le, AV.leL, AObj.le, inH, idsT, idsH, AV.ids, AV.idsL, AV.idsR, AObj.ids, lk, hget, go_sem, aeq, aeq.aeqF, ↓reduceIte, Nat.reduceAdd, Nat.reduceMul, Nat.reduceSub, Nat.reduceLT, Nat.reduceLeDiff, Nat.reduceEqDiff, Nat.reduceBEq, Int.reduceToNat, Int.reduceLT, Int.reduceLE, Int.reduceAdd, Int.reduceSub, Int.reduceMul, Int.reduceNeg, Int.reduceEq])
    | refine fun (r2 : Rnd _) => ?_
    | refine fun (nb : Bool) (hnb : nb = true → _) => ?_
    | with_reducible refine And.intro ?_ ?_
    | exact ‹_ <+: _›
    | (refine (show drawOkF _ _ = true from ?_); kernel_rfl)
    | omega
    | assumption
    | refine fun (hg : (_ : Bool) = (_ : Bool)) => ?_)
  · rfl
  · have hh : HotOk Tryz.prog 0 (hotOf noHot 31 [.tp 3 9] (fdH size names) (.d (.str [])) (fdH size names)) := hotOf_ok (noHot_ok _ _) (fun K hK => string_nil_at (i := 3) (o := 9) rfl rfl hK)
    refine aw_seq_region_pre noTab _ [0, 1, 2, 4, 5, 6] 4 rfl (by kernel_rfl) (noTab_ok _) hh (by kernel_rfl) ⟨[(7, true, .d (.str [])), (6, true, .vp 2 0)], (2, .var ngC) :: [], some []⟩ ?_ ?_
    · simp only [AS.le, leT, leH, RoundK, AsgK, AV.le, AV.leL, AObj.le, inH, idsT, idsH, AV.ids, AV.idsL, AV.idsR, AObj.ids, lk, hget, go_sem, aeq, aeq.aeqF, ↓reduceIte, Nat.reduceAdd, Nat.reduceMul, Nat.reduceSub, Nat.reduceLT, Nat.reduceLeDiff, Nat.reduceEqDiff, Nat.reduceBEq, Int.reduceToNat, Int.reduceLT, Int.reduceLE, Int.reduceAdd, Int.reduceSub, Int.reduceMul, Int.reduceNeg, Int.reduceEq]
    · repeat' (first
    | ((first | refine aw_seq_regionT noTab (noTab_ok _) (fun K hK => ?_) | refine aw_regionT noTab (noTab_ok _) ?_ | refine aw_seq_region_drawF noTab (noTab_ok _) (show (cxOf Tryz.prog 0 0 0).P.follows .mixedOrders = true by kernel_rfl) (fun K hK => ?_) | refine aw_region_drawF noTab (noTab_ok _) (show (cxOf Tryz.prog 0 0 0).P.follows .mixedOrders = true by kernel_rfl) ?_ | refine aw_skip ?_ | refine aw_exit ?_ | refine aw_ret ?_); simp only [go_sem, aeq, aeq.aeqF, ↓reduceIte, Nat.reduceAdd, Nat.reduceMul, Nat.reduceSub, Nat.reduceLT, Nat.reduceLeDiff, Nat.reduceEqDiff, Nat.reduceBEq, Int.reduceToNat, Int.reduceLT, Int.reduceLE, Int.reduceAdd, Int.reduceSub, Int.reduceMul, Int.reduceNeg, Int.reduceEq, Tryz.results18])
    | refine aw_seq (fun K hK => ?_)
    | refine aw_block ?_
    | refine aw_scope ?_
    | (refine aw_label ?_; simp only [go_sem, aeq, aeq.aeqF, ↓reduceIte, Nat.reduceAdd, Nat.reduceMul, Nat.reduceSub, Nat.reduceLT, Nat.reduceLeDiff, Nat.reduceEqDiff, Nat.reduceBEq, Int.reduceToNat, Int.reduceLT, Int.reduceLE, Int.reduceAdd, Int.reduceSub, Int.reduceMul, Int.reduceNeg, Int.reduceEq, Tryz.results18])
    | refine aw_cond_t rfl ?_
    | refine aw_cond_f rfl ?_
    | refine aw_cond rfl (fun hc => ?_) (fun hc => ?_)
    | (first | (refine hK _ ?_; clear hK K) | (clear hK K; refine hK _ ?_; clear hK K) | (clear hK K; clear hK K; refine hK _ ?_; clear hK K) | (clear hK K; clear hK K; clear hK K; refine hK _ ?_; clear hK K) | (clear hK K; clear hK K; clear hK K; clear hK K; refine hK _ ?_; clear hK K))
    | ((first | refine (show AS.le _ _ from ?_) | refine (show leH _ _ from ?_) | refine (show inH _ _ from ?_)); simp only [AS.le, leT, leH, RoundK, AsgK, AV.le, AV.leL, AObj.le, inH, idsT, idsH, AV.ids, AV.idsL, AV.idsR, AObj.ids, lk, hget, go_sem, aeq, aeq.aeqF, ↓reduceIte, Nat.reduceAdd, Nat.reduceMul, Nat.reduceSub, Nat.reduceLT, Nat.reduceLeDiff, Nat.reduceEqDiff, Nat.reduceBEq, Int.reduceToNat, Int.reduceLT, Int.reduceLE, Int.reduceAdd, Int.reduceSub, Int.reduceMul, Int.reduceNeg, Int.reduceEq])
    | refine fun (r2 : Rnd _) => ?_
    | refine fun (nb : Bool) (hnb : nb = true → _) => ?_
    | with_reducible refine And.intro ?_ ?_
    | exact ‹_ <+: _›
    | (refine (show drawOkF _ _ = true from ?_); kernel_rfl)
    | omega
    | assumption
    | refine fun (hg : (_ : Bool) = (_ : Bool)) => ?_)
noncomputable def e_feed0_ok : Ent Tryz.prog := Ent.of 18 (fun x : (Int) × (List (List D)) => (fun (size : Int) (names : List (List D)) => ([.agg [.d (.int .i64 0), .d (.str []), .d (.bool false), .d (.bool false), .d (.sl 1 [])], .agg [.d (.int .u64 size), .d (.sl 1 names)], .d (.str [])] : List AV)) x.1 x.2) (fun x : (Int) × (List (List D)) => (fun (size : Int) (names : List (List D)) => (True : Prop)) x.1 x.2) (fun x : (Int) × (List (List D)) => (fun (size : Int) (names : List (List D)) => (.tup [.agg [.d (.int .i64 0), .d (.str []), .d (.bool false), .d (.bool false), .d (.sl 1 [])], .d (.str [])] : AV)) x.1 x.2) (fun x hp => ⟨rfl, feed0_ok x.1 x.2⟩)
theorem i_feed0_ok : ∀ x y : (Int) × (List (List D)), (fun x : (Int) × (List (List D)) => (fun (size : Int) (names : List (List D)) => ([.agg [.d (.int .i64 0), .d (.str []), .d (.bool false), .d (.bool false), .d (.sl 1 [])], .agg [.d (.int .u64 size), .d (.sl 1 names)], .d (.str [])] : List AV)) x.1 x.2) x = (fun x : (Int) × (List (List D)) => (fun (size : Int) (names : List (List D)) => ([.agg [.d (.int .i64 0), .d (.str []), .d (.bool false), .d (.bool false), .d (.sl 1 [])], .agg [.d (.int .u64 size), .d (.sl 1 names)], .d (.str [])] : List AV)) x.1 x.2) y → x = y := by
  intro x y h
  obtain ⟨_, _⟩ := x
  obtain ⟨_, _⟩ := y
  simpa only [List.cons.injEq, AV.d.injEq, AV.agg.injEq, AV.dp.injEq, AV.fn.injEq, AV.tup.injEq, AV.asl.injEq, Int.natCast_inj, D.int.injEq, D.str.injEq, D.bool.injEq, D.sl.injEq, Prod.mk.injEq, and_true, true_and, and_assoc] using h
@[go_sem] theorem a0_feed0_ok (size : Int) (names : List (List D)) : (e_feed0_ok).e [.agg [.d (.int .i64 0), .d (.str []), .d (.bool false), .d (.bool false), .d (.sl 1 [])], .agg [.d (.int .u64 size), .d (.sl 1 names)], .d (.str [])] = some (True, .tup [.agg [.d (.int .i64 0), .d (.str []), .d (.bool false), .d (.bool false), .d (.sl 1 [])], .d (.str [])]) := Ent.of_app i_feed0_ok (size, names)
