/-
  Dirty: the dirty ones, sorted by their places.
-/
import Derived.Test.YtoofpcploeanpaaCacheH
--new
namespace Go.Aw
set_option maxRecDepth 100000
set_option linter.unusedSimpArgs false
set_option linter.unusedVariables false
open Go Go.Proofs

theorem isNaN_ok (a : Int) : ACall Try.prog 70 0 [.d (.int .i64 a)] [] (fun r _ => r = .d (.bool false)) := by
  refine acall_of_body Try.func70 rfl (enters Try.func70 (by kernel_rfl) rfl) Try.ntmps70 (by simp) (fun base => ?_)
  repeat' (first
    | ((first | refine aw_seq_regionT noTab (noTab_ok _) (fun K hK => ?_) | refine aw_regionT noTab (noTab_ok _) ?_ | refine aw_seq_region_drawF noTab (noTab_ok _) (show (cxOf Try.prog 0 0 0).P.follows .mixedOrders = true by kernel_rfl) (fun K hK => ?_) | refine aw_region_drawF noTab (noTab_ok _) (show (cxOf Try.prog 0 0 0).P.follows .mixedOrders = true by kernel_rfl) ?_ | refine aw_skip ?_ | refine aw_exit ?_ | refine aw_ret ?_); simp only [go_sem, ↓reduceIte, Nat.reduceAdd, Nat.reduceMul, Nat.reduceSub, Nat.reduceLT, Nat.reduceLeDiff, Nat.reduceEqDiff, Nat.reduceBEq, Int.reduceToNat, Int.reduceLT, Int.reduceLE, Int.reduceAdd, Int.reduceSub, Int.reduceMul, Int.reduceNeg, Int.reduceEq, bne, Try.results70])
    | refine aw_seq (fun K hK => ?_)
    | refine aw_block ?_
    | refine aw_cond_t rfl ?_
    | refine aw_cond_f rfl ?_
    | refine aw_cond rfl (fun hc => ?_) (fun hc => ?_)
    | (first | (refine hK _ ?_; clear hK K) | (clear hK K; refine hK _ ?_; clear hK K) | (clear hK K; clear hK K; refine hK _ ?_; clear hK K) | (clear hK K; clear hK K; clear hK K; refine hK _ ?_; clear hK K) | (clear hK K; clear hK K; clear hK K; clear hK K; refine hK _ ?_; clear hK K))
    | ((first | refine (show AS.le _ _ from ?_) | refine (show leH _ _ from ?_) | refine (show inH _ _ from ?_)); simp only [AS.le, leT, leH, RoundK, AsgK, AV.le, AV.leL, AObj.le, inH, idsT, idsH, AV.ids, AV.idsL, AV.idsR, AObj.ids, lk, hget, go_sem, ↓reduceIte, Nat.reduceAdd, Nat.reduceMul, Nat.reduceSub, Nat.reduceLT, Nat.reduceLeDiff, Nat.reduceEqDiff, Nat.reduceBEq, Int.reduceToNat, Int.reduceLT, Int.reduceLE, Int.reduceAdd, Int.reduceSub, Int.reduceMul, Int.reduceNeg, Int.reduceEq, bne])
    | refine fun (r2 : Rnd _) => ?_
    | refine fun (nb : Bool) (hnb : nb = true → _) => ?_
    | with_reducible refine And.intro ?_ ?_
    | exact ‹_ <+: _›
    | (refine (show drawOkF _ _ = true from ?_); kernel_rfl)
    | omega
    | refine fun (hg : (_ : Bool) = (_ : Bool)) => ?_)
noncomputable def e_isNaN_ok : Ent Try.prog := Ent.of 70 (fun x : (Int) => (fun (a : Int) => ([.d (.int .i64 a)] : List AV)) x) (fun x : (Int) => (fun (a : Int) => (True : Prop)) x) (fun x : (Int) => (fun (a : Int) => (.d (.bool false) : AV)) x) (fun x hp => ⟨rfl, isNaN_ok x⟩)
theorem i_isNaN_ok : ∀ x y : (Int), (fun x : (Int) => (fun (a : Int) => ([.d (.int .i64 a)] : List AV)) x) x = (fun x : (Int) => (fun (a : Int) => ([.d (.int .i64 a)] : List AV)) x) y → x = y := by
  intro x y h
  skip
  simpa only [List.cons.injEq, AV.d.injEq, AV.agg.injEq, AV.dp.injEq, AV.fn.injEq, AV.tup.injEq, AV.asl.injEq, Int.natCast_inj, D.int.injEq, D.str.injEq, D.bool.injEq, D.sl.injEq, Prod.mk.injEq, and_true, true_and, and_assoc, map_inj blkD_inj, map_inj intD_inj, map_inj strD_inj, map_inj boolD_inj] using h
@[go_sem] theorem a0_isNaN_ok (a : Int) : (e_isNaN_ok).e [.d (.int .i64 a)] = some (True, .d (.bool false)) := Ent.of_app i_isNaN_ok (a)
noncomputable def tabNa : Tab := tabOf [e_isNaN_ok]
theorem tabNa_ok : TabOk Try.prog tabNa := tabOf_ok _
@[go_sem] theorem tabNa_isNaN_ok (args : List AV) : tabNa 70 args = (e_isNaN_ok).e args := rfl

def cmpS (a b : Int) : Int := if a < b then -1 else if b < a then 1 else 0

theorem compare_ok (a : Int) (b : Int) : ACall Try.prog 56 0 [.d (.int .i64 a), .d (.int .i64 b)] [] (fun r _ => r = .d (.int .i64 (cmpS a b))) := by
  refine acall_of_body Try.func56 rfl (enters Try.func56 (by kernel_rfl) rfl) Try.ntmps56 (by simp) (fun base => ?_)
  repeat' (first
    | ((first | refine aw_seq_regionT tabNa (tabNa_ok) (fun K hK => ?_) | refine aw_regionT tabNa (tabNa_ok) ?_ | refine aw_seq_region_drawF tabNa (tabNa_ok) (show (cxOf Try.prog 0 0 0).P.follows .mixedOrders = true by kernel_rfl) (fun K hK => ?_) | refine aw_region_drawF tabNa (tabNa_ok) (show (cxOf Try.prog 0 0 0).P.follows .mixedOrders = true by kernel_rfl) ?_ | refine aw_skip ?_ | refine aw_exit ?_ | refine aw_ret ?_); simp only [go_sem, ↓reduceIte, Nat.reduceAdd, Nat.reduceMul, Nat.reduceSub, Nat.reduceLT, Nat.reduceLeDiff, Nat.reduceEqDiff, Nat.reduceBEq, Int.reduceToNat, Int.reduceLT, Int.reduceLE, Int.reduceAdd, Int.reduceSub, Int.reduceMul, Int.reduceNeg, Int.reduceEq, Try.results56])
    | refine aw_seq (fun K hK => ?_)
    | refine aw_block ?_
    | refine aw_cond_t rfl ?_
    | refine aw_cond_f rfl ?_
    | refine aw_cond rfl (fun hc => ?_) (fun hc => ?_)
    | (first | (refine hK _ ?_; clear hK K) | (clear hK K; refine hK _ ?_; clear hK K) | (clear hK K; clear hK K; refine hK _ ?_; clear hK K) | (clear hK K; clear hK K; clear hK K; refine hK _ ?_; clear hK K) | (clear hK K; clear hK K; clear hK K; clear hK K; refine hK _ ?_; clear hK K))
    | ((first | refine (show AS.le _ _ from ?_) | refine (show leH _ _ from ?_) | refine (show inH _ _ from ?_)); simp only [AS.le, leT, leH, RoundK, AsgK, AV.le, AV.leL, AObj.le, inH, idsT, idsH, AV.ids, AV.idsL, AV.idsR, AObj.ids, lk, hget, go_sem, ↓reduceIte, Nat.reduceAdd, Nat.reduceMul, Nat.reduceSub, Nat.reduceLT, Nat.reduceLeDiff, Nat.reduceEqDiff, Nat.reduceBEq, Int.reduceToNat, Int.reduceLT, Int.reduceLE, Int.reduceAdd, Int.reduceSub, Int.reduceMul, Int.reduceNeg, Int.reduceEq])
    | refine fun (r2 : Rnd _) => ?_
    | refine fun (nb : Bool) (hnb : nb = true → _) => ?_
    | with_reducible refine And.intro ?_ ?_
    | exact ‹_ <+: _›
    | (refine (show drawOkF _ _ = true from ?_); kernel_rfl)
    | omega
    | refine fun (hg : (_ : Bool) = (_ : Bool)) => ?_)
  · have h1 : a < b := by simpa using hc
    rw [cmpS, if_pos h1]
  · rename_i h0
    have h1 : ¬ a < b := by simpa using h0
    have h2 : b < a := by simpa using hc
    rw [cmpS, if_neg h1, if_pos h2]
  · rename_i h0
    have h1 : ¬ a < b := by simpa using h0
    have h2 : ¬ b < a := by simpa using hc
    rw [cmpS, if_neg h1, if_neg h2]
noncomputable def e_compare_ok : Ent Try.prog := Ent.of 56 (fun x : (Int) × (Int) => (fun (a : Int) (b : Int) => ([.d (.int .i64 a), .d (.int .i64 b)] : List AV)) x.1 x.2) (fun x : (Int) × (Int) => (fun (a : Int) (b : Int) => (True : Prop)) x.1 x.2) (fun x : (Int) × (Int) => (fun (a : Int) (b : Int) => (.d (.int .i64 (cmpS a b)) : AV)) x.1 x.2) (fun x hp => ⟨rfl, compare_ok x.1 x.2⟩)
theorem i_compare_ok : ∀ x y : (Int) × (Int), (fun x : (Int) × (Int) => (fun (a : Int) (b : Int) => ([.d (.int .i64 a), .d (.int .i64 b)] : List AV)) x.1 x.2) x = (fun x : (Int) × (Int) => (fun (a : Int) (b : Int) => ([.d (.int .i64 a), .d (.int .i64 b)] : List AV)) x.1 x.2) y → x = y := by
  intro x y h
  obtain ⟨_, _⟩ := x
  obtain ⟨_, _⟩ := y
  simpa only [List.cons.injEq, AV.d.injEq, AV.agg.injEq, AV.dp.injEq, AV.fn.injEq, AV.tup.injEq, AV.asl.injEq, Int.natCast_inj, D.int.injEq, D.str.injEq, D.bool.injEq, D.sl.injEq, Prod.mk.injEq, and_true, true_and, and_assoc, map_inj blkD_inj, map_inj intD_inj, map_inj strD_inj, map_inj boolD_inj] using h
@[go_sem] theorem a0_compare_ok (a : Int) (b : Int) : (e_compare_ok).e [.d (.int .i64 a), .d (.int .i64 b)] = some (True, .d (.int .i64 (cmpS a b))) := Ent.of_app i_compare_ok (a, b)
noncomputable def tabCm : Tab := tabOf [e_compare_ok]
theorem tabCm_ok : TabOk Try.prog tabCm := tabOf_ok _
@[go_sem] theorem tabCm_compare_ok (args : List AV) : tabCm 56 args = (e_compare_ok).e args := rfl

theorem dirty1_ok (n : Int) (d : List UInt8) (b : Bool) (n2 : Int) (d2 : List UInt8) (b2 : Bool) : ACall Try.prog 55 0 [.agg [.d (.int .i64 n), .d (.str d), .d (.bool b)], .agg [.d (.int .i64 n2), .d (.str d2), .d (.bool b2)]] [] (fun r _ => r = .d (.int .i64 (cmpS n n2))) := by
  refine acall_of_body Try.func55 rfl (enters Try.func55 (by kernel_rfl) rfl) Try.ntmps55 (by simp) (fun base => ?_)
  repeat' (first
    | ((first | refine aw_seq_regionT tabCm (tabCm_ok) (fun K hK => ?_) | refine aw_regionT tabCm (tabCm_ok) ?_ | refine aw_seq_region_drawF tabCm (tabCm_ok) (show (cxOf Try.prog 0 0 0).P.follows .mixedOrders = true by kernel_rfl) (fun K hK => ?_) | refine aw_region_drawF tabCm (tabCm_ok) (show (cxOf Try.prog 0 0 0).P.follows .mixedOrders = true by kernel_rfl) ?_ | refine aw_skip ?_ | refine aw_exit ?_ | refine aw_ret ?_); simp only [go_sem, ↓reduceIte, Nat.reduceAdd, Nat.reduceMul, Nat.reduceSub, Nat.reduceLT, Nat.reduceLeDiff, Nat.reduceEqDiff, Nat.reduceBEq, Int.reduceToNat, Int.reduceLT, Int.reduceLE, Int.reduceAdd, Int.reduceSub, Int.reduceMul, Int.reduceNeg, Int.reduceEq, Try.results55])
    | refine aw_seq (fun K hK => ?_)
    | refine aw_block ?_
    | refine aw_cond_t rfl ?_
    | refine aw_cond_f rfl ?_
    | refine aw_cond rfl (fun hc => ?_) (fun hc => ?_)
    | (first | (refine hK _ ?_; clear hK K) | (clear hK K; refine hK _ ?_; clear hK K) | (clear hK K; clear hK K; refine hK _ ?_; clear hK K) | (clear hK K; clear hK K; clear hK K; refine hK _ ?_; clear hK K) | (clear hK K; clear hK K; clear hK K; clear hK K; refine hK _ ?_; clear hK K))
    | ((first | refine (show AS.le _ _ from ?_) | refine (show leH _ _ from ?_) | refine (show inH _ _ from ?_)); simp only [AS.le, leT, leH, RoundK, AsgK, AV.le, AV.leL, AObj.le, inH, idsT, idsH, AV.ids, AV.idsL, AV.idsR, AObj.ids, lk, hget, go_sem, ↓reduceIte, Nat.reduceAdd, Nat.reduceMul, Nat.reduceSub, Nat.reduceLT, Nat.reduceLeDiff, Nat.reduceEqDiff, Nat.reduceBEq, Int.reduceToNat, Int.reduceLT, Int.reduceLE, Int.reduceAdd, Int.reduceSub, Int.reduceMul, Int.reduceNeg, Int.reduceEq])
    | refine fun (r2 : Rnd _) => ?_
    | refine fun (nb : Bool) (hnb : nb = true → _) => ?_
    | with_reducible refine And.intro ?_ ?_
    | exact ‹_ <+: _›
    | (refine (show drawOkF _ _ = true from ?_); kernel_rfl)
    | omega
    | refine fun (hg : (_ : Bool) = (_ : Bool)) => ?_)
noncomputable def e_dirty1_ok : Ent Try.prog := Ent.of 55 (fun x : (Int) × (List UInt8) × (Bool) × (Int) × (List UInt8) × (Bool) => (fun (n : Int) (d : List UInt8) (b : Bool) (n2 : Int) (d2 : List UInt8) (b2 : Bool) => ([.agg [.d (.int .i64 n), .d (.str d), .d (.bool b)], .agg [.d (.int .i64 n2), .d (.str d2), .d (.bool b2)]] : List AV)) x.1 x.2.1 x.2.2.1 x.2.2.2.1 x.2.2.2.2.1 x.2.2.2.2.2) (fun x : (Int) × (List UInt8) × (Bool) × (Int) × (List UInt8) × (Bool) => (fun (n : Int) (d : List UInt8) (b : Bool) (n2 : Int) (d2 : List UInt8) (b2 : Bool) => (True : Prop)) x.1 x.2.1 x.2.2.1 x.2.2.2.1 x.2.2.2.2.1 x.2.2.2.2.2) (fun x : (Int) × (List UInt8) × (Bool) × (Int) × (List UInt8) × (Bool) => (fun (n : Int) (d : List UInt8) (b : Bool) (n2 : Int) (d2 : List UInt8) (b2 : Bool) => (.d (.int .i64 (cmpS n n2)) : AV)) x.1 x.2.1 x.2.2.1 x.2.2.2.1 x.2.2.2.2.1 x.2.2.2.2.2) (fun x hp => ⟨rfl, dirty1_ok x.1 x.2.1 x.2.2.1 x.2.2.2.1 x.2.2.2.2.1 x.2.2.2.2.2⟩)
theorem i_dirty1_ok : ∀ x y : (Int) × (List UInt8) × (Bool) × (Int) × (List UInt8) × (Bool), (fun x : (Int) × (List UInt8) × (Bool) × (Int) × (List UInt8) × (Bool) => (fun (n : Int) (d : List UInt8) (b : Bool) (n2 : Int) (d2 : List UInt8) (b2 : Bool) => ([.agg [.d (.int .i64 n), .d (.str d), .d (.bool b)], .agg [.d (.int .i64 n2), .d (.str d2), .d (.bool b2)]] : List AV)) x.1 x.2.1 x.2.2.1 x.2.2.2.1 x.2.2.2.2.1 x.2.2.2.2.2) x = (fun x : (Int) × (List UInt8) × (Bool) × (Int) × (List UInt8) × (Bool) => (fun (n : Int) (d : List UInt8) (b : Bool) (n2 : Int) (d2 : List UInt8) (b2 : Bool) => ([.agg [.d (.int .i64 n), .d (.str d), .d (.bool b)], .agg [.d (.int .i64 n2), .d (.str d2), .d (.bool b2)]] : List AV)) x.1 x.2.1 x.2.2.1 x.2.2.2.1 x.2.2.2.2.1 x.2.2.2.2.2) y → x = y := by
  intro x y h
  obtain ⟨_, _, _, _, _, _⟩ := x
  obtain ⟨_, _, _, _, _, _⟩ := y
  simpa only [List.cons.injEq, AV.d.injEq, AV.agg.injEq, AV.dp.injEq, AV.fn.injEq, AV.tup.injEq, AV.asl.injEq, Int.natCast_inj, D.int.injEq, D.str.injEq, D.bool.injEq, D.sl.injEq, Prod.mk.injEq, and_true, true_and, and_assoc, map_inj blkD_inj, map_inj intD_inj, map_inj strD_inj, map_inj boolD_inj] using h
@[go_sem] theorem a0_dirty1_ok (n : Int) (d : List UInt8) (b : Bool) (n2 : Int) (d2 : List UInt8) (b2 : Bool) : (e_dirty1_ok).e [.agg [.d (.int .i64 n), .d (.str d), .d (.bool b)], .agg [.d (.int .i64 n2), .d (.str d2), .d (.bool b2)]] = some (True, .d (.int .i64 (cmpS n n2))) := Ent.of_app i_dirty1_ok (n, d, b, n2, d2, b2)

def blen (n : Nat) : Int := [0, 1, 2, 2, 3, 3, 3, 3, 4].getD n 0

theorem len64_ok (n : Nat) (hn : n ≤ 8) : ACall Try.prog 89 0 [.d (.int .u64 n)] [] (fun r _ => r = .d (.int .i64 (blen n))) := by
  refine acall_of_body Try.func89 rfl (enters Try.func89 (by kernel_rfl) rfl) Try.ntmps89 (by simp) (fun base => ?_)
  have h : n = 0 ∨ n = 1 ∨ n = 2 ∨ n = 3 ∨ n = 4 ∨ n = 5 ∨ n = 6 ∨ n = 7 ∨ n = 8 := by omega
  rcases h with rfl | rfl | rfl | rfl | rfl | rfl | rfl | rfl | rfl
  all_goals repeat' (first
    | ((first | refine aw_seq_regionT noTab (noTab_ok _) (fun K hK => ?_) | refine aw_regionT noTab (noTab_ok _) ?_ | refine aw_seq_region_drawF noTab (noTab_ok _) (show (cxOf Try.prog 0 0 0).P.follows .mixedOrders = true by kernel_rfl) (fun K hK => ?_) | refine aw_region_drawF noTab (noTab_ok _) (show (cxOf Try.prog 0 0 0).P.follows .mixedOrders = true by kernel_rfl) ?_ | refine aw_skip ?_ | refine aw_exit ?_ | refine aw_ret ?_); simp only [go_sem, ↓reduceIte, Nat.reduceAdd, Nat.reduceMul, Nat.reduceSub, Nat.reduceLT, Nat.reduceLeDiff, Nat.reduceEqDiff, Nat.reduceBEq, Int.reduceToNat, Int.reduceLT, Int.reduceLE, Int.reduceAdd, Int.reduceSub, Int.reduceMul, Int.reduceNeg, Int.reduceEq, Try.results89])
    | refine aw_seq (fun K hK => ?_)
    | refine aw_block ?_
    | refine aw_cond_t rfl ?_
    | refine aw_cond_f rfl ?_
    | refine aw_cond rfl (fun hc => ?_) (fun hc => ?_)
    | (first | (refine hK _ ?_; clear hK K) | (clear hK K; refine hK _ ?_; clear hK K) | (clear hK K; clear hK K; refine hK _ ?_; clear hK K) | (clear hK K; clear hK K; clear hK K; refine hK _ ?_; clear hK K) | (clear hK K; clear hK K; clear hK K; clear hK K; refine hK _ ?_; clear hK K))
    | ((first | refine (show AS.le _ _ from ?_) | refine (show leH _ _ from ?_) | refine (show inH _ _ from ?_)); simp only [AS.le, leT, leH, RoundK, AsgK, AV.le, AV.leL, AObj.le, inH, idsT, idsH, AV.ids, AV.idsL, AV.idsR, AObj.ids, lk, hget, go_sem, ↓reduceIte, Nat.reduceAdd, Nat.reduceMul, Nat.reduceSub, Nat.reduceLT, Nat.reduceLeDiff, Nat.reduceEqDiff, Nat.reduceBEq, Int.reduceToNat, Int.reduceLT, Int.reduceLE, Int.reduceAdd, Int.reduceSub, Int.reduceMul, Int.reduceNeg, Int.reduceEq])
    | refine fun (r2 : Rnd _) => ?_
    | refine fun (nb : Bool) (hnb : nb = true → _) => ?_
    | with_reducible refine And.intro ?_ ?_
    | exact ‹_ <+: _›
    | (refine (show drawOkF _ _ = true from ?_); kernel_rfl)
    | omega
    | refine fun (hg : (_ : Bool) = (_ : Bool)) => ?_)
  all_goals first | (refine (show _ < _ from ?_); decide +kernel) | exact congrArg (fun n => AV.d (.int .i64 n)) (by decide +kernel)
noncomputable def e_len64_ok : Ent Try.prog := Ent.of 89 (fun x : (Nat) => (fun (n : Nat) => ([.d (.int .u64 n)] : List AV)) x) (fun x : (Nat) => (fun (n : Nat) => ((n ≤ 8) : Prop)) x) (fun x : (Nat) => (fun (n : Nat) => (.d (.int .i64 (blen n)) : AV)) x) (fun x hp => ⟨rfl, len64_ok x hp⟩)
theorem i_len64_ok : ∀ x y : (Nat), (fun x : (Nat) => (fun (n : Nat) => ([.d (.int .u64 n)] : List AV)) x) x = (fun x : (Nat) => (fun (n : Nat) => ([.d (.int .u64 n)] : List AV)) x) y → x = y := by
  intro x y h
  skip
  simpa only [List.cons.injEq, AV.d.injEq, AV.agg.injEq, AV.dp.injEq, AV.fn.injEq, AV.tup.injEq, AV.asl.injEq, Int.natCast_inj, D.int.injEq, D.str.injEq, D.bool.injEq, D.sl.injEq, Prod.mk.injEq, and_true, true_and, and_assoc, map_inj blkD_inj, map_inj intD_inj, map_inj strD_inj, map_inj boolD_inj] using h
@[go_sem] theorem a0_len64_ok (n : Nat) : (e_len64_ok).e [.d (.int .u64 n)] = some ((n ≤ 8), .d (.int .i64 (blen n))) := Ent.of_app i_len64_ok (n)
noncomputable def tabLn : Tab := tabOf [e_len64_ok]
theorem tabLn_ok : TabOk Try.prog tabLn := tabOf_ok _
@[go_sem] theorem tabLn_len64_ok (args : List AV) : tabLn 89 args = (e_len64_ok).e args := rfl

theorem wrap_u64 {n : Nat} (h : n ≤ 8) : IntKind.u64.wrap (n : Int) = n := by
  have h : n = 0 ∨ n = 1 ∨ n = 2 ∨ n = 3 ∨ n = 4 ∨ n = 5 ∨ n = 6 ∨ n = 7 ∨ n = 8 := by omega
  rcases h with rfl | rfl | rfl | rfl | rfl | rfl | rfl | rfl | rfl <;> decide +kernel

theorem len_ok (n : Nat) (hn : n ≤ 8) : ACall Try.prog 75 0 [.d (.int .u64 n)] [] (fun r _ => r = .d (.int .i64 (blen n))) := by
  refine acall_of_body Try.func75 rfl (enters Try.func75 (by kernel_rfl) rfl) Try.ntmps75 (by simp) (fun base => ?_)
  repeat' (first
    | ((first | refine aw_seq_regionT tabLn (tabLn_ok) (fun K hK => ?_) | refine aw_regionT tabLn (tabLn_ok) ?_ | refine aw_seq_region_drawF tabLn (tabLn_ok) (show (cxOf Try.prog 0 0 0).P.follows .mixedOrders = true by kernel_rfl) (fun K hK => ?_) | refine aw_region_drawF tabLn (tabLn_ok) (show (cxOf Try.prog 0 0 0).P.follows .mixedOrders = true by kernel_rfl) ?_ | refine aw_skip ?_ | refine aw_exit ?_ | refine aw_ret ?_); simp only [go_sem, ↓reduceIte, Nat.reduceAdd, Nat.reduceMul, Nat.reduceSub, Nat.reduceLT, Nat.reduceLeDiff, Nat.reduceEqDiff, Nat.reduceBEq, Int.reduceToNat, Int.reduceLT, Int.reduceLE, Int.reduceAdd, Int.reduceSub, Int.reduceMul, Int.reduceNeg, Int.reduceEq, wrap_u64 hn, Try.results75])
    | refine aw_seq (fun K hK => ?_)
    | refine aw_block ?_
    | refine aw_cond_t rfl ?_
    | refine aw_cond_f rfl ?_
    | refine aw_cond rfl (fun hc => ?_) (fun hc => ?_)
    | (first | (refine hK _ ?_; clear hK K) | (clear hK K; refine hK _ ?_; clear hK K) | (clear hK K; clear hK K; refine hK _ ?_; clear hK K) | (clear hK K; clear hK K; clear hK K; refine hK _ ?_; clear hK K) | (clear hK K; clear hK K; clear hK K; clear hK K; refine hK _ ?_; clear hK K))
    | ((first | refine (show AS.le _ _ from ?_) | refine (show leH _ _ from ?_) | refine (show inH _ _ from ?_)); simp only [AS.le, leT, leH, RoundK, AsgK, AV.le, AV.leL, AObj.le, inH, idsT, idsH, AV.ids, AV.idsL, AV.idsR, AObj.ids, lk, hget, go_sem, ↓reduceIte, Nat.reduceAdd, Nat.reduceMul, Nat.reduceSub, Nat.reduceLT, Nat.reduceLeDiff, Nat.reduceEqDiff, Nat.reduceBEq, Int.reduceToNat, Int.reduceLT, Int.reduceLE, Int.reduceAdd, Int.reduceSub, Int.reduceMul, Int.reduceNeg, Int.reduceEq, wrap_u64 hn])
    | refine fun (r2 : Rnd _) => ?_
    | refine fun (nb : Bool) (hnb : nb = true → _) => ?_
    | with_reducible refine And.intro ?_ ?_
    | exact ‹_ <+: _›
    | (refine (show drawOkF _ _ = true from ?_); kernel_rfl)
    | omega
    | refine fun (hg : (_ : Bool) = (_ : Bool)) => ?_)
noncomputable def e_len_ok : Ent Try.prog := Ent.of 75 (fun x : (Nat) => (fun (n : Nat) => ([.d (.int .u64 n)] : List AV)) x) (fun x : (Nat) => (fun (n : Nat) => ((n ≤ 8) : Prop)) x) (fun x : (Nat) => (fun (n : Nat) => (.d (.int .i64 (blen n)) : AV)) x) (fun x hp => ⟨rfl, len_ok x hp⟩)
theorem i_len_ok : ∀ x y : (Nat), (fun x : (Nat) => (fun (n : Nat) => ([.d (.int .u64 n)] : List AV)) x) x = (fun x : (Nat) => (fun (n : Nat) => ([.d (.int .u64 n)] : List AV)) x) y → x = y := by
  intro x y h
  skip
  simpa only [List.cons.injEq, AV.d.injEq, AV.agg.injEq, AV.dp.injEq, AV.fn.injEq, AV.tup.injEq, AV.asl.injEq, Int.natCast_inj, D.int.injEq, D.str.injEq, D.bool.injEq, D.sl.injEq, Prod.mk.injEq, and_true, true_and, and_assoc, map_inj blkD_inj, map_inj intD_inj, map_inj strD_inj, map_inj boolD_inj] using h
@[go_sem] theorem a0_len_ok (n : Nat) : (e_len_ok).e [.d (.int .u64 n)] = some ((n ≤ 8), .d (.int .i64 (blen n))) := Ent.of_app i_len_ok (n)

/-! ### The rows of an iterator, in a row of one's own -/
theorem appendSeq_ok (l : List Blk) (hl : l.length ≤ 300) : ACall Try.prog 73 0 [.nils 3, .fn (.func 65) [] [.dp [.d (.sl 3 (l.map blkD))]]] [] (fun r h' => r = .osl 1 3 (dirties l).length 0 (dirties l).length ∧ h' = [(1, .arr 3 ((dirties l).map blkD))]) := by
  refine acall_of_body Try.func73 rfl (enters Try.func73 (by kernel_rfl) rfl) Try.ntmps73 (by simp) (fun base => ?_)
  have hdl : (dirties l).length ≤ 300 := Nat.le_trans (List.length_filter_le _ _) hl
  repeat' (first
    | ((first | refine aw_seq_regionT noTab (noTab_ok _) (fun K hK => ?_) | refine aw_regionT noTab (noTab_ok _) ?_ | refine aw_seq_region_drawF noTab (noTab_ok _) (show (cxOf Try.prog 0 0 0).P.follows .mixedOrders = true by kernel_rfl) (fun K hK => ?_) | refine aw_region_drawF noTab (noTab_ok _) (show (cxOf Try.prog 0 0 0).P.follows .mixedOrders = true by kernel_rfl) ?_ | refine aw_skip ?_ | refine aw_exit ?_ | refine aw_ret ?_); simp only [go_sem, ↓reduceIte, Nat.reduceAdd, Nat.reduceMul, Nat.reduceSub, Nat.reduceLT, Nat.reduceLeDiff, Nat.reduceEqDiff, Nat.reduceBEq, Int.reduceToNat, Int.reduceLT, Int.reduceLE, Int.reduceAdd, Int.reduceSub, Int.reduceMul, Int.reduceNeg, Int.reduceEq, Try.results73])
    | refine aw_seq (fun K hK => ?_)
    | refine aw_block ?_
    | refine aw_cond_t rfl ?_
    | refine aw_cond_f rfl ?_
    | refine aw_cond rfl (fun hc => ?_) (fun hc => ?_)
    | (first | (refine hK _ ?_; clear hK K) | (clear hK K; refine hK _ ?_; clear hK K) | (clear hK K; clear hK K; refine hK _ ?_; clear hK K) | (clear hK K; clear hK K; clear hK K; refine hK _ ?_; clear hK K) | (clear hK K; clear hK K; clear hK K; clear hK K; refine hK _ ?_; clear hK K))
    | ((first | refine (show AS.le _ _ from ?_) | refine (show leH _ _ from ?_) | refine (show inH _ _ from ?_)); simp only [AS.le, leT, leH, RoundK, AsgK, AV.le, AV.leL, AObj.le, inH, idsT, idsH, AV.ids, AV.idsL, AV.idsR, AObj.ids, lk, hget, go_sem, ↓reduceIte, Nat.reduceAdd, Nat.reduceMul, Nat.reduceSub, Nat.reduceLT, Nat.reduceLeDiff, Nat.reduceEqDiff, Nat.reduceBEq, Int.reduceToNat, Int.reduceLT, Int.reduceLE, Int.reduceAdd, Int.reduceSub, Int.reduceMul, Int.reduceNeg, Int.reduceEq])
    | refine fun (r2 : Rnd _) => ?_
    | refine fun (nb : Bool) (hnb : nb = true → _) => ?_
    | with_reducible refine And.intro ?_ ?_
    | exact ‹_ <+: _›
    | (refine (show drawOkF _ _ = true from ?_); kernel_rfl)
    | omega
    | refine fun (hg : (_ : Bool) = (_ : Bool)) => ?_)
  refine aw_adoptH 0 0 3 (cs := [.nils 3]) rfl rfl ?_
  simp only [go_sem, ↓reduceIte, Nat.reduceAdd, Nat.reduceMul, Nat.reduceSub, Nat.reduceLT, Nat.reduceLeDiff, Nat.reduceEqDiff, Nat.reduceBEq, Int.reduceToNat, Int.reduceLT, Int.reduceLE, Int.reduceAdd, Int.reduceSub, Int.reduceMul, Int.reduceNeg, Int.reduceEq]
  obtain ⟨I, hI⟩ : ∃ I : List (List AV) → AHeap × Option (List (List AV)), I = fun xs => ([(1, .arr 3 (xs.map rowOf)), (0, .var [.osl 1 3 xs.length 0 xs.length])], some []) := ⟨_, rfl⟩
  refine aw_range0 100 I (fun _ _ _ => False) (dirtyIter_ok l (by omega) 100) (by simp only [go_sem, ↓reduceIte, Nat.reduceAdd, Nat.reduceMul, Nat.reduceSub, Nat.reduceLT, Nat.reduceLeDiff, Nat.reduceEqDiff, Nat.reduceBEq, Int.reduceToNat, Int.reduceLT, Int.reduceLE, Int.reduceAdd, Int.reduceSub, Int.reduceMul, Int.reduceNeg, Int.reduceEq]) rfl (hfl_of rfl) (Nat.zero_le _) rfl (by rw [hI]; simp only [AS.le, leT, leH, RoundK, AsgK, AV.le, AV.leL, AObj.le, inH, idsT, idsH, AV.ids, AV.idsL, AV.idsR, AObj.ids, lk, hget, go_sem, ↓reduceIte, Nat.reduceAdd, Nat.reduceMul, Nat.reduceSub, Nat.reduceLT, Nat.reduceLeDiff, Nat.reduceEqDiff, Nat.reduceBEq, Int.reduceToNat, Int.reduceLT, Int.reduceLE, Int.reduceAdd, Int.reduceSub, Int.reduceMul, Int.reduceNeg, Int.reduceEq] <;> simp [AV.leL, AV.le]) (by rw [hI]; simp only [AS.le, leT, leH, RoundK, AsgK, AV.le, AV.leL, AObj.le, inH, idsT, idsH, AV.ids, AV.idsL, AV.idsR, AObj.ids, lk, hget, go_sem, ↓reduceIte, Nat.reduceAdd, Nat.reduceMul, Nat.reduceSub, Nat.reduceLT, Nat.reduceLeDiff, Nat.reduceEqDiff, Nat.reduceBEq, Int.reduceToNat, Int.reduceLT, Int.reduceLE, Int.reduceAdd, Int.reduceSub, Int.reduceMul, Int.reduceNeg, Int.reduceEq] <;> simp) (by rw [hI]) (by intro x hx; obtain ⟨q, _, rfl⟩ := List.mem_map.1 hx; rfl) (by intro t ht; simp at ht; subst ht; simp [cxOf]) ?_ ?_ (fun _ _ _ h => h.elim)
  · intro xs x hpre l1 r1
    obtain ⟨q, hq, rfl⟩ := List.mem_map.1 (hpre.subset (List.mem_append_right _ (List.mem_singleton.2 rfl)))
    have hxl := hpre.length_le
    simp only [List.length_append, List.length_map, List.length_cons, List.length_nil] at hxl
    obtain ⟨m, d', b'⟩ := q
    simp only [blkItem]
    refine aw_le ⟨[(7, true, .agg [.d (.int .i64 m), .d (.str d'), .d (.bool b')]), (2, true, .vp 0 0)], [(1, .arr 3 (xs.map rowOf)), (0, .var [.osl 1 3 xs.length 0 xs.length])], some []⟩ (by rw [hI]; simp only [AS.le, leT, leH, RoundK, AsgK, AV.le, AV.leL, AObj.le, inH, idsT, idsH, AV.ids, AV.idsL, AV.idsR, AObj.ids, lk, hget, go_sem, ↓reduceIte, Nat.reduceAdd, Nat.reduceMul, Nat.reduceSub, Nat.reduceLT, Nat.reduceLeDiff, Nat.reduceEqDiff, Nat.reduceBEq, Int.reduceToNat, Int.reduceLT, Int.reduceLE, Int.reduceAdd, Int.reduceSub, Int.reduceMul, Int.reduceNeg, Int.reduceEq]) ?_
    repeat' (first
    | ((first | refine aw_seq_regionT noTab (noTab_ok _) (fun K hK => ?_) | refine aw_regionT noTab (noTab_ok _) ?_ | refine aw_seq_region_drawF noTab (noTab_ok _) (show (cxOf Try.prog 0 0 0).P.follows .mixedOrders = true by kernel_rfl) (fun K hK => ?_) | refine aw_region_drawF noTab (noTab_ok _) (show (cxOf Try.prog 0 0 0).P.follows .mixedOrders = true by kernel_rfl) ?_ | refine aw_skip ?_ | refine aw_exit ?_ | refine aw_ret ?_); simp only [go_sem, ↓reduceIte, Nat.reduceAdd, Nat.reduceMul, Nat.reduceSub, Nat.reduceLT, Nat.reduceLeDiff, Nat.reduceEqDiff, Nat.reduceBEq, Int.reduceToNat, Int.reduceLT, Int.reduceLE, Int.reduceAdd, Int.reduceSub, Int.reduceMul, Int.reduceNeg, Int.reduceEq, hI, Try.results73])
    | refine aw_seq (fun K hK => ?_)
    | refine aw_block ?_
    | refine aw_cond_t rfl ?_
    | refine aw_cond_f rfl ?_
    | refine aw_cond rfl (fun hc => ?_) (fun hc => ?_)
    | (first | (refine hK _ ?_; clear hK K) | (clear hK K; refine hK _ ?_; clear hK K) | (clear hK K; clear hK K; refine hK _ ?_; clear hK K) | (clear hK K; clear hK K; clear hK K; refine hK _ ?_; clear hK K) | (clear hK K; clear hK K; clear hK K; clear hK K; refine hK _ ?_; clear hK K))
    | ((first | refine (show AS.le _ _ from ?_) | refine (show leH _ _ from ?_) | refine (show inH _ _ from ?_)); simp only [AS.le, leT, leH, RoundK, AsgK, AV.le, AV.leL, AObj.le, inH, idsT, idsH, AV.ids, AV.idsL, AV.idsR, AObj.ids, lk, hget, go_sem, ↓reduceIte, Nat.reduceAdd, Nat.reduceMul, Nat.reduceSub, Nat.reduceLT, Nat.reduceLeDiff, Nat.reduceEqDiff, Nat.reduceBEq, Int.reduceToNat, Int.reduceLT, Int.reduceLE, Int.reduceAdd, Int.reduceSub, Int.reduceMul, Int.reduceNeg, Int.reduceEq, hI])
    | refine fun (r2 : Rnd _) => ?_
    | refine fun (nb : Bool) (hnb : nb = true → _) => ?_
    | with_reducible refine And.intro ?_ ?_
    | exact ‹_ <+: _›
    | (refine (show drawOkF _ _ = true from ?_); kernel_rfl)
    | omega
    | refine fun (hg : (_ : Bool) = (_ : Bool)) => ?_)
    · simp [rowOf, toDs, AV.toD]
    · simp
  · rw [hI]
    have hrw : ((dirties l).map blkItem).map rowOf = (dirties l).map blkD := by rw [List.map_map]; rfl
    repeat' ((fail_if_success (refine (show AW _ (.seq (.region 4 _ _) _) _ _ from ?_))); (fail_if_success (refine (show AW _ (.seq (.seq (.region 4 _ _) _) _) _ _ from ?_))); (fail_if_success (refine (show AW _ (.seq (.seq (.seq (.region 4 _ _) _) _) _) _ _ from ?_))); (fail_if_success (refine (show AW _ (.region 4 _ _) _ _ from ?_))); first
    | ((first | refine aw_seq_regionT noTab (noTab_ok _) (fun K hK => ?_) | refine aw_regionT noTab (noTab_ok _) ?_ | refine aw_seq_region_drawF noTab (noTab_ok _) (show (cxOf Try.prog 0 0 0).P.follows .mixedOrders = true by kernel_rfl) (fun K hK => ?_) | refine aw_region_drawF noTab (noTab_ok _) (show (cxOf Try.prog 0 0 0).P.follows .mixedOrders = true by kernel_rfl) ?_ | refine aw_skip ?_ | refine aw_exit ?_ | refine aw_ret ?_); simp only [go_sem, ↓reduceIte, Nat.reduceAdd, Nat.reduceMul, Nat.reduceSub, Nat.reduceLT, Nat.reduceLeDiff, Nat.reduceEqDiff, Nat.reduceBEq, Int.reduceToNat, Int.reduceLT, Int.reduceLE, Int.reduceAdd, Int.reduceSub, Int.reduceMul, Int.reduceNeg, Int.reduceEq, hrw, Try.results73])
    | refine aw_seq (fun K hK => ?_)
    | refine aw_block ?_
    | refine aw_cond_t rfl ?_
    | refine aw_cond_f rfl ?_
    | refine aw_cond rfl (fun hc => ?_) (fun hc => ?_)
    | (first | (refine hK _ ?_; clear hK K) | (clear hK K; refine hK _ ?_; clear hK K) | (clear hK K; clear hK K; refine hK _ ?_; clear hK K) | (clear hK K; clear hK K; clear hK K; refine hK _ ?_; clear hK K) | (clear hK K; clear hK K; clear hK K; clear hK K; refine hK _ ?_; clear hK K))
    | ((first | refine (show AS.le _ _ from ?_) | refine (show leH _ _ from ?_) | refine (show inH _ _ from ?_)); simp only [AS.le, leT, leH, RoundK, AsgK, AV.le, AV.leL, AObj.le, inH, idsT, idsH, AV.ids, AV.idsL, AV.idsR, AObj.ids, lk, hget, go_sem, ↓reduceIte, Nat.reduceAdd, Nat.reduceMul, Nat.reduceSub, Nat.reduceLT, Nat.reduceLeDiff, Nat.reduceEqDiff, Nat.reduceBEq, Int.reduceToNat, Int.reduceLT, Int.reduceLE, Int.reduceAdd, Int.reduceSub, Int.reduceMul, Int.reduceNeg, Int.reduceEq, hrw])
    | refine fun (r2 : Rnd _) => ?_
    | refine fun (nb : Bool) (hnb : nb = true → _) => ?_
    | with_reducible refine And.intro ?_ ?_
    | exact ‹_ <+: _›
    | (refine (show drawOkF _ _ = true from ?_); kernel_rfl)
    | omega
    | refine fun (hg : (_ : Bool) = (_ : Bool)) => ?_)
    refine aw_seq_regionT noTab (noTab_ok _) (fun K hK => ?_); simp only [go_sem, ↓reduceIte, Nat.reduceAdd, Nat.reduceMul, Nat.reduceSub, Nat.reduceLT, Nat.reduceLeDiff, Nat.reduceEqDiff, Nat.reduceBEq, Int.reduceToNat, Int.reduceLT, Int.reduceLE, Int.reduceAdd, Int.reduceSub, Int.reduceMul, Int.reduceNeg, Int.reduceEq]
    (first | (refine hK _ ?_; clear hK K) | (clear hK K; refine hK _ ?_; clear hK K) | (clear hK K; clear hK K; refine hK _ ?_; clear hK K) | (clear hK K; clear hK K; clear hK K; refine hK _ ?_; clear hK K) | (clear hK K; clear hK K; clear hK K; clear hK K; refine hK _ ?_; clear hK K))
    refine aw_keep (fun i => decide (i = 1)) (by simp only [inH, idsH, hsel, AV.ids, AV.idsL, AV.idsR, AObj.ids, hget, go_sem, ↓reduceIte, Nat.reduceAdd, Nat.reduceMul, Nat.reduceSub, Nat.reduceLT, Nat.reduceLeDiff, Nat.reduceEqDiff, Nat.reduceBEq, Int.reduceToNat, Int.reduceLT, Int.reduceLE, Int.reduceAdd, Int.reduceSub, Int.reduceMul, Int.reduceNeg, Int.reduceEq]) ?_; simp only [go_sem, ↓reduceIte, Nat.reduceAdd, Nat.reduceMul, Nat.reduceSub, Nat.reduceLT, Nat.reduceLeDiff, Nat.reduceEqDiff, Nat.reduceBEq, Int.reduceToNat, Int.reduceLT, Int.reduceLE, Int.reduceAdd, Int.reduceSub, Int.reduceMul, Int.reduceNeg, Int.reduceEq]
    repeat' (first
    | ((first | refine aw_seq_regionT noTab (noTab_ok _) (fun K hK => ?_) | refine aw_regionT noTab (noTab_ok _) ?_ | refine aw_seq_region_drawF noTab (noTab_ok _) (show (cxOf Try.prog 0 0 0).P.follows .mixedOrders = true by kernel_rfl) (fun K hK => ?_) | refine aw_region_drawF noTab (noTab_ok _) (show (cxOf Try.prog 0 0 0).P.follows .mixedOrders = true by kernel_rfl) ?_ | refine aw_skip ?_ | refine aw_exit ?_ | refine aw_ret ?_); simp only [go_sem, ↓reduceIte, Nat.reduceAdd, Nat.reduceMul, Nat.reduceSub, Nat.reduceLT, Nat.reduceLeDiff, Nat.reduceEqDiff, Nat.reduceBEq, Int.reduceToNat, Int.reduceLT, Int.reduceLE, Int.reduceAdd, Int.reduceSub, Int.reduceMul, Int.reduceNeg, Int.reduceEq, hrw, Try.results73])
    | refine aw_seq (fun K hK => ?_)
    | refine aw_block ?_
    | refine aw_cond_t rfl ?_
    | refine aw_cond_f rfl ?_
    | refine aw_cond rfl (fun hc => ?_) (fun hc => ?_)
    | (first | (refine hK _ ?_; clear hK K) | (clear hK K; refine hK _ ?_; clear hK K) | (clear hK K; clear hK K; refine hK _ ?_; clear hK K) | (clear hK K; clear hK K; clear hK K; refine hK _ ?_; clear hK K) | (clear hK K; clear hK K; clear hK K; clear hK K; refine hK _ ?_; clear hK K))
    | ((first | refine (show AS.le _ _ from ?_) | refine (show leH _ _ from ?_) | refine (show inH _ _ from ?_)); simp only [AS.le, leT, leH, RoundK, AsgK, AV.le, AV.leL, AObj.le, inH, idsT, idsH, AV.ids, AV.idsL, AV.idsR, AObj.ids, lk, hget, go_sem, ↓reduceIte, Nat.reduceAdd, Nat.reduceMul, Nat.reduceSub, Nat.reduceLT, Nat.reduceLeDiff, Nat.reduceEqDiff, Nat.reduceBEq, Int.reduceToNat, Int.reduceLT, Int.reduceLE, Int.reduceAdd, Int.reduceSub, Int.reduceMul, Int.reduceNeg, Int.reduceEq, hrw])
    | refine fun (r2 : Rnd _) => ?_
    | refine fun (nb : Bool) (hnb : nb = true → _) => ?_
    | with_reducible refine And.intro ?_ ?_
    | exact ‹_ <+: _›
    | (refine (show drawOkF _ _ = true from ?_); kernel_rfl)
    | omega
    | refine fun (hg : (_ : Bool) = (_ : Bool)) => ?_)

theorem collect_ok (l : List Blk) (hl : l.length ≤ 300) : ACall Try.prog 68 0 [.fn (.func 65) [] [.dp [.d (.sl 3 (l.map blkD))]]] [] (fun r h' => r = .osl 1 3 (dirties l).length 0 (dirties l).length ∧ h' = [(1, .arr 3 ((dirties l).map blkD))]) := by
  refine acall_of_body Try.func68 rfl (enters Try.func68 (by kernel_rfl) rfl) Try.ntmps68 (by simp) (fun base => ?_)
  repeat' (first
    | ((first | refine aw_seq_regionT noTab (noTab_ok _) (fun K hK => ?_) | refine aw_regionT noTab (noTab_ok _) ?_ | refine aw_seq_region_drawF noTab (noTab_ok _) (show (cxOf Try.prog 0 0 0).P.follows .mixedOrders = true by kernel_rfl) (fun K hK => ?_) | refine aw_region_drawF noTab (noTab_ok _) (show (cxOf Try.prog 0 0 0).P.follows .mixedOrders = true by kernel_rfl) ?_ | refine aw_skip ?_ | refine aw_exit ?_ | refine aw_ret ?_); simp only [go_sem, ↓reduceIte, Nat.reduceAdd, Nat.reduceMul, Nat.reduceSub, Nat.reduceLT, Nat.reduceLeDiff, Nat.reduceEqDiff, Nat.reduceBEq, Int.reduceToNat, Int.reduceLT, Int.reduceLE, Int.reduceAdd, Int.reduceSub, Int.reduceMul, Int.reduceNeg, Int.reduceEq, Try.results68])
    | refine aw_seq (fun K hK => ?_)
    | refine aw_block ?_
    | refine aw_cond_t rfl ?_
    | refine aw_cond_f rfl ?_
    | refine aw_cond rfl (fun hc => ?_) (fun hc => ?_)
    | (first | (refine hK _ ?_; clear hK K) | (clear hK K; refine hK _ ?_; clear hK K) | (clear hK K; clear hK K; refine hK _ ?_; clear hK K) | (clear hK K; clear hK K; clear hK K; refine hK _ ?_; clear hK K) | (clear hK K; clear hK K; clear hK K; clear hK K; refine hK _ ?_; clear hK K))
    | ((first | refine (show AS.le _ _ from ?_) | refine (show leH _ _ from ?_) | refine (show inH _ _ from ?_)); simp only [AS.le, leT, leH, RoundK, AsgK, AV.le, AV.leL, AObj.le, inH, idsT, idsH, AV.ids, AV.idsL, AV.idsR, AObj.ids, lk, hget, go_sem, ↓reduceIte, Nat.reduceAdd, Nat.reduceMul, Nat.reduceSub, Nat.reduceLT, Nat.reduceLeDiff, Nat.reduceEqDiff, Nat.reduceBEq, Int.reduceToNat, Int.reduceLT, Int.reduceLE, Int.reduceAdd, Int.reduceSub, Int.reduceMul, Int.reduceNeg, Int.reduceEq])
    | refine fun (r2 : Rnd _) => ?_
    | refine fun (nb : Bool) (hnb : nb = true → _) => ?_
    | with_reducible refine And.intro ?_ ?_
    | exact ‹_ <+: _›
    | (refine (show drawOkF _ _ = true from ?_); kernel_rfl)
    | omega
    | refine fun (hg : (_ : Bool) = (_ : Bool)) => ?_)
  refine ((appendSeq_ok l hl).whole (hfl_of rfl) (Nat.le_refl _) (by rintro r h' _ i hi; simp [hget] at hi)).mono ?_
  rintro r h' ⟨rfl, rfl⟩
  repeat' (first
    | ((first | refine aw_seq_regionT noTab (noTab_ok _) (fun K hK => ?_) | refine aw_regionT noTab (noTab_ok _) ?_ | refine aw_seq_region_drawF noTab (noTab_ok _) (show (cxOf Try.prog 0 0 0).P.follows .mixedOrders = true by kernel_rfl) (fun K hK => ?_) | refine aw_region_drawF noTab (noTab_ok _) (show (cxOf Try.prog 0 0 0).P.follows .mixedOrders = true by kernel_rfl) ?_ | refine aw_skip ?_ | refine aw_exit ?_ | refine aw_ret ?_); simp only [go_sem, ↓reduceIte, Nat.reduceAdd, Nat.reduceMul, Nat.reduceSub, Nat.reduceLT, Nat.reduceLeDiff, Nat.reduceEqDiff, Nat.reduceBEq, Int.reduceToNat, Int.reduceLT, Int.reduceLE, Int.reduceAdd, Int.reduceSub, Int.reduceMul, Int.reduceNeg, Int.reduceEq, Try.results68])
    | refine aw_seq (fun K hK => ?_)
    | refine aw_block ?_
    | refine aw_cond_t rfl ?_
    | refine aw_cond_f rfl ?_
    | refine aw_cond rfl (fun hc => ?_) (fun hc => ?_)
    | (first | (refine hK _ ?_; clear hK K) | (clear hK K; refine hK _ ?_; clear hK K) | (clear hK K; clear hK K; refine hK _ ?_; clear hK K) | (clear hK K; clear hK K; clear hK K; refine hK _ ?_; clear hK K) | (clear hK K; clear hK K; clear hK K; clear hK K; refine hK _ ?_; clear hK K))
    | ((first | refine (show AS.le _ _ from ?_) | refine (show leH _ _ from ?_) | refine (show inH _ _ from ?_)); simp only [AS.le, leT, leH, RoundK, AsgK, AV.le, AV.leL, AObj.le, inH, idsT, idsH, AV.ids, AV.idsL, AV.idsR, AObj.ids, lk, hget, go_sem, ↓reduceIte, Nat.reduceAdd, Nat.reduceMul, Nat.reduceSub, Nat.reduceLT, Nat.reduceLeDiff, Nat.reduceEqDiff, Nat.reduceBEq, Int.reduceToNat, Int.reduceLT, Int.reduceLE, Int.reduceAdd, Int.reduceSub, Int.reduceMul, Int.reduceNeg, Int.reduceEq])
    | refine fun (r2 : Rnd _) => ?_
    | refine fun (nb : Bool) (hnb : nb = true → _) => ?_
    | with_reducible refine And.intro ?_ ?_
    | exact ‹_ <+: _›
    | (refine (show drawOkF _ _ = true from ?_); kernel_rfl)
    | omega
    | refine fun (hg : (_ : Bool) = (_ : Bool)) => ?_)

/-! ### Sorting -/
/-- x, laid into a sorted row (given from its end on), ahead of B. -/
def insB (x : Blk) : List Blk → List Blk → List Blk
  | [], B => x :: B
  | a :: A, B => if x.1 < a.1 then insB x A (a :: B) else A.reverse ++ a :: x :: B
def srt : List Blk → List Blk → List Blk
  | acc, [] => acc
  | acc, q :: r => srt (insB q acc.reverse []) r
theorem insB_len (x : Blk) : ∀ (A B : List Blk), (insB x A B).length = A.length + 1 + B.length
  | [], B => by simp [insB]; omega
  | a :: A, B => by
    simp only [insB]
    split
    · rw [insB_len x A (a :: B)]; simp; omega
    · simp; omega

noncomputable def tabD1 : Tab := tabOf [e_dirty1_ok]
theorem tabD1_ok : TabOk Try.prog tabD1 := tabOf_ok _
@[go_sem] theorem tabD1_dirty1_ok (args : List AV) : tabD1 55 args = (e_dirty1_ok).e args := rfl

abbrev Jsrt (x : Blk) (S : List Blk) (i : Nat) := { q : List Blk × List Blk // insB x q.1 q.2 = S ∧ q.1.length + q.2.length = i }

theorem cmp_lt (a b : Int) : decide (cmpS a b < 0) = decide (a < b) := by
  unfold cmpS
  split
  · rename_i h; simp [h]
  · rename_i h
    split <;> simp [h]

theorem swap_rows (P T : List Blk) (a x : Blk) : (((P ++ a :: x :: T).map blkD).set (P.length + 1) (blkD a)).set P.length (blkD x) = (P ++ x :: a :: T).map blkD := by
  rw [← List.map_set, ← List.map_set]
  congr 1
  rw [List.set_append_right _ _ (by omega), List.set_append_right _ _ (by omega)]
  simp

abbrev Isrt (L : List Blk) := { q : Nat × List Blk // 1 ≤ q.1 ∧ (q.1 ≤ L.length ∨ q.1 = 1) ∧ q.2.length = min q.1 L.length ∧ srt q.2 (L.drop q.1) = srt [] L }

theorem insertion_ok (L : List Blk) (hl : L.length ≤ 12) : ACall Try.prog 80 2 [.osl 1 3 L.length 0 L.length, .d (.int .i64 0), .d (.int .i64 L.length), .fn (.func 55) [] []] [(1, .arr 3 (L.map blkD))] (fun _ h' => h' = [(1, .arr 3 ((srt [] L).map blkD))]) := by
  refine acall_of_body Try.func80 rfl (enters Try.func80 (by kernel_rfl) rfl) Try.ntmps80 (by simp) (fun base => ?_)
  repeat' (first
    | ((first | refine aw_seq_regionT noTab (noTab_ok _) (fun K hK => ?_) | refine aw_regionT noTab (noTab_ok _) ?_ | refine aw_seq_region_drawF noTab (noTab_ok _) (show (cxOf Try.prog 0 0 0).P.follows .mixedOrders = true by kernel_rfl) (fun K hK => ?_) | refine aw_region_drawF noTab (noTab_ok _) (show (cxOf Try.prog 0 0 0).P.follows .mixedOrders = true by kernel_rfl) ?_ | refine aw_skip ?_ | refine aw_exit ?_ | refine aw_ret ?_); simp only [go_sem, ↓reduceIte, Nat.reduceAdd, Nat.reduceMul, Nat.reduceSub, Nat.reduceLT, Nat.reduceLeDiff, Nat.reduceEqDiff, Nat.reduceBEq, Int.reduceToNat, Int.reduceLT, Int.reduceLE, Int.reduceAdd, Int.reduceSub, Int.reduceMul, Int.reduceNeg, Int.reduceEq, Try.results80])
    | refine aw_seq (fun K hK => ?_)
    | refine aw_block ?_
    | refine aw_cond_t rfl ?_
    | refine aw_cond_f rfl ?_
    | refine aw_cond rfl (fun hc => ?_) (fun hc => ?_)
    | (first | (refine hK _ ?_; clear hK K) | (clear hK K; refine hK _ ?_; clear hK K) | (clear hK K; clear hK K; refine hK _ ?_; clear hK K) | (clear hK K; clear hK K; clear hK K; refine hK _ ?_; clear hK K) | (clear hK K; clear hK K; clear hK K; clear hK K; refine hK _ ?_; clear hK K))
    | ((first | refine (show AS.le _ _ from ?_) | refine (show leH _ _ from ?_) | refine (show inH _ _ from ?_)); simp only [AS.le, leT, leH, RoundK, AsgK, AV.le, AV.leL, AObj.le, inH, idsT, idsH, AV.ids, AV.idsL, AV.idsR, AObj.ids, lk, hget, go_sem, ↓reduceIte, Nat.reduceAdd, Nat.reduceMul, Nat.reduceSub, Nat.reduceLT, Nat.reduceLeDiff, Nat.reduceEqDiff, Nat.reduceBEq, Int.reduceToNat, Int.reduceLT, Int.reduceLE, Int.reduceAdd, Int.reduceSub, Int.reduceMul, Int.reduceNeg, Int.reduceEq])
    | refine fun (r2 : Rnd _) => ?_
    | refine fun (nb : Bool) (hnb : nb = true → _) => ?_
    | with_reducible refine And.intro ?_ ?_
    | exact ‹_ <+: _›
    | (refine (show drawOkF _ _ = true from ?_); kernel_rfl)
    | omega
    | refine fun (hg : (_ : Bool) = (_ : Bool)) => ?_)
  have h1 : IntKind.i64.wrap 1 = ((1 : Nat) : Int) := by decide +kernel
  have h0 : (srt (L.take 1) (L.drop 1)) = srt [] L := by
    cases L with
    | nil => rfl
    | cons q r => rfl
  refine aw_loop (fun q : Isrt L => ⟨[(0, true, .osl 1 3 L.length 0 L.length), (1, true, .d (.int .i64 0)), (2, true, .d (.int .i64 L.length)), (3, true, .fn (.func 55) [] []), (8, true, .d (.int .i64 q.1.1))], [(1, .arr 3 ((q.1.2 ++ L.drop q.1.1).map blkD))], some []⟩) (fun q => L.length - q.1.1) ⟨(1, L.take 1), Nat.le_refl _, .inr rfl, by simp, h0⟩ (by simp only [AS.le, leT, leH, RoundK, AsgK, AV.le, AV.leL, AObj.le, inH, idsT, idsH, AV.ids, AV.idsL, AV.idsR, AObj.ids, lk, hget, go_sem, ↓reduceIte, Nat.reduceAdd, Nat.reduceMul, Nat.reduceSub, Nat.reduceLT, Nat.reduceLeDiff, Nat.reduceEqDiff, Nat.reduceBEq, Int.reduceToNat, Int.reduceLT, Int.reduceLE, Int.reduceAdd, Int.reduceSub, Int.reduceMul, Int.reduceNeg, Int.reduceEq, h1, List.take_append_drop]) (fun q => ?_)
  obtain ⟨⟨i, acc⟩, hi1, hi2, hal, hsr⟩ := q
  simp only at hi1 hi2 hal hsr ⊢
  rcases Nat.lt_or_ge i L.length with hlt | hge
  · have hcmp : decide ((i : Int) < (L.length : Int)) = true := decide_eq_true (by omega)
    obtain ⟨x, hx⟩ := at_some hlt
    have hdr := at_drop hx
    repeat' (first
    | ((first | refine aw_seq_regionT noTab (noTab_ok _) (fun K hK => ?_) | refine aw_regionT noTab (noTab_ok _) ?_ | refine aw_seq_region_drawF noTab (noTab_ok _) (show (cxOf Try.prog 0 0 0).P.follows .mixedOrders = true by kernel_rfl) (fun K hK => ?_) | refine aw_region_drawF noTab (noTab_ok _) (show (cxOf Try.prog 0 0 0).P.follows .mixedOrders = true by kernel_rfl) ?_ | refine aw_skip ?_ | refine aw_exit ?_ | refine aw_ret ?_); simp only [go_sem, ↓reduceIte, Nat.reduceAdd, Nat.reduceMul, Nat.reduceSub, Nat.reduceLT, Nat.reduceLeDiff, Nat.reduceEqDiff, Nat.reduceBEq, Int.reduceToNat, Int.reduceLT, Int.reduceLE, Int.reduceAdd, Int.reduceSub, Int.reduceMul, Int.reduceNeg, Int.reduceEq, hcmp, Try.results80])
    | refine aw_seq (fun K hK => ?_)
    | refine aw_block ?_
    | refine aw_cond_t rfl ?_
    | refine aw_cond_f rfl ?_
    | refine aw_cond rfl (fun hc => ?_) (fun hc => ?_)
    | (first | (refine hK _ ?_; clear hK K) | (clear hK K; refine hK _ ?_; clear hK K) | (clear hK K; clear hK K; refine hK _ ?_; clear hK K) | (clear hK K; clear hK K; clear hK K; refine hK _ ?_; clear hK K) | (clear hK K; clear hK K; clear hK K; clear hK K; refine hK _ ?_; clear hK K))
    | ((first | refine (show AS.le _ _ from ?_) | refine (show leH _ _ from ?_) | refine (show inH _ _ from ?_)); simp only [AS.le, leT, leH, RoundK, AsgK, AV.le, AV.leL, AObj.le, inH, idsT, idsH, AV.ids, AV.idsL, AV.idsR, AObj.ids, lk, hget, go_sem, ↓reduceIte, Nat.reduceAdd, Nat.reduceMul, Nat.reduceSub, Nat.reduceLT, Nat.reduceLeDiff, Nat.reduceEqDiff, Nat.reduceBEq, Int.reduceToNat, Int.reduceLT, Int.reduceLE, Int.reduceAdd, Int.reduceSub, Int.reduceMul, Int.reduceNeg, Int.reduceEq, hcmp])
    | refine fun (r2 : Rnd _) => ?_
    | refine fun (nb : Bool) (hnb : nb = true → _) => ?_
    | with_reducible refine And.intro ?_ ?_
    | exact ‹_ <+: _›
    | (refine (show drawOkF _ _ = true from ?_); kernel_rfl)
    | omega
    | refine fun (hg : (_ : Bool) = (_ : Bool)) => ?_)
    obtain ⟨S, hS⟩ : ∃ S, S = insB x acc.reverse [] := ⟨_, rfl⟩
    have hai : acc.length = i := by omega
    refine aw_loop (fun q : Jsrt x S i => ⟨[(0, true, .osl 1 3 L.length 0 L.length), (1, true, .d (.int .i64 0)), (2, true, .d (.int .i64 L.length)), (3, true, .fn (.func 55) [] []), (8, true, .d (.int .i64 i)), (9, true, .d (.int .i64 q.1.1.length))], [(1, .arr 3 ((q.1.1.reverse ++ x :: (q.1.2 ++ L.drop (i + 1))).map blkD))], some []⟩) (fun q => q.1.1.length) ⟨(acc.reverse, []), hS.symm, by simp; omega⟩ (by rw [hdr]; simp only [AS.le, leT, leH, RoundK, AsgK, AV.le, AV.leL, AObj.le, inH, idsT, idsH, AV.ids, AV.idsL, AV.idsR, AObj.ids, lk, hget, go_sem, ↓reduceIte, Nat.reduceAdd, Nat.reduceMul, Nat.reduceSub, Nat.reduceLT, Nat.reduceLeDiff, Nat.reduceEqDiff, Nat.reduceBEq, Int.reduceToNat, Int.reduceLT, Int.reduceLE, Int.reduceAdd, Int.reduceSub, Int.reduceMul, Int.reduceNeg, Int.reduceEq, List.length_reverse, List.reverse_reverse, hai]) (fun q => ?_)
    obtain ⟨⟨Ar, B⟩, hq1, hq2⟩ := q
    simp only at hq1 hq2 ⊢
    obtain ⟨n, d, b⟩ := x
    have hSl : S.length = i + 1 := by
      rw [hS, insB_len]; simp; omega
    have hsS : srt S (L.drop (i + 1)) = srt [] L := by
      rw [← hsr, hdr, hS]; rfl
    have hwi := wrap_suc (i := i) (by omega)
    cases Ar with
    | nil =>
      have hz : decide ((0 : Int) < ((0 : Nat) : Int)) = false := by decide
      have hS2 : S = (n, d, b) :: B := by rw [← hq1]; rfl
      have hSe : (n, d, b) :: (B ++ L.drop (i + 1)) = S ++ L.drop (i + 1) := by rw [hS2]; rfl
      simp only [List.reverse_nil, List.nil_append, hSe]
      have hw0 : IntKind.i64.wrap (((0 : Nat) : Int) - 1) = -1 := by decide +kernel
      have hr0 : ((S ++ L.drop (i + 1)).map blkD).getD 0 [] = [D.int .i64 n, .str d, .bool b] := by rw [hS2]; rfl
      repeat' (first
    | ((first | refine aw_seq_regionT tabD1 (tabD1_ok) (fun K hK => ?_) | refine aw_regionT tabD1 (tabD1_ok) ?_ | refine aw_seq_region_drawF tabD1 (tabD1_ok) (show (cxOf Try.prog 0 0 0).P.follows .mixedOrders = true by kernel_rfl) (fun K hK => ?_) | refine aw_region_drawF tabD1 (tabD1_ok) (show (cxOf Try.prog 0 0 0).P.follows .mixedOrders = true by kernel_rfl) ?_ | refine aw_skip ?_ | refine aw_exit ?_ | refine aw_ret ?_); simp only [go_sem, ↓reduceIte, Nat.reduceAdd, Nat.reduceMul, Nat.reduceSub, Nat.reduceLT, Nat.reduceLeDiff, Nat.reduceEqDiff, Nat.reduceBEq, Int.reduceToNat, Int.reduceLT, Int.reduceLE, Int.reduceAdd, Int.reduceSub, Int.reduceMul, Int.reduceNeg, Int.reduceEq, hz, hw0, hr0, Try.results80])
    | refine aw_seq (fun K hK => ?_)
    | refine aw_block ?_
    | refine aw_cond_t rfl ?_
    | refine aw_cond_f rfl ?_
    | refine aw_cond rfl (fun hc => ?_) (fun hc => ?_)
    | (first | (refine hK _ ?_; clear hK K) | (clear hK K; refine hK _ ?_; clear hK K) | (clear hK K; clear hK K; refine hK _ ?_; clear hK K) | (clear hK K; clear hK K; clear hK K; refine hK _ ?_; clear hK K) | (clear hK K; clear hK K; clear hK K; clear hK K; refine hK _ ?_; clear hK K))
    | ((first | refine (show AS.le _ _ from ?_) | refine (show leH _ _ from ?_) | refine (show inH _ _ from ?_)); simp only [AS.le, leT, leH, RoundK, AsgK, AV.le, AV.leL, AObj.le, inH, idsT, idsH, AV.ids, AV.idsL, AV.idsR, AObj.ids, lk, hget, go_sem, ↓reduceIte, Nat.reduceAdd, Nat.reduceMul, Nat.reduceSub, Nat.reduceLT, Nat.reduceLeDiff, Nat.reduceEqDiff, Nat.reduceBEq, Int.reduceToNat, Int.reduceLT, Int.reduceLE, Int.reduceAdd, Int.reduceSub, Int.reduceMul, Int.reduceNeg, Int.reduceEq, hz, hw0, hr0])
    | refine fun (r2 : Rnd _) => ?_
    | refine fun (nb : Bool) (hnb : nb = true → _) => ?_
    | with_reducible refine And.intro ?_ ?_
    | exact ‹_ <+: _›
    | (refine (show drawOkF _ _ = true from ?_); kernel_rfl)
    | omega
    | refine fun (hg : (_ : Bool) = (_ : Bool)) => ?_)
      exact ⟨⟨(i + 1, S), by omega, .inl (by omega), by rw [hSl]; omega, hsS⟩, by simp only [AS.le, leT, leH, RoundK, AsgK, AV.le, AV.leL, AObj.le, inH, idsT, idsH, AV.ids, AV.idsL, AV.idsR, AObj.ids, lk, hget, go_sem, ↓reduceIte, Nat.reduceAdd, Nat.reduceMul, Nat.reduceSub, Nat.reduceLT, Nat.reduceLeDiff, Nat.reduceEqDiff, Nat.reduceBEq, Int.reduceToNat, Int.reduceLT, Int.reduceLE, Int.reduceAdd, Int.reduceSub, Int.reduceMul, Int.reduceNeg, Int.reduceEq, hwi], by simp; omega⟩
    | cons a A =>
      obtain ⟨m, e, c⟩ := a
      have hR : ((m, e, c) :: A).reverse ++ (n, d, b) :: (B ++ L.drop (i + 1)) = A.reverse ++ (m, e, c) :: (n, d, b) :: (B ++ L.drop (i + 1)) := by simp
      rw [hR]
      have hRl : (A.reverse ++ (m, e, c) :: (n, d, b) :: (B ++ L.drop (i + 1))).length = L.length := by
        simp only [List.length_cons] at hq2
        simp; omega
      have hr1 : ((A.reverse ++ (m, e, c) :: (n, d, b) :: (B ++ L.drop (i + 1))).map blkD).getD A.length [] = [D.int .i64 m, .str e, .bool c] := at_row (q := (m, e, c)) (by rw [List.getElem?_append_right (by simp)]; simp)
      have hr2 : ((A.reverse ++ (m, e, c) :: (n, d, b) :: (B ++ L.drop (i + 1))).map blkD).getD (A.length + 1) [] = [D.int .i64 n, .str d, .bool b] := at_row (q := (n, d, b)) (by rw [List.getElem?_append_right (by simp)]; simp)
      have hr3 : (((A.reverse ++ (m, e, c) :: (n, d, b) :: (B ++ L.drop (i + 1))).map blkD).set (A.length + 1) [D.int .i64 m, .str e, .bool c]).getD A.length [] = [D.int .i64 m, .str e, .bool c] := by
        rw [List.getD_eq_getElem?_getD, List.getElem?_set_ne (by omega), ← List.getD_eq_getElem?_getD, hr1]
      have hpos : decide ((0 : Int) < ((A.length + 1 : Nat) : Int)) = true := decide_eq_true (by omega)
      have hw : IntKind.i64.wrap (((A.length + 1 : Nat) : Int) - 1) = ((A.length : Nat) : Int) := by rw [IntKind.wrap_i64]; simp only [List.length_cons] at hq2; omega
      simp only [List.length_cons] at hq2 ⊢
      have hsw : (((A.reverse ++ (m, e, c) :: (n, d, b) :: (B ++ L.drop (i + 1))).map blkD).set (A.length + 1) [D.int .i64 m, .str e, .bool c]).set A.length [D.int .i64 n, .str d, .bool b] = (A.reverse ++ (n, d, b) :: (m, e, c) :: (B ++ L.drop (i + 1))).map blkD := by
        have := swap_rows A.reverse (B ++ L.drop (i + 1)) (m, e, c) (n, d, b)
        rwa [List.length_reverse] at this
      repeat' (first
    | ((first | refine aw_seq_regionT tabD1 (tabD1_ok) (fun K hK => ?_) | refine aw_regionT tabD1 (tabD1_ok) ?_ | refine aw_seq_region_drawF tabD1 (tabD1_ok) (show (cxOf Try.prog 0 0 0).P.follows .mixedOrders = true by kernel_rfl) (fun K hK => ?_) | refine aw_region_drawF tabD1 (tabD1_ok) (show (cxOf Try.prog 0 0 0).P.follows .mixedOrders = true by kernel_rfl) ?_ | refine aw_skip ?_ | refine aw_exit ?_ | refine aw_ret ?_); simp only [go_sem, ↓reduceIte, Nat.reduceAdd, Nat.reduceMul, Nat.reduceSub, Nat.reduceLT, Nat.reduceLeDiff, Nat.reduceEqDiff, Nat.reduceBEq, Int.reduceToNat, Int.reduceLT, Int.reduceLE, Int.reduceAdd, Int.reduceSub, Int.reduceMul, Int.reduceNeg, Int.reduceEq, hRl, hr1, hr2, hr3, hpos, hw, cmp_lt, putL, List.length_set, Try.results80])
    | refine aw_seq (fun K hK => ?_)
    | refine aw_block ?_
    | refine aw_cond_t rfl ?_
    | refine aw_cond_f rfl ?_
    | refine aw_cond rfl (fun hc => ?_) (fun hc => ?_)
    | (first | (refine hK _ ?_; clear hK K) | (clear hK K; refine hK _ ?_; clear hK K) | (clear hK K; clear hK K; refine hK _ ?_; clear hK K) | (clear hK K; clear hK K; clear hK K; refine hK _ ?_; clear hK K) | (clear hK K; clear hK K; clear hK K; clear hK K; refine hK _ ?_; clear hK K))
    | ((first | refine (show AS.le _ _ from ?_) | refine (show leH _ _ from ?_) | refine (show inH _ _ from ?_)); simp only [AS.le, leT, leH, RoundK, AsgK, AV.le, AV.leL, AObj.le, inH, idsT, idsH, AV.ids, AV.idsL, AV.idsR, AObj.ids, lk, hget, go_sem, ↓reduceIte, Nat.reduceAdd, Nat.reduceMul, Nat.reduceSub, Nat.reduceLT, Nat.reduceLeDiff, Nat.reduceEqDiff, Nat.reduceBEq, Int.reduceToNat, Int.reduceLT, Int.reduceLE, Int.reduceAdd, Int.reduceSub, Int.reduceMul, Int.reduceNeg, Int.reduceEq, hRl, hr1, hr2, hr3, hpos, hw, cmp_lt, putL, List.length_set])
    | refine fun (r2 : Rnd _) => ?_
    | refine fun (nb : Bool) (hnb : nb = true → _) => ?_
    | with_reducible refine And.intro ?_ ?_
    | exact ‹_ <+: _›
    | (refine (show drawOkF _ _ = true from ?_); kernel_rfl)
    | omega
    | refine fun (hg : (_ : Bool) = (_ : Bool)) => ?_)
      · have hnm : n < m := by simpa using hc
        have hin : insB (n, d, b) A ((m, e, c) :: B) = S := by rw [← hq1, insB, if_pos hnm]
        exact ⟨⟨(A, (m, e, c) :: B), hin, by simp; omega⟩, by simp only [AS.le, leT, leH, RoundK, AsgK, AV.le, AV.leL, AObj.le, inH, idsT, idsH, AV.ids, AV.idsL, AV.idsR, AObj.ids, lk, hget, go_sem, ↓reduceIte, Nat.reduceAdd, Nat.reduceMul, Nat.reduceSub, Nat.reduceLT, Nat.reduceLeDiff, Nat.reduceEqDiff, Nat.reduceBEq, Int.reduceToNat, Int.reduceLT, Int.reduceLE, Int.reduceAdd, Int.reduceSub, Int.reduceMul, Int.reduceNeg, Int.reduceEq, hw, hsw], by simp⟩
      · have hnm : ¬ n < m := by simpa using hc
        have hS2 : S = A.reverse ++ (m, e, c) :: (n, d, b) :: B := by rw [← hq1]; simp only [insB]; rw [if_neg hnm]
        have hSe : A.reverse ++ (m, e, c) :: (n, d, b) :: (B ++ L.drop (i + 1)) = S ++ L.drop (i + 1) := by rw [hS2]; simp
        exact ⟨⟨(i + 1, S), by omega, .inl (by omega), by rw [hSl]; omega, hsS⟩, by simp only [AS.le, leT, leH, RoundK, AsgK, AV.le, AV.leL, AObj.le, inH, idsT, idsH, AV.ids, AV.idsL, AV.idsR, AObj.ids, lk, hget, go_sem, ↓reduceIte, Nat.reduceAdd, Nat.reduceMul, Nat.reduceSub, Nat.reduceLT, Nat.reduceLeDiff, Nat.reduceEqDiff, Nat.reduceBEq, Int.reduceToNat, Int.reduceLT, Int.reduceLE, Int.reduceAdd, Int.reduceSub, Int.reduceMul, Int.reduceNeg, Int.reduceEq, hwi, hSe], by simp; omega⟩
  · have hcmp : decide ((i : Int) < (L.length : Int)) = false := decide_eq_false (by omega)
    repeat' (first
    | ((first | refine aw_seq_regionT noTab (noTab_ok _) (fun K hK => ?_) | refine aw_regionT noTab (noTab_ok _) ?_ | refine aw_seq_region_drawF noTab (noTab_ok _) (show (cxOf Try.prog 0 0 0).P.follows .mixedOrders = true by kernel_rfl) (fun K hK => ?_) | refine aw_region_drawF noTab (noTab_ok _) (show (cxOf Try.prog 0 0 0).P.follows .mixedOrders = true by kernel_rfl) ?_ | refine aw_skip ?_ | refine aw_exit ?_ | refine aw_ret ?_); simp only [go_sem, ↓reduceIte, Nat.reduceAdd, Nat.reduceMul, Nat.reduceSub, Nat.reduceLT, Nat.reduceLeDiff, Nat.reduceEqDiff, Nat.reduceBEq, Int.reduceToNat, Int.reduceLT, Int.reduceLE, Int.reduceAdd, Int.reduceSub, Int.reduceMul, Int.reduceNeg, Int.reduceEq, hcmp, Try.results80])
    | refine aw_seq (fun K hK => ?_)
    | refine aw_block ?_
    | refine aw_cond_t rfl ?_
    | refine aw_cond_f rfl ?_
    | refine aw_cond rfl (fun hc => ?_) (fun hc => ?_)
    | (first | (refine hK _ ?_; clear hK K) | (clear hK K; refine hK _ ?_; clear hK K) | (clear hK K; clear hK K; refine hK _ ?_; clear hK K) | (clear hK K; clear hK K; clear hK K; refine hK _ ?_; clear hK K) | (clear hK K; clear hK K; clear hK K; clear hK K; refine hK _ ?_; clear hK K))
    | ((first | refine (show AS.le _ _ from ?_) | refine (show leH _ _ from ?_) | refine (show inH _ _ from ?_)); simp only [AS.le, leT, leH, RoundK, AsgK, AV.le, AV.leL, AObj.le, inH, idsT, idsH, AV.ids, AV.idsL, AV.idsR, AObj.ids, lk, hget, go_sem, ↓reduceIte, Nat.reduceAdd, Nat.reduceMul, Nat.reduceSub, Nat.reduceLT, Nat.reduceLeDiff, Nat.reduceEqDiff, Nat.reduceBEq, Int.reduceToNat, Int.reduceLT, Int.reduceLE, Int.reduceAdd, Int.reduceSub, Int.reduceMul, Int.reduceNeg, Int.reduceEq, hcmp])
    | refine fun (r2 : Rnd _) => ?_
    | refine fun (nb : Bool) (hnb : nb = true → _) => ?_
    | with_reducible refine And.intro ?_ ?_
    | exact ‹_ <+: _›
    | (refine (show drawOkF _ _ = true from ?_); kernel_rfl)
    | omega
    | refine fun (hg : (_ : Bool) = (_ : Bool)) => ?_)
    rw [List.drop_of_length_le hge] at hsr ⊢
    rw [List.append_nil, ← hsr]
    rfl
end Go.Aw
