/-
  What a server may say to nothing.
-/
import Derived.Test.YtioccpkcnnkpjaaGreatWordB
--new
namespace Go.Aw
set_option maxRecDepth 100000
set_option linter.unusedSimpArgs false
set_option linter.unusedVariables false
open Go Go.Proofs

abbrev Txt := List UInt8
def nameB (c : UInt8) : Bool := decide (33 ≤ c.toNat) && decide (c.toNat ≤ 126)
def namedS (s : Txt) : Bool := s.all nameB && (s != [] && decide (s.length ≤ 8))

theorem nameB_dec (c : UInt8) : (decide ((c.toNat : Int) < 33) || decide ((126 : Int) < c.toNat)) = !nameB c := by
  rw [nameB, Bool.not_and]
  congr 1
  · by_cases h : c.toNat < 33
    · rw [decide_eq_true (p := (c.toNat : Int) < 33) (by omega), decide_eq_false (by omega)]; rfl
    · rw [decide_eq_false (p := (c.toNat : Int) < 33) (by omega), decide_eq_true (by omega)]; rfl
  · by_cases h : 126 < c.toNat
    · rw [decide_eq_true (p := (126 : Int) < c.toNat) (by omega), decide_eq_false (by omega)]; rfl
    · rw [decide_eq_false (p := (126 : Int) < c.toNat) (by omega), decide_eq_true (by omega)]; rfl
theorem len_dec (n k : Nat) : decide ((n : Int) ≤ k) = decide (n ≤ k) := by
  by_cases h : n ≤ k
  · rw [decide_eq_true h, decide_eq_true (by omega)]
  · rw [decide_eq_false h, decide_eq_false (by omega)]

theorem r3named_ok (s : Txt) (hs : s.length ≤ 9223372036854775807) : ACall Tryz.prog 9 0 [.d (.str s)] [] (fun r _ => r = .d (.bool (namedS s))) := by
  refine acall_of_body Tryz.func9 rfl (enters Tryz.func9 (by kernel_rfl) rfl) Tryz.ntmps9 (by simp) (fun base => ?_)
  repeat' (first
    | ((first | refine aw_seq_regionT noTab (noTab_ok _) (fun K hK => ?_) | refine aw_regionT noTab (noTab_ok _) ?_ | refine aw_seq_region_drawF noTab (noTab_ok _) (show (cxOf Tryz.prog 0 0 0).P.follows .mixedOrders = true by kernel_rfl) (fun K hK => ?_) | refine aw_region_drawF noTab (noTab_ok _) (show (cxOf Tryz.prog 0 0 0).P.follows .mixedOrders = true by kernel_rfl) ?_ | refine aw_skip ?_ | refine aw_exit ?_ | refine aw_ret ?_); simp only [go_sem, aeq, aeq.aeqF, ↓reduceIte, Nat.reduceAdd, Nat.reduceMul, Nat.reduceSub, Nat.reduceLT, Nat.reduceLeDiff, Nat.reduceEqDiff, Nat.reduceBEq, Int.reduceToNat, Int.reduceLT, Int.reduceLE, Int.reduceAdd, Int.reduceSub, Int.reduceMul, Int.reduceNeg, Int.reduceEq, Tryz.results9])
    | refine aw_seq (fun K hK => ?_)
    | refine aw_block ?_
    | refine aw_scope ?_
    | (refine aw_label ?_; simp only [go_sem, aeq, aeq.aeqF, ↓reduceIte, Nat.reduceAdd, Nat.reduceMul, Nat.reduceSub, Nat.reduceLT, Nat.reduceLeDiff, Nat.reduceEqDiff, Nat.reduceBEq, Int.reduceToNat, Int.reduceLT, Int.reduceLE, Int.reduceAdd, Int.reduceSub, Int.reduceMul, Int.reduceNeg, Int.reduceEq, Tryz.results9])
    | refine aw_cond_t rfl ?_
    | refine aw_cond_f rfl ?_
    | refine aw_cond rfl (fun hc => ?_) (fun hc => ?_)
    | (first | (refine hK _ ?_; clear hK K) | (clear hK K; refine hK _ ?_; clear hK K) | (clear hK K; clear hK K; refine hK _ ?_; clear hK K) | (clear hK K; clear hK K; clear hK K; refine hK _ ?_; clear hK K) | (clear hK K; clear hK K; clear hK K; clear hK K; refine hK _ ?_; clear hK K))
    | ((first | refine (show AS.le _ _ from ?_) | refine (show leH _ _ from ?_) | refine (show inH _ _ from ?_)); simp only [AS.le, leT, leH, RoundK, AsgK, AV.le, AV.leL, AObj.le, inH, idsT, idsH, AV.ids, AV.idsL, AV.idsR, AObj.ids, lk, hget, go_sem, aeq, aeq.aeqF, ↓reduceIte, Nat.reduceAdd, Nat.reduceMul, Nat.reduceSub, Nat.reduceLT, Nat.reduceLeDiff, Nat.reduceEqDiff, Nat.reduceBEq, Int.reduceToNat, Int.reduceLT, Int.reduceLE, Int.reduceAdd, Int.reduceSub, Int.reduceMul, Int.reduceNeg, Int.reduceEq])
    | refine fun (r2 : Rnd _) => ?_
    | refine fun (nb : Bool) (hnb : nb = true → _) => ?_
    | with_reducible refine And.intro ?_ ?_
    | exact ‹_ <+: _›
    | (refine (show drawOkF _ _ = true from ?_); kernel_rfl)
    | omega
    | assumption
    | refine fun (hg : (_ : Bool) = (_ : Bool)) => ?_)
  refine aw_loop (fun q : { i : Nat // i ≤ s.length ∧ s.all nameB = (s.drop i).all nameB } => ⟨[(0, true, .d (.str s)), (3, true, .d (.int .i64 q.1))], [], some []⟩) (fun q => s.length - q.1) ⟨0, Nat.zero_le _, rfl⟩ (by simp only [AS.le, leT, leH, RoundK, AsgK, AV.le, AV.leL, AObj.le, inH, idsT, idsH, AV.ids, AV.idsL, AV.idsR, AObj.ids, lk, hget, go_sem, aeq, aeq.aeqF, ↓reduceIte, Nat.reduceAdd, Nat.reduceMul, Nat.reduceSub, Nat.reduceLT, Nat.reduceLeDiff, Nat.reduceEqDiff, Nat.reduceBEq, Int.reduceToNat, Int.reduceLT, Int.reduceLE, Int.reduceAdd, Int.reduceSub, Int.reduceMul, Int.reduceNeg, Int.reduceEq]; rfl) (fun q => ?_)
  obtain ⟨i, hi, hf⟩ := q
  simp only at hi hf ⊢
  rcases Nat.lt_or_ge i s.length with hlt | hge
  · have hcmp : decide ((i : Int) < (s.length : Int)) = true := decide_eq_true (by omega)
    have hwi := wrap_suc (i := i) (by omega)
    obtain ⟨c, hq⟩ := at_some (l := s) (i := i) (by omega)
    have hgd : s.getD i 0 = c := by rw [List.getD_eq_getElem?_getD, hq]; rfl
    rw [at_drop hq, List.all_cons] at hf
    repeat' (first
    | ((first | refine aw_seq_regionT noTab (noTab_ok _) (fun K hK => ?_) | refine aw_regionT noTab (noTab_ok _) ?_ | refine aw_seq_region_drawF noTab (noTab_ok _) (show (cxOf Tryz.prog 0 0 0).P.follows .mixedOrders = true by kernel_rfl) (fun K hK => ?_) | refine aw_region_drawF noTab (noTab_ok _) (show (cxOf Tryz.prog 0 0 0).P.follows .mixedOrders = true by kernel_rfl) ?_ | refine aw_skip ?_ | refine aw_exit ?_ | refine aw_ret ?_); simp only [go_sem, aeq, aeq.aeqF, ↓reduceIte, Nat.reduceAdd, Nat.reduceMul, Nat.reduceSub, Nat.reduceLT, Nat.reduceLeDiff, Nat.reduceEqDiff, Nat.reduceBEq, Int.reduceToNat, Int.reduceLT, Int.reduceLE, Int.reduceAdd, Int.reduceSub, Int.reduceMul, Int.reduceNeg, Int.reduceEq, hcmp, hgd, Int.toNat_natCast, Tryz.results9])
    | refine aw_seq (fun K hK => ?_)
    | refine aw_block ?_
    | refine aw_scope ?_
    | (refine aw_label ?_; simp only [go_sem, aeq, aeq.aeqF, ↓reduceIte, Nat.reduceAdd, Nat.reduceMul, Nat.reduceSub, Nat.reduceLT, Nat.reduceLeDiff, Nat.reduceEqDiff, Nat.reduceBEq, Int.reduceToNat, Int.reduceLT, Int.reduceLE, Int.reduceAdd, Int.reduceSub, Int.reduceMul, Int.reduceNeg, Int.reduceEq, hcmp, hgd, Int.toNat_natCast, Tryz.results9])
    | refine aw_cond_t rfl ?_
    | refine aw_cond_f rfl ?_
    | refine aw_cond rfl (fun hc => ?_) (fun hc => ?_)
    | (first | (refine hK _ ?_; clear hK K) | (clear hK K; refine hK _ ?_; clear hK K) | (clear hK K; clear hK K; refine hK _ ?_; clear hK K) | (clear hK K; clear hK K; clear hK K; refine hK _ ?_; clear hK K) | (clear hK K; clear hK K; clear hK K; clear hK K; refine hK _ ?_; clear hK K))
    | ((first | refine (show AS.le _ _ from ?_) | refine (show leH _ _ from ?_) | refine (show inH _ _ from ?_)); simp only [AS.le, leT, leH, RoundK, AsgK, AV.le, AV.leL, AObj.le, inH, idsT, idsH, AV.ids, AV.idsL, AV.idsR, AObj.ids, lk, hget, go_sem, aeq, aeq.aeqF, ↓reduceIte, Nat.reduceAdd, Nat.reduceMul, Nat.reduceSub, Nat.reduceLT, Nat.reduceLeDiff, Nat.reduceEqDiff, Nat.reduceBEq, Int.reduceToNat, Int.reduceLT, Int.reduceLE, Int.reduceAdd, Int.reduceSub, Int.reduceMul, Int.reduceNeg, Int.reduceEq, hcmp, hgd, Int.toNat_natCast])
    | refine fun (r2 : Rnd _) => ?_
    | refine fun (nb : Bool) (hnb : nb = true → _) => ?_
    | with_reducible refine And.intro ?_ ?_
    | exact ‹_ <+: _›
    | (refine (show drawOkF _ _ = true from ?_); kernel_rfl)
    | omega
    | assumption
    | refine fun (hg : (_ : Bool) = (_ : Bool)) => ?_)
    · rw [nameB_dec] at hc
      have hc : nameB c = false := by simpa using hc
      rw [namedS, hf, hc]; rfl
    · rw [nameB_dec] at hc
      have hc : nameB c = true := by simpa using hc
      rw [hc, Bool.true_and] at hf
      exact ⟨⟨i + 1, by omega, hf⟩, by simp only [AS.le, leT, leH, RoundK, AsgK, AV.le, AV.leL, AObj.le, inH, idsT, idsH, AV.ids, AV.idsL, AV.idsR, AObj.ids, lk, hget, go_sem, aeq, aeq.aeqF, ↓reduceIte, Nat.reduceAdd, Nat.reduceMul, Nat.reduceSub, Nat.reduceLT, Nat.reduceLeDiff, Nat.reduceEqDiff, Nat.reduceBEq, Int.reduceToNat, Int.reduceLT, Int.reduceLE, Int.reduceAdd, Int.reduceSub, Int.reduceMul, Int.reduceNeg, Int.reduceEq, hwi], by simp; omega⟩
  · have hcmp : decide ((i : Int) < (s.length : Int)) = false := decide_eq_false (by omega)
    repeat' (first
    | ((first | refine aw_seq_regionT noTab (noTab_ok _) (fun K hK => ?_) | refine aw_regionT noTab (noTab_ok _) ?_ | refine aw_seq_region_drawF noTab (noTab_ok _) (show (cxOf Tryz.prog 0 0 0).P.follows .mixedOrders = true by kernel_rfl) (fun K hK => ?_) | refine aw_region_drawF noTab (noTab_ok _) (show (cxOf Tryz.prog 0 0 0).P.follows .mixedOrders = true by kernel_rfl) ?_ | refine aw_skip ?_ | refine aw_exit ?_ | refine aw_ret ?_); simp only [go_sem, aeq, aeq.aeqF, ↓reduceIte, Nat.reduceAdd, Nat.reduceMul, Nat.reduceSub, Nat.reduceLT, Nat.reduceLeDiff, Nat.reduceEqDiff, Nat.reduceBEq, Int.reduceToNat, Int.reduceLT, Int.reduceLE, Int.reduceAdd, Int.reduceSub, Int.reduceMul, Int.reduceNeg, Int.reduceEq, hcmp, Int.toNat_natCast, Tryz.results9])
    | refine aw_seq (fun K hK => ?_)
    | refine aw_block ?_
    | refine aw_scope ?_
    | (refine aw_label ?_; simp only [go_sem, aeq, aeq.aeqF, ↓reduceIte, Nat.reduceAdd, Nat.reduceMul, Nat.reduceSub, Nat.reduceLT, Nat.reduceLeDiff, Nat.reduceEqDiff, Nat.reduceBEq, Int.reduceToNat, Int.reduceLT, Int.reduceLE, Int.reduceAdd, Int.reduceSub, Int.reduceMul, Int.reduceNeg, Int.reduceEq, hcmp, Int.toNat_natCast, Tryz.results9])
    | refine aw_cond_t rfl ?_
    | refine aw_cond_f rfl ?_
    | refine aw_cond rfl (fun hc => ?_) (fun hc => ?_)
    | (first | (refine hK _ ?_; clear hK K) | (clear hK K; refine hK _ ?_; clear hK K) | (clear hK K; clear hK K; refine hK _ ?_; clear hK K) | (clear hK K; clear hK K; clear hK K; refine hK _ ?_; clear hK K) | (clear hK K; clear hK K; clear hK K; clear hK K; refine hK _ ?_; clear hK K))
    | ((first | refine (show AS.le _ _ from ?_) | refine (show leH _ _ from ?_) | refine (show inH _ _ from ?_)); simp only [AS.le, leT, leH, RoundK, AsgK, AV.le, AV.leL, AObj.le, inH, idsT, idsH, AV.ids, AV.idsL, AV.idsR, AObj.ids, lk, hget, go_sem, aeq, aeq.aeqF, ↓reduceIte, Nat.reduceAdd, Nat.reduceMul, Nat.reduceSub, Nat.reduceLT, Nat.reduceLeDiff, Nat.reduceEqDiff, Nat.reduceBEq, Int.reduceToNat, Int.reduceLT, Int.reduceLE, Int.reduceAdd, Int.reduceSub, Int.reduceMul, Int.reduceNeg, Int.reduceEq, hcmp, Int.toNat_natCast])
    | refine fun (r2 : Rnd _) => ?_
    | refine fun (nb : Bool) (hnb : nb = true → _) => ?_
    | with_reducible refine And.intro ?_ ?_
    | exact ‹_ <+: _›
    | (refine (show drawOkF _ _ = true from ?_); kernel_rfl)
    | omega
    | assumption
    | refine fun (hg : (_ : Bool) = (_ : Bool)) => ?_)
    rw [namedS, hf, List.drop_of_length_le (by omega), show (8 : Int) = ((8 : Nat) : Int) from rfl, len_dec]
    rfl
noncomputable def e_r3named_ok : Ent Tryz.prog := Ent.of 9 (fun x : (Txt) => (fun (s : Txt) => ([.d (.str s)] : List AV)) x) (fun x : (Txt) => (fun (s : Txt) => ((s.length ≤ 9223372036854775807) : Prop)) x) (fun x : (Txt) => (fun (s : Txt) => (.d (.bool (namedS s)) : AV)) x) (fun x hp => ⟨rfl, r3named_ok x hp⟩)
theorem i_r3named_ok : ∀ x y : (Txt), (fun x : (Txt) => (fun (s : Txt) => ([.d (.str s)] : List AV)) x) x = (fun x : (Txt) => (fun (s : Txt) => ([.d (.str s)] : List AV)) x) y → x = y := by
  intro x y h
  skip
  simpa only [List.cons.injEq, AV.d.injEq, AV.agg.injEq, AV.dp.injEq, AV.fn.injEq, AV.tup.injEq, AV.asl.injEq, Int.natCast_inj, D.int.injEq, D.str.injEq, D.bool.injEq, D.sl.injEq, Prod.mk.injEq, and_true, true_and, and_assoc] using h
@[go_sem] theorem a0_r3named_ok (s : Txt) : (e_r3named_ok).e [.d (.str s)] = some ((s.length ≤ 9223372036854775807), .d (.bool (namedS s))) := Ent.of_app i_r3named_ok (s)

abbrev greet : Txt := [78, 66, 68, 77, 65, 71, 73, 67, 73, 72, 65, 86, 69, 79, 80, 84, 0, 3]
noncomputable def tabRq : Tab := tabOf [e_greet_ok, e_feed0_ok]
theorem tabRq_ok : TabOk Tryz.prog tabRq := tabOf_ok _
@[go_sem] theorem tabRq_greet_ok (args : List AV) : tabRq 8 args = (e_greet_ok).e args := rfl
@[go_sem] theorem tabRq_feed0_ok (args : List AV) : tabRq 18 args = (e_feed0_ok).e args := rfl

theorem requests0_ok (size : Int) (names : List (List D)) : ACall Tryz.prog 10 0 [.d (.str []), .agg [.d (.int .u64 size), .d (.sl 1 names)]] [] (fun r _ => r = .tup [.d (.sl 6 []), .agg [.d (.int .i64 0), .d (.str []), .d (.bool false), .d (.bool false), .d (.sl 1 [])], .d (.str [78, 66, 68, 77, 65, 71, 73, 67, 73, 72, 65, 86, 69, 79, 80, 84, 0, 3])]) := by
  refine acall_frz ?_
  refine acall_of_body Tryz.func10 rfl (enters Tryz.func10 (by kernel_rfl) rfl) Tryz.ntmps10 (by simp) (fun base => ?_)
  repeat' (first
    | ((first | refine aw_seq_regionT tabRq (tabRq_ok) (fun K hK => ?_) | refine aw_regionT tabRq (tabRq_ok) ?_ | refine aw_seq_region_drawF tabRq (tabRq_ok) (show (cxOf Tryz.prog 0 0 0).P.follows .mixedOrders = true by kernel_rfl) (fun K hK => ?_) | refine aw_region_drawF tabRq (tabRq_ok) (show (cxOf Tryz.prog 0 0 0).P.follows .mixedOrders = true by kernel_rfl) ?_ | refine aw_skip ?_ | refine aw_exit ?_ | refine aw_ret ?_); simp only [go_sem, aeq, aeq.aeqF, ↓reduceIte, Nat.reduceAdd, Nat.reduceMul, Nat.reduceSub, Nat.reduceLT, Nat.reduceLeDiff, Nat.reduceEqDiff, Nat.reduceBEq, Int.reduceToNat, Int.reduceLT, Int.reduceLE, Int.reduceAdd, Int.reduceSub, Int.reduceMul, Int.reduceNeg, Int.reduceEq, Tryz.results10])
    | refine aw_seq (fun K hK => ?_)
    | refine aw_block ?_
    | refine aw_scope ?_
    | (refine aw_label ?_; simp only [go_sem, aeq, aeq.aeqF, ↓reduceIte, Nat.reduceAdd, Nat.reduceMul, Nat.reduceSub, Nat.reduceLT, Nat.reduceLeDiff, Nat.reduceEqDiff, Nat.reduceBEq, Int.reduceToNat, Int.reduceLT, Int.reduceLE, Int.reduceAdd, Int.reduceSub, Int.reduceMul, Int.reduceNeg, Int.reduceEq, Tryz.results10])
    | refine aw_cond_t rfl ?_
    | refine aw_cond_f rfl ?_
    | refine aw_cond rfl (fun hc => ?_) (fun hc => ?_)
    | (first | (refine hK _ ?_; clear hK K) | (clear hK K; refine hK _ ?_; clear hK K) | (clear hK K; clear hK K; refine hK _ ?_; clear hK K) | (clear hK K; clear hK K; clear hK K; refine hK _ ?_; clear hK K) | (clear hK K; clear hK K; clear hK K; clear hK K; refine hK _ ?_; clear hK K))
    | ((first | refine (show AS.le _ _ from ?_) | refine (show leH _ _ from ?_) | refine (show inH _ _ from ?_)); simp only [AS.le, leT, leH, RoundK, AsgK, AV.le, AV.leL, AObj.le, inH, idsT, idsH, AV.ids, AV.idsL, AV.idsR, AObj.ids, lk, hget, go_sem, aeq, aeq.aeqF, ↓reduceIte, Nat.reduceAdd, Nat.reduceMul, Nat.reduceSub, Nat.reduceLT, Nat.reduceLeDiff, Nat.reduceEqDiff, Nat.reduceBEq, Int.reduceToNat, Int.reduceLT, Int.reduceLE, Int.reduceAdd, Int.reduceSub, Int.reduceMul, Int.reduceNeg, Int.reduceEq])
    | refine fun (r2 : Rnd _) => ?_
    | refine fun (nb : Bool) (hnb : nb = true → _) => ?_
    | with_reducible refine And.intro ?_ ?_
    | exact ‹_ <+: _›
    | (refine (show drawOkF _ _ = true from ?_); kernel_rfl)
    | omega
    | assumption
    | refine fun (hg : (_ : Bool) = (_ : Bool)) => ?_)
noncomputable def e_requests0_ok : Ent Tryz.prog := Ent.of 10 (fun x : (Int) × (List (List D)) => (fun (size : Int) (names : List (List D)) => ([.d (.str []), .agg [.d (.int .u64 size), .d (.sl 1 names)]] : List AV)) x.1 x.2) (fun x : (Int) × (List (List D)) => (fun (size : Int) (names : List (List D)) => (True : Prop)) x.1 x.2) (fun x : (Int) × (List (List D)) => (fun (size : Int) (names : List (List D)) => (.tup [.d (.sl 6 []), .agg [.d (.int .i64 0), .d (.str []), .d (.bool false), .d (.bool false), .d (.sl 1 [])], .d (.str [78, 66, 68, 77, 65, 71, 73, 67, 73, 72, 65, 86, 69, 79, 80, 84, 0, 3])] : AV)) x.1 x.2) (fun x hp => ⟨rfl, requests0_ok x.1 x.2⟩)
theorem i_requests0_ok : ∀ x y : (Int) × (List (List D)), (fun x : (Int) × (List (List D)) => (fun (size : Int) (names : List (List D)) => ([.d (.str []), .agg [.d (.int .u64 size), .d (.sl 1 names)]] : List AV)) x.1 x.2) x = (fun x : (Int) × (List (List D)) => (fun (size : Int) (names : List (List D)) => ([.d (.str []), .agg [.d (.int .u64 size), .d (.sl 1 names)]] : List AV)) x.1 x.2) y → x = y := by
  intro x y h
  obtain ⟨_, _⟩ := x
  obtain ⟨_, _⟩ := y
  simpa only [List.cons.injEq, AV.d.injEq, AV.agg.injEq, AV.dp.injEq, AV.fn.injEq, AV.tup.injEq, AV.asl.injEq, Int.natCast_inj, D.int.injEq, D.str.injEq, D.bool.injEq, D.sl.injEq, Prod.mk.injEq, and_true, true_and, and_assoc] using h
@[go_sem] theorem a0_requests0_ok (size : Int) (names : List (List D)) : (e_requests0_ok).e [.d (.str []), .agg [.d (.int .u64 size), .d (.sl 1 names)]] = some (True, .tup [.d (.sl 6 []), .agg [.d (.int .i64 0), .d (.str []), .d (.bool false), .d (.bool false), .d (.sl 1 [])], .d (.str [78, 66, 68, 77, 65, 71, 73, 67, 73, 72, 65, 86, 69, 79, 80, 84, 0, 3])]) := Ent.of_app i_requests0_ok (size, names)
noncomputable def tabAc : Tab := tabOf [e_requests0_ok, e_cookies0_ok, e_values0_ok, e_sorted0_ok, e_compact0_ok]
theorem tabAc_ok : TabOk Tryz.prog tabAc := tabOf_ok _
@[go_sem] theorem tabAc_requests0_ok (args : List AV) : tabAc 10 args = (e_requests0_ok).e args := rfl
@[go_sem] theorem tabAc_cookies0_ok (args : List AV) : tabAc 13 args = (e_cookies0_ok).e args := rfl
@[go_sem] theorem tabAc_values0_ok (args : List AV) : tabAc 12 args = (e_values0_ok).e args := rfl
@[go_sem] theorem tabAc_sorted0_ok (args : List AV) : tabAc 11 args = (e_sorted0_ok).e args := rfl
@[go_sem] theorem tabAc_compact0_ok (args : List AV) : tabAc 14 args = (e_compact0_ok).e args := rfl

def accS (said : Txt) : Bool := (said.take (min said.length 18) == greet.take (min said.length 18)) && (said.drop (min said.length 18) == [])

theorem accept0_ok (said : Txt) (size : Int) (names : List (List D)) (hs : said.length ≤ 9223372036854775807) : ACall Tryz.prog 7 0 [.d (.str []), .d (.str said), .agg [.d (.int .u64 size), .d (.sl 1 names)]] [] (fun r _ => r = .tup [.d (.bool (accS said)), .d (.sl 1 [])]) := by
  refine acall_frz ?_
  refine acall_of_body Tryz.func7 rfl (enters Tryz.func7 (by kernel_rfl) rfl) Tryz.ntmps7 (by simp) (fun base => ?_)
  have hm : imin (said.length : Int) ((18 : Nat) : Int) = ((min said.length 18 : Nat) : Int) := by unfold imin; split <;> omega
  have hm' : imin (said.length : Int) 18 = ((min said.length 18 : Nat) : Int) := by unfold imin; split <;> omega
  obtain ⟨k, hk⟩ : ∃ k, k = min said.length 18 := ⟨_, rfl⟩
  rw [← hk] at hm hm'
  have hk1 : k ≤ said.length := by omega
  have hk2 : k ≤ 18 := by omega
  repeat' (first
    | ((first | refine aw_seq_regionT tabAc (tabAc_ok) (fun K hK => ?_) | refine aw_regionT tabAc (tabAc_ok) ?_ | refine aw_seq_region_drawF tabAc (tabAc_ok) (show (cxOf Tryz.prog 0 0 0).P.follows .mixedOrders = true by kernel_rfl) (fun K hK => ?_) | refine aw_region_drawF tabAc (tabAc_ok) (show (cxOf Tryz.prog 0 0 0).P.follows .mixedOrders = true by kernel_rfl) ?_ | refine aw_skip ?_ | refine aw_exit ?_ | refine aw_ret ?_); simp only [go_sem, aeq, aeq.aeqF, ↓reduceIte, Nat.reduceAdd, Nat.reduceMul, Nat.reduceSub, Nat.reduceLT, Nat.reduceLeDiff, Nat.reduceEqDiff, Nat.reduceBEq, Int.reduceToNat, Int.reduceLT, Int.reduceLE, Int.reduceAdd, Int.reduceSub, Int.reduceMul, Int.reduceNeg, Int.reduceEq, hm, hm', Tryz.results7])
    | refine aw_seq (fun K hK => ?_)
    | refine aw_block ?_
    | refine aw_scope ?_
    | (refine aw_label ?_; simp only [go_sem, aeq, aeq.aeqF, ↓reduceIte, Nat.reduceAdd, Nat.reduceMul, Nat.reduceSub, Nat.reduceLT, Nat.reduceLeDiff, Nat.reduceEqDiff, Nat.reduceBEq, Int.reduceToNat, Int.reduceLT, Int.reduceLE, Int.reduceAdd, Int.reduceSub, Int.reduceMul, Int.reduceNeg, Int.reduceEq, hm, hm', Tryz.results7])
    | refine aw_cond_t rfl ?_
    | refine aw_cond_f rfl ?_
    | refine aw_cond rfl (fun hc => ?_) (fun hc => ?_)
    | (first | (refine hK _ ?_; clear hK K) | (clear hK K; refine hK _ ?_; clear hK K) | (clear hK K; clear hK K; refine hK _ ?_; clear hK K) | (clear hK K; clear hK K; clear hK K; refine hK _ ?_; clear hK K) | (clear hK K; clear hK K; clear hK K; clear hK K; refine hK _ ?_; clear hK K))
    | ((first | refine (show AS.le _ _ from ?_) | refine (show leH _ _ from ?_) | refine (show inH _ _ from ?_)); simp only [AS.le, leT, leH, RoundK, AsgK, AV.le, AV.leL, AObj.le, inH, idsT, idsH, AV.ids, AV.idsL, AV.idsR, AObj.ids, lk, hget, go_sem, aeq, aeq.aeqF, ↓reduceIte, Nat.reduceAdd, Nat.reduceMul, Nat.reduceSub, Nat.reduceLT, Nat.reduceLeDiff, Nat.reduceEqDiff, Nat.reduceBEq, Int.reduceToNat, Int.reduceLT, Int.reduceLE, Int.reduceAdd, Int.reduceSub, Int.reduceMul, Int.reduceNeg, Int.reduceEq, hm, hm'])
    | refine fun (r2 : Rnd _) => ?_
    | refine fun (nb : Bool) (hnb : nb = true → _) => ?_
    | with_reducible refine And.intro ?_ ?_
    | exact ‹_ <+: _›
    | (refine (show drawOkF _ _ = true from ?_); kernel_rfl)
    | omega
    | assumption
    | refine fun (hg : (_ : Bool) = (_ : Bool)) => ?_)
  · have hb : (said.take k == greet.take k) = false := by simpa [bne] using hc
    rw [accS, ← hk, hb]; rfl
  · have hb : (said.take k == greet.take k) = true := by simpa [bne] using hc
    refine aw_loop (fun _ : Unit => ⟨[(1, true, .d (.str (said.drop k))), (8, true, .d (.sl 6 []))], [], some []⟩) (fun _ => 0) () (by simp only [AS.le, leT, leH, RoundK, AsgK, AV.le, AV.leL, AObj.le, inH, idsT, idsH, AV.ids, AV.idsL, AV.idsR, AObj.ids, lk, hget, go_sem, aeq, aeq.aeqF, ↓reduceIte, Nat.reduceAdd, Nat.reduceMul, Nat.reduceSub, Nat.reduceLT, Nat.reduceLeDiff, Nat.reduceEqDiff, Nat.reduceBEq, Int.reduceToNat, Int.reduceLT, Int.reduceLE, Int.reduceAdd, Int.reduceSub, Int.reduceMul, Int.reduceNeg, Int.reduceEq]) (fun _ => ?_)
    cases hr : (said.drop k == []) with
    | true =>
      have hne : (said.drop k != []) = false := by simp [bne, hr]
      repeat' (first
    | ((first | refine aw_seq_regionT tabAc (tabAc_ok) (fun K hK => ?_) | refine aw_regionT tabAc (tabAc_ok) ?_ | refine aw_seq_region_drawF tabAc (tabAc_ok) (show (cxOf Tryz.prog 0 0 0).P.follows .mixedOrders = true by kernel_rfl) (fun K hK => ?_) | refine aw_region_drawF tabAc (tabAc_ok) (show (cxOf Tryz.prog 0 0 0).P.follows .mixedOrders = true by kernel_rfl) ?_ | refine aw_skip ?_ | refine aw_exit ?_ | refine aw_ret ?_); simp only [go_sem, aeq, aeq.aeqF, ↓reduceIte, Nat.reduceAdd, Nat.reduceMul, Nat.reduceSub, Nat.reduceLT, Nat.reduceLeDiff, Nat.reduceEqDiff, Nat.reduceBEq, Int.reduceToNat, Int.reduceLT, Int.reduceLE, Int.reduceAdd, Int.reduceSub, Int.reduceMul, Int.reduceNeg, Int.reduceEq, hne, Tryz.results7])
    | refine aw_seq (fun K hK => ?_)
    | refine aw_block ?_
    | refine aw_scope ?_
    | (refine aw_label ?_; simp only [go_sem, aeq, aeq.aeqF, ↓reduceIte, Nat.reduceAdd, Nat.reduceMul, Nat.reduceSub, Nat.reduceLT, Nat.reduceLeDiff, Nat.reduceEqDiff, Nat.reduceBEq, Int.reduceToNat, Int.reduceLT, Int.reduceLE, Int.reduceAdd, Int.reduceSub, Int.reduceMul, Int.reduceNeg, Int.reduceEq, hne, Tryz.results7])
    | refine aw_cond_t rfl ?_
    | refine aw_cond_f rfl ?_
    | refine aw_cond rfl (fun hc => ?_) (fun hc => ?_)
    | (first | (refine hK _ ?_; clear hK K) | (clear hK K; refine hK _ ?_; clear hK K) | (clear hK K; clear hK K; refine hK _ ?_; clear hK K) | (clear hK K; clear hK K; clear hK K; refine hK _ ?_; clear hK K) | (clear hK K; clear hK K; clear hK K; clear hK K; refine hK _ ?_; clear hK K))
    | ((first | refine (show AS.le _ _ from ?_) | refine (show leH _ _ from ?_) | refine (show inH _ _ from ?_)); simp only [AS.le, leT, leH, RoundK, AsgK, AV.le, AV.leL, AObj.le, inH, idsT, idsH, AV.ids, AV.idsL, AV.idsR, AObj.ids, lk, hget, go_sem, aeq, aeq.aeqF, ↓reduceIte, Nat.reduceAdd, Nat.reduceMul, Nat.reduceSub, Nat.reduceLT, Nat.reduceLeDiff, Nat.reduceEqDiff, Nat.reduceBEq, Int.reduceToNat, Int.reduceLT, Int.reduceLE, Int.reduceAdd, Int.reduceSub, Int.reduceMul, Int.reduceNeg, Int.reduceEq, hne])
    | refine fun (r2 : Rnd _) => ?_
    | refine fun (nb : Bool) (hnb : nb = true → _) => ?_
    | with_reducible refine And.intro ?_ ?_
    | exact ‹_ <+: _›
    | (refine (show drawOkF _ _ = true from ?_); kernel_rfl)
    | omega
    | assumption
    | refine fun (hg : (_ : Bool) = (_ : Bool)) => ?_)
      rw [accS, ← hk, hb, hr]; rfl
    | false =>
      have hne : (said.drop k != []) = true := by simp [bne, hr]
      repeat' (first
    | ((first | refine aw_seq_regionT tabAc (tabAc_ok) (fun K hK => ?_) | refine aw_regionT tabAc (tabAc_ok) ?_ | refine aw_seq_region_drawF tabAc (tabAc_ok) (show (cxOf Tryz.prog 0 0 0).P.follows .mixedOrders = true by kernel_rfl) (fun K hK => ?_) | refine aw_region_drawF tabAc (tabAc_ok) (show (cxOf Tryz.prog 0 0 0).P.follows .mixedOrders = true by kernel_rfl) ?_ | refine aw_skip ?_ | refine aw_exit ?_ | refine aw_ret ?_); simp only [go_sem, aeq, aeq.aeqF, ↓reduceIte, Nat.reduceAdd, Nat.reduceMul, Nat.reduceSub, Nat.reduceLT, Nat.reduceLeDiff, Nat.reduceEqDiff, Nat.reduceBEq, Int.reduceToNat, Int.reduceLT, Int.reduceLE, Int.reduceAdd, Int.reduceSub, Int.reduceMul, Int.reduceNeg, Int.reduceEq, hne, Tryz.results7])
    | refine aw_seq (fun K hK => ?_)
    | refine aw_block ?_
    | refine aw_scope ?_
    | (refine aw_label ?_; simp only [go_sem, aeq, aeq.aeqF, ↓reduceIte, Nat.reduceAdd, Nat.reduceMul, Nat.reduceSub, Nat.reduceLT, Nat.reduceLeDiff, Nat.reduceEqDiff, Nat.reduceBEq, Int.reduceToNat, Int.reduceLT, Int.reduceLE, Int.reduceAdd, Int.reduceSub, Int.reduceMul, Int.reduceNeg, Int.reduceEq, hne, Tryz.results7])
    | refine aw_cond_t rfl ?_
    | refine aw_cond_f rfl ?_
    | refine aw_cond rfl (fun hc => ?_) (fun hc => ?_)
    | (first | (refine hK _ ?_; clear hK K) | (clear hK K; refine hK _ ?_; clear hK K) | (clear hK K; clear hK K; refine hK _ ?_; clear hK K) | (clear hK K; clear hK K; clear hK K; refine hK _ ?_; clear hK K) | (clear hK K; clear hK K; clear hK K; clear hK K; refine hK _ ?_; clear hK K))
    | ((first | refine (show AS.le _ _ from ?_) | refine (show leH _ _ from ?_) | refine (show inH _ _ from ?_)); simp only [AS.le, leT, leH, RoundK, AsgK, AV.le, AV.leL, AObj.le, inH, idsT, idsH, AV.ids, AV.idsL, AV.idsR, AObj.ids, lk, hget, go_sem, aeq, aeq.aeqF, ↓reduceIte, Nat.reduceAdd, Nat.reduceMul, Nat.reduceSub, Nat.reduceLT, Nat.reduceLeDiff, Nat.reduceEqDiff, Nat.reduceBEq, Int.reduceToNat, Int.reduceLT, Int.reduceLE, Int.reduceAdd, Int.reduceSub, Int.reduceMul, Int.reduceNeg, Int.reduceEq, hne])
    | refine fun (r2 : Rnd _) => ?_
    | refine fun (nb : Bool) (hnb : nb = true → _) => ?_
    | with_reducible refine And.intro ?_ ?_
    | exact ‹_ <+: _›
    | (refine (show drawOkF _ _ = true from ?_); kernel_rfl)
    | omega
    | assumption
    | refine fun (hg : (_ : Bool) = (_ : Bool)) => ?_)
      refine aw_loop (fun _ : Unit => ⟨[(13, true, .d (.int .i64 (-1))), (14, true, .d (.bool false)), (60, true, .d (.int .i64 0)), (61, true, .d (.int .i64 0))], [], some []⟩) (fun _ => 0) () (by simp only [AS.le, leT, leH, RoundK, AsgK, AV.le, AV.leL, AObj.le, inH, idsT, idsH, AV.ids, AV.idsL, AV.idsR, AObj.ids, lk, hget, go_sem, aeq, aeq.aeqF, ↓reduceIte, Nat.reduceAdd, Nat.reduceMul, Nat.reduceSub, Nat.reduceLT, Nat.reduceLeDiff, Nat.reduceEqDiff, Nat.reduceBEq, Int.reduceToNat, Int.reduceLT, Int.reduceLE, Int.reduceAdd, Int.reduceSub, Int.reduceMul, Int.reduceNeg, Int.reduceEq]; rfl) (fun _ => ?_)
      repeat' (first
    | ((first | refine aw_seq_regionT tabAc (tabAc_ok) (fun K hK => ?_) | refine aw_regionT tabAc (tabAc_ok) ?_ | refine aw_seq_region_drawF tabAc (tabAc_ok) (show (cxOf Tryz.prog 0 0 0).P.follows .mixedOrders = true by kernel_rfl) (fun K hK => ?_) | refine aw_region_drawF tabAc (tabAc_ok) (show (cxOf Tryz.prog 0 0 0).P.follows .mixedOrders = true by kernel_rfl) ?_ | refine aw_skip ?_ | refine aw_exit ?_ | refine aw_ret ?_); simp only [go_sem, aeq, aeq.aeqF, ↓reduceIte, Nat.reduceAdd, Nat.reduceMul, Nat.reduceSub, Nat.reduceLT, Nat.reduceLeDiff, Nat.reduceEqDiff, Nat.reduceBEq, Int.reduceToNat, Int.reduceLT, Int.reduceLE, Int.reduceAdd, Int.reduceSub, Int.reduceMul, Int.reduceNeg, Int.reduceEq, Tryz.results7])
    | refine aw_seq (fun K hK => ?_)
    | refine aw_block ?_
    | refine aw_scope ?_
    | (refine aw_label ?_; simp only [go_sem, aeq, aeq.aeqF, ↓reduceIte, Nat.reduceAdd, Nat.reduceMul, Nat.reduceSub, Nat.reduceLT, Nat.reduceLeDiff, Nat.reduceEqDiff, Nat.reduceBEq, Int.reduceToNat, Int.reduceLT, Int.reduceLE, Int.reduceAdd, Int.reduceSub, Int.reduceMul, Int.reduceNeg, Int.reduceEq, Tryz.results7])
    | refine aw_cond_t rfl ?_
    | refine aw_cond_f rfl ?_
    | refine aw_cond rfl (fun hc => ?_) (fun hc => ?_)
    | (first | (refine hK _ ?_; clear hK K) | (clear hK K; refine hK _ ?_; clear hK K) | (clear hK K; clear hK K; refine hK _ ?_; clear hK K) | (clear hK K; clear hK K; clear hK K; refine hK _ ?_; clear hK K) | (clear hK K; clear hK K; clear hK K; clear hK K; refine hK _ ?_; clear hK K))
    | ((first | refine (show AS.le _ _ from ?_) | refine (show leH _ _ from ?_) | refine (show inH _ _ from ?_)); simp only [AS.le, leT, leH, RoundK, AsgK, AV.le, AV.leL, AObj.le, inH, idsT, idsH, AV.ids, AV.idsL, AV.idsR, AObj.ids, lk, hget, go_sem, aeq, aeq.aeqF, ↓reduceIte, Nat.reduceAdd, Nat.reduceMul, Nat.reduceSub, Nat.reduceLT, Nat.reduceLeDiff, Nat.reduceEqDiff, Nat.reduceBEq, Int.reduceToNat, Int.reduceLT, Int.reduceLE, Int.reduceAdd, Int.reduceSub, Int.reduceMul, Int.reduceNeg, Int.reduceEq])
    | refine fun (r2 : Rnd _) => ?_
    | refine fun (nb : Bool) (hnb : nb = true → _) => ?_
    | with_reducible refine And.intro ?_ ?_
    | exact ‹_ <+: _›
    | (refine (show drawOkF _ _ = true from ?_); kernel_rfl)
    | omega
    | assumption
    | refine fun (hg : (_ : Bool) = (_ : Bool)) => ?_)
      rw [accS, ← hk, hb, hr]; rfl
noncomputable def e_accept0_ok : Ent Tryz.prog := Ent.of 7 (fun x : (Txt) × (Int) × (List (List D)) => (fun (said : Txt) (size : Int) (names : List (List D)) => ([.d (.str []), .d (.str said), .agg [.d (.int .u64 size), .d (.sl 1 names)]] : List AV)) x.1 x.2.1 x.2.2) (fun x : (Txt) × (Int) × (List (List D)) => (fun (said : Txt) (size : Int) (names : List (List D)) => ((said.length ≤ 9223372036854775807) : Prop)) x.1 x.2.1 x.2.2) (fun x : (Txt) × (Int) × (List (List D)) => (fun (said : Txt) (size : Int) (names : List (List D)) => (.tup [.d (.bool (accS said)), .d (.sl 1 [])] : AV)) x.1 x.2.1 x.2.2) (fun x hp => ⟨rfl, accept0_ok x.1 x.2.1 x.2.2 hp⟩)
theorem i_accept0_ok : ∀ x y : (Txt) × (Int) × (List (List D)), (fun x : (Txt) × (Int) × (List (List D)) => (fun (said : Txt) (size : Int) (names : List (List D)) => ([.d (.str []), .d (.str said), .agg [.d (.int .u64 size), .d (.sl 1 names)]] : List AV)) x.1 x.2.1 x.2.2) x = (fun x : (Txt) × (Int) × (List (List D)) => (fun (said : Txt) (size : Int) (names : List (List D)) => ([.d (.str []), .d (.str said), .agg [.d (.int .u64 size), .d (.sl 1 names)]] : List AV)) x.1 x.2.1 x.2.2) y → x = y := by
  intro x y h
  obtain ⟨_, _, _⟩ := x
  obtain ⟨_, _, _⟩ := y
  simpa only [List.cons.injEq, AV.d.injEq, AV.agg.injEq, AV.dp.injEq, AV.fn.injEq, AV.tup.injEq, AV.asl.injEq, Int.natCast_inj, D.int.injEq, D.str.injEq, D.bool.injEq, D.sl.injEq, Prod.mk.injEq, and_true, true_and, and_assoc] using h
@[go_sem] theorem a0_accept0_ok (said : Txt) (size : Int) (names : List (List D)) : (e_accept0_ok).e [.d (.str []), .d (.str said), .agg [.d (.int .u64 size), .d (.sl 1 names)]] = some ((said.length ≤ 9223372036854775807), .tup [.d (.bool (accS said)), .d (.sl 1 [])]) := Ent.of_app i_accept0_ok (said, size, names)
noncomputable def tabAwk : Tab := tabOf [e_greet_ok, e_accept0_ok]
theorem tabAwk_ok : TabOk Tryz.prog tabAwk := tabOf_ok _
@[go_sem] theorem tabAwk_greet_ok (args : List AV) : tabAwk 8 args = (e_greet_ok).e args := rfl
@[go_sem] theorem tabAwk_accept0_ok (args : List AV) : tabAwk 7 args = (e_accept0_ok).e args := rfl

theorem awake_ok : ACall Tryz.prog 6 0 [] [] (fun r _ => r = .d (.bool true)) := by
  refine acall_of_body Tryz.func6 rfl (enters Tryz.func6 (by kernel_rfl) rfl) Tryz.ntmps6 (by simp) (fun base => ?_)
  repeat' (first
    | ((first | refine aw_seq_regionT tabAwk (tabAwk_ok) (fun K hK => ?_) | refine aw_regionT tabAwk (tabAwk_ok) ?_ | refine aw_seq_region_drawF tabAwk (tabAwk_ok) (show (cxOf Tryz.prog 0 0 0).P.follows .mixedOrders = true by kernel_rfl) (fun K hK => ?_) | refine aw_region_drawF tabAwk (tabAwk_ok) (show (cxOf Tryz.prog 0 0 0).P.follows .mixedOrders = true by kernel_rfl) ?_ | refine aw_skip ?_ | refine aw_exit ?_ | refine aw_ret ?_); simp only [go_sem, aeq, aeq.aeqF, ↓reduceIte, Nat.reduceAdd, Nat.reduceMul, Nat.reduceSub, Nat.reduceLT, Nat.reduceLeDiff, Nat.reduceEqDiff, Nat.reduceBEq, Int.reduceToNat, Int.reduceLT, Int.reduceLE, Int.reduceAdd, Int.reduceSub, Int.reduceMul, Int.reduceNeg, Int.reduceEq, Tryz.results6])
    | refine aw_seq (fun K hK => ?_)
    | refine aw_block ?_
    | refine aw_scope ?_
    | (refine aw_label ?_; simp only [go_sem, aeq, aeq.aeqF, ↓reduceIte, Nat.reduceAdd, Nat.reduceMul, Nat.reduceSub, Nat.reduceLT, Nat.reduceLeDiff, Nat.reduceEqDiff, Nat.reduceBEq, Int.reduceToNat, Int.reduceLT, Int.reduceLE, Int.reduceAdd, Int.reduceSub, Int.reduceMul, Int.reduceNeg, Int.reduceEq, Tryz.results6])
    | refine aw_cond_t rfl ?_
    | refine aw_cond_f rfl ?_
    | refine aw_cond rfl (fun hc => ?_) (fun hc => ?_)
    | (first | (refine hK _ ?_; clear hK K) | (clear hK K; refine hK _ ?_; clear hK K) | (clear hK K; clear hK K; refine hK _ ?_; clear hK K) | (clear hK K; clear hK K; clear hK K; refine hK _ ?_; clear hK K) | (clear hK K; clear hK K; clear hK K; clear hK K; refine hK _ ?_; clear hK K))
    | ((first | refine (show AS.le _ _ from ?_) | refine (show leH _ _ from ?_) | refine (show inH _ _ from ?_)); simp only [AS.le, leT, leH, RoundK, AsgK, AV.le, AV.leL, AObj.le, inH, idsT, idsH, AV.ids, AV.idsL, AV.idsR, AObj.ids, lk, hget, go_sem, aeq, aeq.aeqF, ↓reduceIte, Nat.reduceAdd, Nat.reduceMul, Nat.reduceSub, Nat.reduceLT, Nat.reduceLeDiff, Nat.reduceEqDiff, Nat.reduceBEq, Int.reduceToNat, Int.reduceLT, Int.reduceLE, Int.reduceAdd, Int.reduceSub, Int.reduceMul, Int.reduceNeg, Int.reduceEq])
    | refine fun (r2 : Rnd _) => ?_
    | refine fun (nb : Bool) (hnb : nb = true → _) => ?_
    | with_reducible refine And.intro ?_ ?_
    | exact ‹_ <+: _›
    | (refine (show drawOkF _ _ = true from ?_); kernel_rfl)
    | omega
    | assumption
    | refine fun (hg : (_ : Bool) = (_ : Bool)) => ?_)
  exact congrArg (fun b => AV.d (.bool b)) (by decide +kernel)
noncomputable def e_awake_ok : Ent Tryz.prog := Ent.of 6 (fun _ : Unit => ([] : List AV)) (fun _ : Unit => (True : Prop)) (fun _ : Unit => (.d (.bool true) : AV)) (fun x hp => ⟨rfl, awake_ok ⟩)
@[go_sem] theorem a0_awake_ok  : (e_awake_ok).e [] = some (True, .d (.bool true)) := Ent.of_app (fun _ _ _ => rfl) ()
noncomputable def tabGd : Tab := tabOf [e_r3named_ok]
theorem tabGd_ok : TabOk Tryz.prog tabGd := tabOf_ok _
@[go_sem] theorem tabGd_r3named_ok (args : List AV) : tabGd 9 args = (e_r3named_ok).e args := rfl

def goodS (names : List Txt) (said : Txt) : Bool := names.all namedS && decide (said.length ≤ 20000) && decide (names.length ≤ 2)

theorem good_ok (size : Int) (names : List Txt) (said : Txt) (hn : names.length ≤ 9223372036854775807) (hl : ∀ s ∈ names, s.length ≤ 9223372036854775807) (hs : said.length ≤ 9223372036854775807) : ACall Tryz.prog 5 0 [.agg [.d (.int .u64 size), .d (.sl 1 (names.map strD))], .d (.sl 1 [[.str said]])] [] (fun r _ => r = .d (.bool (goodS names said))) := by
  refine acall_of_body Tryz.func5 rfl (enters Tryz.func5 (by kernel_rfl) rfl) Tryz.ntmps5 (by simp) (fun base => ?_)
  repeat' (first
    | ((first | refine aw_seq_regionT noTab (noTab_ok _) (fun K hK => ?_) | refine aw_regionT noTab (noTab_ok _) ?_ | refine aw_seq_region_drawF noTab (noTab_ok _) (show (cxOf Tryz.prog 0 0 0).P.follows .mixedOrders = true by kernel_rfl) (fun K hK => ?_) | refine aw_region_drawF noTab (noTab_ok _) (show (cxOf Tryz.prog 0 0 0).P.follows .mixedOrders = true by kernel_rfl) ?_ | refine aw_skip ?_ | refine aw_exit ?_ | refine aw_ret ?_); simp only [go_sem, aeq, aeq.aeqF, ↓reduceIte, Nat.reduceAdd, Nat.reduceMul, Nat.reduceSub, Nat.reduceLT, Nat.reduceLeDiff, Nat.reduceEqDiff, Nat.reduceBEq, Int.reduceToNat, Int.reduceLT, Int.reduceLE, Int.reduceAdd, Int.reduceSub, Int.reduceMul, Int.reduceNeg, Int.reduceEq, Tryz.results5])
    | refine aw_seq (fun K hK => ?_)
    | refine aw_block ?_
    | refine aw_scope ?_
    | (refine aw_label ?_; simp only [go_sem, aeq, aeq.aeqF, ↓reduceIte, Nat.reduceAdd, Nat.reduceMul, Nat.reduceSub, Nat.reduceLT, Nat.reduceLeDiff, Nat.reduceEqDiff, Nat.reduceBEq, Int.reduceToNat, Int.reduceLT, Int.reduceLE, Int.reduceAdd, Int.reduceSub, Int.reduceMul, Int.reduceNeg, Int.reduceEq, Tryz.results5])
    | refine aw_cond_t rfl ?_
    | refine aw_cond_f rfl ?_
    | refine aw_cond rfl (fun hc => ?_) (fun hc => ?_)
    | (first | (refine hK _ ?_; clear hK K) | (clear hK K; refine hK _ ?_; clear hK K) | (clear hK K; clear hK K; refine hK _ ?_; clear hK K) | (clear hK K; clear hK K; clear hK K; refine hK _ ?_; clear hK K) | (clear hK K; clear hK K; clear hK K; clear hK K; refine hK _ ?_; clear hK K))
    | ((first | refine (show AS.le _ _ from ?_) | refine (show leH _ _ from ?_) | refine (show inH _ _ from ?_)); simp only [AS.le, leT, leH, RoundK, AsgK, AV.le, AV.leL, AObj.le, inH, idsT, idsH, AV.ids, AV.idsL, AV.idsR, AObj.ids, lk, hget, go_sem, aeq, aeq.aeqF, ↓reduceIte, Nat.reduceAdd, Nat.reduceMul, Nat.reduceSub, Nat.reduceLT, Nat.reduceLeDiff, Nat.reduceEqDiff, Nat.reduceBEq, Int.reduceToNat, Int.reduceLT, Int.reduceLE, Int.reduceAdd, Int.reduceSub, Int.reduceMul, Int.reduceNeg, Int.reduceEq])
    | refine fun (r2 : Rnd _) => ?_
    | refine fun (nb : Bool) (hnb : nb = true → _) => ?_
    | with_reducible refine And.intro ?_ ?_
    | exact ‹_ <+: _›
    | (refine (show drawOkF _ _ = true from ?_); kernel_rfl)
    | omega
    | assumption
    | refine fun (hg : (_ : Bool) = (_ : Bool)) => ?_)
  refine aw_loop (fun q : { i : Nat // i ≤ names.length ∧ names.all namedS = (names.drop i).all namedS } => ⟨[(1, true, .d (.sl 1 [[.str said]])), (2, true, .vp 0 0), (11, true, .d (.sl 1 (names.map strD))), (12, true, .d (.int .i64 names.length)), (13, true, .d (.int .i64 q.1))], [(0, .var [.d (.int .u64 size), .d (.sl 1 (names.map strD))])], some []⟩) (fun q => names.length - q.1) ⟨0, Nat.zero_le _, rfl⟩ (by simp only [AS.le, leT, leH, RoundK, AsgK, AV.le, AV.leL, AObj.le, inH, idsT, idsH, AV.ids, AV.idsL, AV.idsR, AObj.ids, lk, hget, go_sem, aeq, aeq.aeqF, ↓reduceIte, Nat.reduceAdd, Nat.reduceMul, Nat.reduceSub, Nat.reduceLT, Nat.reduceLeDiff, Nat.reduceEqDiff, Nat.reduceBEq, Int.reduceToNat, Int.reduceLT, Int.reduceLE, Int.reduceAdd, Int.reduceSub, Int.reduceMul, Int.reduceNeg, Int.reduceEq]; rfl) (fun q => ?_)
  obtain ⟨i, hi, hf⟩ := q
  simp only at hi hf ⊢
  rcases at_cases strD names i hi with ⟨m, hq, hlt, hcmp, hrow, hdr, htk⟩ | ⟨hend, hcmp⟩
  · simp only [strD] at hrow
    have hml := hl m (List.mem_of_getElem? hq)
    have hwi := wrap_suc (i := i) (by omega)
    rw [hdr, List.all_cons] at hf
    cases hm : namedS m with
    | false =>
      repeat' (first
    | ((first | refine aw_seq_regionT tabGd (tabGd_ok) (fun K hK => ?_) | refine aw_regionT tabGd (tabGd_ok) ?_ | refine aw_seq_region_drawF tabGd (tabGd_ok) (show (cxOf Tryz.prog 0 0 0).P.follows .mixedOrders = true by kernel_rfl) (fun K hK => ?_) | refine aw_region_drawF tabGd (tabGd_ok) (show (cxOf Tryz.prog 0 0 0).P.follows .mixedOrders = true by kernel_rfl) ?_ | refine aw_skip ?_ | refine aw_exit ?_ | refine aw_ret ?_); simp only [go_sem, aeq, aeq.aeqF, ↓reduceIte, Nat.reduceAdd, Nat.reduceMul, Nat.reduceSub, Nat.reduceLT, Nat.reduceLeDiff, Nat.reduceEqDiff, Nat.reduceBEq, Int.reduceToNat, Int.reduceLT, Int.reduceLE, Int.reduceAdd, Int.reduceSub, Int.reduceMul, Int.reduceNeg, Int.reduceEq, hcmp, hrow, hm, Tryz.results5])
    | refine aw_seq (fun K hK => ?_)
    | refine aw_block ?_
    | refine aw_scope ?_
    | (refine aw_label ?_; simp only [go_sem, aeq, aeq.aeqF, ↓reduceIte, Nat.reduceAdd, Nat.reduceMul, Nat.reduceSub, Nat.reduceLT, Nat.reduceLeDiff, Nat.reduceEqDiff, Nat.reduceBEq, Int.reduceToNat, Int.reduceLT, Int.reduceLE, Int.reduceAdd, Int.reduceSub, Int.reduceMul, Int.reduceNeg, Int.reduceEq, hcmp, hrow, hm, Tryz.results5])
    | refine aw_cond_t rfl ?_
    | refine aw_cond_f rfl ?_
    | refine aw_cond rfl (fun hc => ?_) (fun hc => ?_)
    | (first | (refine hK _ ?_; clear hK K) | (clear hK K; refine hK _ ?_; clear hK K) | (clear hK K; clear hK K; refine hK _ ?_; clear hK K) | (clear hK K; clear hK K; clear hK K; refine hK _ ?_; clear hK K) | (clear hK K; clear hK K; clear hK K; clear hK K; refine hK _ ?_; clear hK K))
    | ((first | refine (show AS.le _ _ from ?_) | refine (show leH _ _ from ?_) | refine (show inH _ _ from ?_)); simp only [AS.le, leT, leH, RoundK, AsgK, AV.le, AV.leL, AObj.le, inH, idsT, idsH, AV.ids, AV.idsL, AV.idsR, AObj.ids, lk, hget, go_sem, aeq, aeq.aeqF, ↓reduceIte, Nat.reduceAdd, Nat.reduceMul, Nat.reduceSub, Nat.reduceLT, Nat.reduceLeDiff, Nat.reduceEqDiff, Nat.reduceBEq, Int.reduceToNat, Int.reduceLT, Int.reduceLE, Int.reduceAdd, Int.reduceSub, Int.reduceMul, Int.reduceNeg, Int.reduceEq, hcmp, hrow, hm])
    | refine fun (r2 : Rnd _) => ?_
    | refine fun (nb : Bool) (hnb : nb = true → _) => ?_
    | with_reducible refine And.intro ?_ ?_
    | exact ‹_ <+: _›
    | (refine (show drawOkF _ _ = true from ?_); kernel_rfl)
    | omega
    | assumption
    | refine fun (hg : (_ : Bool) = (_ : Bool)) => ?_)
      rw [goodS, hf, hm]; rfl
    | true =>
      rw [hm, Bool.true_and] at hf
      repeat' (first
    | ((first | refine aw_seq_regionT tabGd (tabGd_ok) (fun K hK => ?_) | refine aw_regionT tabGd (tabGd_ok) ?_ | refine aw_seq_region_drawF tabGd (tabGd_ok) (show (cxOf Tryz.prog 0 0 0).P.follows .mixedOrders = true by kernel_rfl) (fun K hK => ?_) | refine aw_region_drawF tabGd (tabGd_ok) (show (cxOf Tryz.prog 0 0 0).P.follows .mixedOrders = true by kernel_rfl) ?_ | refine aw_skip ?_ | refine aw_exit ?_ | refine aw_ret ?_); simp only [go_sem, aeq, aeq.aeqF, ↓reduceIte, Nat.reduceAdd, Nat.reduceMul, Nat.reduceSub, Nat.reduceLT, Nat.reduceLeDiff, Nat.reduceEqDiff, Nat.reduceBEq, Int.reduceToNat, Int.reduceLT, Int.reduceLE, Int.reduceAdd, Int.reduceSub, Int.reduceMul, Int.reduceNeg, Int.reduceEq, hcmp, hrow, hm, Tryz.results5])
    | refine aw_seq (fun K hK => ?_)
    | refine aw_block ?_
    | refine aw_scope ?_
    | (refine aw_label ?_; simp only [go_sem, aeq, aeq.aeqF, ↓reduceIte, Nat.reduceAdd, Nat.reduceMul, Nat.reduceSub, Nat.reduceLT, Nat.reduceLeDiff, Nat.reduceEqDiff, Nat.reduceBEq, Int.reduceToNat, Int.reduceLT, Int.reduceLE, Int.reduceAdd, Int.reduceSub, Int.reduceMul, Int.reduceNeg, Int.reduceEq, hcmp, hrow, hm, Tryz.results5])
    | refine aw_cond_t rfl ?_
    | refine aw_cond_f rfl ?_
    | refine aw_cond rfl (fun hc => ?_) (fun hc => ?_)
    | (first | (refine hK _ ?_; clear hK K) | (clear hK K; refine hK _ ?_; clear hK K) | (clear hK K; clear hK K; refine hK _ ?_; clear hK K) | (clear hK K; clear hK K; clear hK K; refine hK _ ?_; clear hK K) | (clear hK K; clear hK K; clear hK K; clear hK K; refine hK _ ?_; clear hK K))
    | ((first | refine (show AS.le _ _ from ?_) | refine (show leH _ _ from ?_) | refine (show inH _ _ from ?_)); simp only [AS.le, leT, leH, RoundK, AsgK, AV.le, AV.leL, AObj.le, inH, idsT, idsH, AV.ids, AV.idsL, AV.idsR, AObj.ids, lk, hget, go_sem, aeq, aeq.aeqF, ↓reduceIte, Nat.reduceAdd, Nat.reduceMul, Nat.reduceSub, Nat.reduceLT, Nat.reduceLeDiff, Nat.reduceEqDiff, Nat.reduceBEq, Int.reduceToNat, Int.reduceLT, Int.reduceLE, Int.reduceAdd, Int.reduceSub, Int.reduceMul, Int.reduceNeg, Int.reduceEq, hcmp, hrow, hm])
    | refine fun (r2 : Rnd _) => ?_
    | refine fun (nb : Bool) (hnb : nb = true → _) => ?_
    | with_reducible refine And.intro ?_ ?_
    | exact ‹_ <+: _›
    | (refine (show drawOkF _ _ = true from ?_); kernel_rfl)
    | omega
    | assumption
    | refine fun (hg : (_ : Bool) = (_ : Bool)) => ?_)
      exact ⟨⟨i + 1, by omega, hf⟩, by simp only [AS.le, leT, leH, RoundK, AsgK, AV.le, AV.leL, AObj.le, inH, idsT, idsH, AV.ids, AV.idsL, AV.idsR, AObj.ids, lk, hget, go_sem, aeq, aeq.aeqF, ↓reduceIte, Nat.reduceAdd, Nat.reduceMul, Nat.reduceSub, Nat.reduceLT, Nat.reduceLeDiff, Nat.reduceEqDiff, Nat.reduceBEq, Int.reduceToNat, Int.reduceLT, Int.reduceLE, Int.reduceAdd, Int.reduceSub, Int.reduceMul, Int.reduceNeg, Int.reduceEq, hwi], by simp; omega⟩
  · have hall : names.all namedS = true := by rw [hf, hend, List.drop_length]; rfl
    have hwl : IntKind.i64.wrap (0 + (said.length : Int)) = said.length := by rw [Int.zero_add]; exact wrap_eq (by omega) (by omega)
    repeat' (first
    | ((first | refine aw_seq_regionT tabGd (tabGd_ok) (fun K hK => ?_) | refine aw_regionT tabGd (tabGd_ok) ?_ | refine aw_seq_region_drawF tabGd (tabGd_ok) (show (cxOf Tryz.prog 0 0 0).P.follows .mixedOrders = true by kernel_rfl) (fun K hK => ?_) | refine aw_region_drawF tabGd (tabGd_ok) (show (cxOf Tryz.prog 0 0 0).P.follows .mixedOrders = true by kernel_rfl) ?_ | refine aw_skip ?_ | refine aw_exit ?_ | refine aw_ret ?_); simp only [go_sem, aeq, aeq.aeqF, ↓reduceIte, Nat.reduceAdd, Nat.reduceMul, Nat.reduceSub, Nat.reduceLT, Nat.reduceLeDiff, Nat.reduceEqDiff, Nat.reduceBEq, Int.reduceToNat, Int.reduceLT, Int.reduceLE, Int.reduceAdd, Int.reduceSub, Int.reduceMul, Int.reduceNeg, Int.reduceEq, hcmp, Tryz.results5])
    | refine aw_seq (fun K hK => ?_)
    | refine aw_block ?_
    | refine aw_scope ?_
    | (refine aw_label ?_; simp only [go_sem, aeq, aeq.aeqF, ↓reduceIte, Nat.reduceAdd, Nat.reduceMul, Nat.reduceSub, Nat.reduceLT, Nat.reduceLeDiff, Nat.reduceEqDiff, Nat.reduceBEq, Int.reduceToNat, Int.reduceLT, Int.reduceLE, Int.reduceAdd, Int.reduceSub, Int.reduceMul, Int.reduceNeg, Int.reduceEq, hcmp, Tryz.results5])
    | refine aw_cond_t rfl ?_
    | refine aw_cond_f rfl ?_
    | refine aw_cond rfl (fun hc => ?_) (fun hc => ?_)
    | (first | (refine hK _ ?_; clear hK K) | (clear hK K; refine hK _ ?_; clear hK K) | (clear hK K; clear hK K; refine hK _ ?_; clear hK K) | (clear hK K; clear hK K; clear hK K; refine hK _ ?_; clear hK K) | (clear hK K; clear hK K; clear hK K; clear hK K; refine hK _ ?_; clear hK K))
    | ((first | refine (show AS.le _ _ from ?_) | refine (show leH _ _ from ?_) | refine (show inH _ _ from ?_)); simp only [AS.le, leT, leH, RoundK, AsgK, AV.le, AV.leL, AObj.le, inH, idsT, idsH, AV.ids, AV.idsL, AV.idsR, AObj.ids, lk, hget, go_sem, aeq, aeq.aeqF, ↓reduceIte, Nat.reduceAdd, Nat.reduceMul, Nat.reduceSub, Nat.reduceLT, Nat.reduceLeDiff, Nat.reduceEqDiff, Nat.reduceBEq, Int.reduceToNat, Int.reduceLT, Int.reduceLE, Int.reduceAdd, Int.reduceSub, Int.reduceMul, Int.reduceNeg, Int.reduceEq, hcmp])
    | refine fun (r2 : Rnd _) => ?_
    | refine fun (nb : Bool) (hnb : nb = true → _) => ?_
    | with_reducible refine And.intro ?_ ?_
    | exact ‹_ <+: _›
    | (refine (show drawOkF _ _ = true from ?_); kernel_rfl)
    | omega
    | assumption
    | refine fun (hg : (_ : Bool) = (_ : Bool)) => ?_)
    refine aw_loop (fun q : { i : Nat // i = 0 ∨ i = 1 ∧ said.length ≤ 20000 } => ⟨[(2, true, .vp 0 0), (7, true, .d (.int .i64 (if q.1 = 0 then 0 else said.length))), (21, true, .d (.sl 1 [[.str said]])), (22, true, .d (.int .i64 1)), (23, true, .d (.int .i64 q.1))], [(0, .var [.d (.int .u64 size), .d (.sl 1 (names.map strD))])], some []⟩) (fun q => 1 - q.1) ⟨0, .inl rfl⟩ (by simp only [AS.le, leT, leH, RoundK, AsgK, AV.le, AV.leL, AObj.le, inH, idsT, idsH, AV.ids, AV.idsL, AV.idsR, AObj.ids, lk, hget, go_sem, aeq, aeq.aeqF, ↓reduceIte, Nat.reduceAdd, Nat.reduceMul, Nat.reduceSub, Nat.reduceLT, Nat.reduceLeDiff, Nat.reduceEqDiff, Nat.reduceBEq, Int.reduceToNat, Int.reduceLT, Int.reduceLE, Int.reduceAdd, Int.reduceSub, Int.reduceMul, Int.reduceNeg, Int.reduceEq]; exact ⟨rfl, rfl⟩) (fun q => ?_)
    obtain ⟨i, hi⟩ := q
    simp only at hi ⊢
    rcases hi with rfl | ⟨rfl, hle⟩
    · have hneg : decide ((said.length : Int) < 0) = false := decide_eq_false (by omega)
      rcases Nat.lt_or_ge 20000 said.length with h2 | h2
      · have hgt : decide ((20000 : Int) < (said.length : Int)) = true := decide_eq_true (by omega)
        repeat' (first
    | ((first | refine aw_seq_regionT tabGd (tabGd_ok) (fun K hK => ?_) | refine aw_regionT tabGd (tabGd_ok) ?_ | refine aw_seq_region_drawF tabGd (tabGd_ok) (show (cxOf Tryz.prog 0 0 0).P.follows .mixedOrders = true by kernel_rfl) (fun K hK => ?_) | refine aw_region_drawF tabGd (tabGd_ok) (show (cxOf Tryz.prog 0 0 0).P.follows .mixedOrders = true by kernel_rfl) ?_ | refine aw_skip ?_ | refine aw_exit ?_ | refine aw_ret ?_); simp only [go_sem, aeq, aeq.aeqF, ↓reduceIte, Nat.reduceAdd, Nat.reduceMul, Nat.reduceSub, Nat.reduceLT, Nat.reduceLeDiff, Nat.reduceEqDiff, Nat.reduceBEq, Int.reduceToNat, Int.reduceLT, Int.reduceLE, Int.reduceAdd, Int.reduceSub, Int.reduceMul, Int.reduceNeg, Int.reduceEq, hwl, hgt, if_true, Tryz.results5])
    | refine aw_seq (fun K hK => ?_)
    | refine aw_block ?_
    | refine aw_scope ?_
    | (refine aw_label ?_; simp only [go_sem, aeq, aeq.aeqF, ↓reduceIte, Nat.reduceAdd, Nat.reduceMul, Nat.reduceSub, Nat.reduceLT, Nat.reduceLeDiff, Nat.reduceEqDiff, Nat.reduceBEq, Int.reduceToNat, Int.reduceLT, Int.reduceLE, Int.reduceAdd, Int.reduceSub, Int.reduceMul, Int.reduceNeg, Int.reduceEq, hwl, hgt, if_true, Tryz.results5])
    | refine aw_cond_t rfl ?_
    | refine aw_cond_f rfl ?_
    | refine aw_cond rfl (fun hc => ?_) (fun hc => ?_)
    | (first | (refine hK _ ?_; clear hK K) | (clear hK K; refine hK _ ?_; clear hK K) | (clear hK K; clear hK K; refine hK _ ?_; clear hK K) | (clear hK K; clear hK K; clear hK K; refine hK _ ?_; clear hK K) | (clear hK K; clear hK K; clear hK K; clear hK K; refine hK _ ?_; clear hK K))
    | ((first | refine (show AS.le _ _ from ?_) | refine (show leH _ _ from ?_) | refine (show inH _ _ from ?_)); simp only [AS.le, leT, leH, RoundK, AsgK, AV.le, AV.leL, AObj.le, inH, idsT, idsH, AV.ids, AV.idsL, AV.idsR, AObj.ids, lk, hget, go_sem, aeq, aeq.aeqF, ↓reduceIte, Nat.reduceAdd, Nat.reduceMul, Nat.reduceSub, Nat.reduceLT, Nat.reduceLeDiff, Nat.reduceEqDiff, Nat.reduceBEq, Int.reduceToNat, Int.reduceLT, Int.reduceLE, Int.reduceAdd, Int.reduceSub, Int.reduceMul, Int.reduceNeg, Int.reduceEq, hwl, hgt, if_true])
    | refine fun (r2 : Rnd _) => ?_
    | refine fun (nb : Bool) (hnb : nb = true → _) => ?_
    | with_reducible refine And.intro ?_ ?_
    | exact ‹_ <+: _›
    | (refine (show drawOkF _ _ = true from ?_); kernel_rfl)
    | omega
    | assumption
    | refine fun (hg : (_ : Bool) = (_ : Bool)) => ?_)
        rw [goodS, decide_eq_false (p := said.length ≤ 20000) (by omega)]; simp
      · have hgt : decide ((20000 : Int) < (said.length : Int)) = false := decide_eq_false (by omega)
        repeat' (first
    | ((first | refine aw_seq_regionT tabGd (tabGd_ok) (fun K hK => ?_) | refine aw_regionT tabGd (tabGd_ok) ?_ | refine aw_seq_region_drawF tabGd (tabGd_ok) (show (cxOf Tryz.prog 0 0 0).P.follows .mixedOrders = true by kernel_rfl) (fun K hK => ?_) | refine aw_region_drawF tabGd (tabGd_ok) (show (cxOf Tryz.prog 0 0 0).P.follows .mixedOrders = true by kernel_rfl) ?_ | refine aw_skip ?_ | refine aw_exit ?_ | refine aw_ret ?_); simp only [go_sem, aeq, aeq.aeqF, ↓reduceIte, Nat.reduceAdd, Nat.reduceMul, Nat.reduceSub, Nat.reduceLT, Nat.reduceLeDiff, Nat.reduceEqDiff, Nat.reduceBEq, Int.reduceToNat, Int.reduceLT, Int.reduceLE, Int.reduceAdd, Int.reduceSub, Int.reduceMul, Int.reduceNeg, Int.reduceEq, hwl, hgt, hneg, if_true, Tryz.results5])
    | refine aw_seq (fun K hK => ?_)
    | refine aw_block ?_
    | refine aw_scope ?_
    | (refine aw_label ?_; simp only [go_sem, aeq, aeq.aeqF, ↓reduceIte, Nat.reduceAdd, Nat.reduceMul, Nat.reduceSub, Nat.reduceLT, Nat.reduceLeDiff, Nat.reduceEqDiff, Nat.reduceBEq, Int.reduceToNat, Int.reduceLT, Int.reduceLE, Int.reduceAdd, Int.reduceSub, Int.reduceMul, Int.reduceNeg, Int.reduceEq, hwl, hgt, hneg, if_true, Tryz.results5])
    | refine aw_cond_t rfl ?_
    | refine aw_cond_f rfl ?_
    | refine aw_cond rfl (fun hc => ?_) (fun hc => ?_)
    | (first | (refine hK _ ?_; clear hK K) | (clear hK K; refine hK _ ?_; clear hK K) | (clear hK K; clear hK K; refine hK _ ?_; clear hK K) | (clear hK K; clear hK K; clear hK K; refine hK _ ?_; clear hK K) | (clear hK K; clear hK K; clear hK K; clear hK K; refine hK _ ?_; clear hK K))
    | ((first | refine (show AS.le _ _ from ?_) | refine (show leH _ _ from ?_) | refine (show inH _ _ from ?_)); simp only [AS.le, leT, leH, RoundK, AsgK, AV.le, AV.leL, AObj.le, inH, idsT, idsH, AV.ids, AV.idsL, AV.idsR, AObj.ids, lk, hget, go_sem, aeq, aeq.aeqF, ↓reduceIte, Nat.reduceAdd, Nat.reduceMul, Nat.reduceSub, Nat.reduceLT, Nat.reduceLeDiff, Nat.reduceEqDiff, Nat.reduceBEq, Int.reduceToNat, Int.reduceLT, Int.reduceLE, Int.reduceAdd, Int.reduceSub, Int.reduceMul, Int.reduceNeg, Int.reduceEq, hwl, hgt, hneg, if_true])
    | refine fun (r2 : Rnd _) => ?_
    | refine fun (nb : Bool) (hnb : nb = true → _) => ?_
    | with_reducible refine And.intro ?_ ?_
    | exact ‹_ <+: _›
    | (refine (show drawOkF _ _ = true from ?_); kernel_rfl)
    | omega
    | assumption
    | refine fun (hg : (_ : Bool) = (_ : Bool)) => ?_)
        exact ⟨⟨1, .inr ⟨rfl, h2⟩⟩, by simp only [AS.le, leT, leH, RoundK, AsgK, AV.le, AV.leL, AObj.le, inH, idsT, idsH, AV.ids, AV.idsL, AV.idsR, AObj.ids, lk, hget, go_sem, aeq, aeq.aeqF, ↓reduceIte, Nat.reduceAdd, Nat.reduceMul, Nat.reduceSub, Nat.reduceLT, Nat.reduceLeDiff, Nat.reduceEqDiff, Nat.reduceBEq, Int.reduceToNat, Int.reduceLT, Int.reduceLE, Int.reduceAdd, Int.reduceSub, Int.reduceMul, Int.reduceNeg, Int.reduceEq]; exact congrArg (fun n => D.int .i64 n) (by decide), by simp⟩
    · repeat' (first
    | ((first | refine aw_seq_regionT tabGd (tabGd_ok) (fun K hK => ?_) | refine aw_regionT tabGd (tabGd_ok) ?_ | refine aw_seq_region_drawF tabGd (tabGd_ok) (show (cxOf Tryz.prog 0 0 0).P.follows .mixedOrders = true by kernel_rfl) (fun K hK => ?_) | refine aw_region_drawF tabGd (tabGd_ok) (show (cxOf Tryz.prog 0 0 0).P.follows .mixedOrders = true by kernel_rfl) ?_ | refine aw_skip ?_ | refine aw_exit ?_ | refine aw_ret ?_); simp only [go_sem, aeq, aeq.aeqF, ↓reduceIte, Nat.reduceAdd, Nat.reduceMul, Nat.reduceSub, Nat.reduceLT, Nat.reduceLeDiff, Nat.reduceEqDiff, Nat.reduceBEq, Int.reduceToNat, Int.reduceLT, Int.reduceLE, Int.reduceAdd, Int.reduceSub, Int.reduceMul, Int.reduceNeg, Int.reduceEq, Tryz.results5])
    | refine aw_seq (fun K hK => ?_)
    | refine aw_block ?_
    | refine aw_scope ?_
    | (refine aw_label ?_; simp only [go_sem, aeq, aeq.aeqF, ↓reduceIte, Nat.reduceAdd, Nat.reduceMul, Nat.reduceSub, Nat.reduceLT, Nat.reduceLeDiff, Nat.reduceEqDiff, Nat.reduceBEq, Int.reduceToNat, Int.reduceLT, Int.reduceLE, Int.reduceAdd, Int.reduceSub, Int.reduceMul, Int.reduceNeg, Int.reduceEq, Tryz.results5])
    | refine aw_cond_t rfl ?_
    | refine aw_cond_f rfl ?_
    | refine aw_cond rfl (fun hc => ?_) (fun hc => ?_)
    | (first | (refine hK _ ?_; clear hK K) | (clear hK K; refine hK _ ?_; clear hK K) | (clear hK K; clear hK K; refine hK _ ?_; clear hK K) | (clear hK K; clear hK K; clear hK K; refine hK _ ?_; clear hK K) | (clear hK K; clear hK K; clear hK K; clear hK K; refine hK _ ?_; clear hK K))
    | ((first | refine (show AS.le _ _ from ?_) | refine (show leH _ _ from ?_) | refine (show inH _ _ from ?_)); simp only [AS.le, leT, leH, RoundK, AsgK, AV.le, AV.leL, AObj.le, inH, idsT, idsH, AV.ids, AV.idsL, AV.idsR, AObj.ids, lk, hget, go_sem, aeq, aeq.aeqF, ↓reduceIte, Nat.reduceAdd, Nat.reduceMul, Nat.reduceSub, Nat.reduceLT, Nat.reduceLeDiff, Nat.reduceEqDiff, Nat.reduceBEq, Int.reduceToNat, Int.reduceLT, Int.reduceLE, Int.reduceAdd, Int.reduceSub, Int.reduceMul, Int.reduceNeg, Int.reduceEq])
    | refine fun (r2 : Rnd _) => ?_
    | refine fun (nb : Bool) (hnb : nb = true → _) => ?_
    | with_reducible refine And.intro ?_ ?_
    | exact ‹_ <+: _›
    | (refine (show drawOkF _ _ = true from ?_); kernel_rfl)
    | omega
    | assumption
    | refine fun (hg : (_ : Bool) = (_ : Bool)) => ?_)
      rw [goodS, hall, decide_eq_true hle]
      simp
      omega
noncomputable def e_good_ok : Ent Tryz.prog := Ent.of 5 (fun x : (Int) × (List Txt) × (Txt) => (fun (size : Int) (names : List Txt) (said : Txt) => ([.agg [.d (.int .u64 size), .d (.sl 1 (names.map strD))], .d (.sl 1 [[.str said]])] : List AV)) x.1 x.2.1 x.2.2) (fun x : (Int) × (List Txt) × (Txt) => (fun (size : Int) (names : List Txt) (said : Txt) => ((names.length ≤ 9223372036854775807) ∧ (∀ s ∈ names, s.length ≤ 9223372036854775807) ∧ (said.length ≤ 9223372036854775807) : Prop)) x.1 x.2.1 x.2.2) (fun x : (Int) × (List Txt) × (Txt) => (fun (size : Int) (names : List Txt) (said : Txt) => (.d (.bool (goodS names said)) : AV)) x.1 x.2.1 x.2.2) (fun x hp => ⟨rfl, good_ok x.1 x.2.1 x.2.2 hp.1 hp.2.1 hp.2.2⟩)
theorem i_good_ok : ∀ x y : (Int) × (List Txt) × (Txt), (fun x : (Int) × (List Txt) × (Txt) => (fun (size : Int) (names : List Txt) (said : Txt) => ([.agg [.d (.int .u64 size), .d (.sl 1 (names.map strD))], .d (.sl 1 [[.str said]])] : List AV)) x.1 x.2.1 x.2.2) x = (fun x : (Int) × (List Txt) × (Txt) => (fun (size : Int) (names : List Txt) (said : Txt) => ([.agg [.d (.int .u64 size), .d (.sl 1 (names.map strD))], .d (.sl 1 [[.str said]])] : List AV)) x.1 x.2.1 x.2.2) y → x = y := by
  intro x y h
  obtain ⟨_, _, _⟩ := x
  obtain ⟨_, _, _⟩ := y
  simpa only [List.cons.injEq, AV.d.injEq, AV.agg.injEq, AV.dp.injEq, AV.fn.injEq, AV.tup.injEq, AV.asl.injEq, Int.natCast_inj, D.int.injEq, D.str.injEq, D.bool.injEq, D.sl.injEq, Prod.mk.injEq, and_true, true_and, and_assoc, map_inj strD_inj] using h
@[go_sem] theorem a0_good_ok (size : Int) (names : List Txt) (said : Txt) : (e_good_ok).e [.agg [.d (.int .u64 size), .d (.sl 1 (names.map strD))], .d (.sl 1 [[.str said]])] = some ((names.length ≤ 9223372036854775807) ∧ (∀ s ∈ names, s.length ≤ 9223372036854775807) ∧ (said.length ≤ 9223372036854775807), .d (.bool (goodS names said))) := Ent.of_app i_good_ok (size, names, said)
@[go_sem] theorem a1_good_ok (size : Int) (said : Txt) : (e_good_ok).e [.agg [.d (.int .u64 size), .d (.sl 1 [])], .d (.sl 1 [[.str said]])] = some ((([] : List Txt).length ≤ 9223372036854775807) ∧ (∀ s ∈ ([] : List Txt), s.length ≤ 9223372036854775807) ∧ (said.length ≤ 9223372036854775807), .d (.bool (goodS ([] : List Txt) said))) := Ent.of_app i_good_ok (size, ([] : List Txt), said)
