/-
  Row, Drop, Clean.
-/
import Derived.Test.YtoofpcploeanpaaCacheD
--new
namespace Go.Aw
set_option maxRecDepth 100000
set_option linter.unusedSimpArgs false
set_option linter.unusedVariables false
open Go Go.Proofs

abbrev Est (a b : List Blk) := { i : Nat // i ≤ a.length ∧ a.take i = b.take i }

theorem row_ok (a : List Blk) (b : List Blk) (ha : a.length ≤ 400) (hb : b.length ≤ 400) : ACall Try.prog 34 0 [.d (.sl 3 (a.map blkD)), .d (.sl 3 (b.map blkD))] [] (fun r _ => r = .d (.bool (decide (a = b)))) := by
  refine acall_of_body Try.func34 rfl (enters Try.func34 (by kernel_rfl) rfl) Try.ntmps34 (by simp) (fun base => ?_)
  repeat' (first
    | ((first | refine aw_seq_regionT noTab (noTab_ok _) (fun K hK => ?_) | refine aw_regionT noTab (noTab_ok _) ?_ | refine aw_seq_region_drawF noTab (noTab_ok _) (show (cxOf Try.prog 0 0 0).P.follows .mixedOrders = true by kernel_rfl) (fun K hK => ?_) | refine aw_region_drawF noTab (noTab_ok _) (show (cxOf Try.prog 0 0 0).P.follows .mixedOrders = true by kernel_rfl) ?_ | refine aw_skip ?_ | refine aw_exit ?_ | refine aw_ret ?_); simp only [go_sem, ↓reduceIte, Nat.reduceAdd, Nat.reduceMul, Nat.reduceSub, Nat.reduceLT, Nat.reduceLeDiff, Nat.reduceEqDiff, Nat.reduceBEq, Int.reduceToNat, Int.reduceLT, Int.reduceLE, Int.reduceAdd, Int.reduceSub, Int.reduceMul, Int.reduceNeg, Int.reduceEq, Try.results34])
    | refine aw_seq (fun K hK => ?_)
    | refine aw_block ?_
    | refine aw_cond_t rfl ?_
    | refine aw_cond_f rfl ?_
    | refine aw_cond rfl (fun hc => ?_) (fun hc => ?_)
    | (first | (refine hK _ ?_; clear hK K) | (clear hK K; refine hK _ ?_; clear hK K) | (clear hK K; clear hK K; refine hK _ ?_; clear hK K) | (clear hK K; clear hK K; clear hK K; refine hK _ ?_; clear hK K) | (clear hK K; clear hK K; clear hK K; clear hK K; refine hK _ ?_; clear hK K))
    | ((first | refine (show AS.le _ _ from ?_) | refine (show leH _ _ from ?_) | refine (show inH _ _ from ?_)); simp only [AS.le, leT, leH, RoundK, AsgK, AV.le, AV.leL, AObj.le, inH, idsT, idsH, AV.ids, AV.idsL, AV.idsR, AObj.ids, lk, hget, go_sem, ↓reduceIte, Nat.reduceAdd, Nat.reduceMul, Nat.reduceSub, Nat.reduceLT, Nat.reduceLeDiff, Nat.reduceEqDiff, Nat.reduceBEq, Int.reduceToNat, Int.reduceLT, Int.reduceLE, Int.reduceAdd, Int.reduceSub, Int.reduceMul, Int.reduceNeg, Int.reduceEq])
    | refine fun (r2 : Rnd _) => ?_
    | refine fun (nb : Bool) (hnb : nb = true → _) => ?_
    | with_reducible refine And.intro ?_ ?_
    | exact ‹_ <+: _›
    | (refine (show drawOkF _ _ = true from ?_); kernel_rfl)
    | omega
    | refine fun (hg : (_ : Bool) = (_ : Bool)) => ?_)
  · have : a ≠ b := by rintro rfl; simp at hc
    rw [decide_eq_false this]
  · have hlen : a.length = b.length := by simp at hc; omega
    refine aw_loop (fun q : Est a b => ⟨[(0, true, .d (.sl 3 (a.map blkD))), (1, true, .d (.sl 3 (b.map blkD))), (5, true, .d (.int .i64 q.1))], [], some []⟩) (fun q => a.length - q.1) ⟨0, Nat.zero_le _, rfl⟩ (by simp only [AS.le, leT, leH, RoundK, AsgK, AV.le, AV.leL, AObj.le, inH, idsT, idsH, AV.ids, AV.idsL, AV.idsR, AObj.ids, lk, hget, go_sem, ↓reduceIte, Nat.reduceAdd, Nat.reduceMul, Nat.reduceSub, Nat.reduceLT, Nat.reduceLeDiff, Nat.reduceEqDiff, Nat.reduceBEq, Int.reduceToNat, Int.reduceLT, Int.reduceLE, Int.reduceAdd, Int.reduceSub, Int.reduceMul, Int.reduceNeg, Int.reduceEq]; rfl) (fun q => ?_)
    obtain ⟨i, hi, hf⟩ := q
    simp only at hi hf ⊢
    rcases at_cases blkD a i hi with ⟨⟨m, d, c⟩, hq, hlt, hcmp, hrow, hdr, htk⟩ | ⟨hend, hcmp⟩
    · rcases at_cases blkD b i (by omega) with ⟨⟨m', d', c'⟩, hq', hlt', hcmp', hrow', hdr', htk'⟩ | ⟨hend, hcmp⟩
      · simp only [blkD] at hrow hrow'
        repeat' (first
    | ((first | refine aw_seq_regionT noTab (noTab_ok _) (fun K hK => ?_) | refine aw_regionT noTab (noTab_ok _) ?_ | refine aw_seq_region_drawF noTab (noTab_ok _) (show (cxOf Try.prog 0 0 0).P.follows .mixedOrders = true by kernel_rfl) (fun K hK => ?_) | refine aw_region_drawF noTab (noTab_ok _) (show (cxOf Try.prog 0 0 0).P.follows .mixedOrders = true by kernel_rfl) ?_ | refine aw_skip ?_ | refine aw_exit ?_ | refine aw_ret ?_); simp only [go_sem, ↓reduceIte, Nat.reduceAdd, Nat.reduceMul, Nat.reduceSub, Nat.reduceLT, Nat.reduceLeDiff, Nat.reduceEqDiff, Nat.reduceBEq, Int.reduceToNat, Int.reduceLT, Int.reduceLE, Int.reduceAdd, Int.reduceSub, Int.reduceMul, Int.reduceNeg, Int.reduceEq, hcmp, hrow, hrow', Try.results34])
    | refine aw_seq (fun K hK => ?_)
    | refine aw_block ?_
    | refine aw_cond_t rfl ?_
    | refine aw_cond_f rfl ?_
    | refine aw_cond rfl (fun hc => ?_) (fun hc => ?_)
    | (first | (refine hK _ ?_; clear hK K) | (clear hK K; refine hK _ ?_; clear hK K) | (clear hK K; clear hK K; refine hK _ ?_; clear hK K) | (clear hK K; clear hK K; clear hK K; refine hK _ ?_; clear hK K) | (clear hK K; clear hK K; clear hK K; clear hK K; refine hK _ ?_; clear hK K))
    | ((first | refine (show AS.le _ _ from ?_) | refine (show leH _ _ from ?_) | refine (show inH _ _ from ?_)); simp only [AS.le, leT, leH, RoundK, AsgK, AV.le, AV.leL, AObj.le, inH, idsT, idsH, AV.ids, AV.idsL, AV.idsR, AObj.ids, lk, hget, go_sem, ↓reduceIte, Nat.reduceAdd, Nat.reduceMul, Nat.reduceSub, Nat.reduceLT, Nat.reduceLeDiff, Nat.reduceEqDiff, Nat.reduceBEq, Int.reduceToNat, Int.reduceLT, Int.reduceLE, Int.reduceAdd, Int.reduceSub, Int.reduceMul, Int.reduceNeg, Int.reduceEq, hcmp, hrow, hrow'])
    | refine fun (r2 : Rnd _) => ?_
    | refine fun (nb : Bool) (hnb : nb = true → _) => ?_
    | with_reducible refine And.intro ?_ ?_
    | exact ‹_ <+: _›
    | (refine (show drawOkF _ _ = true from ?_); kernel_rfl)
    | omega
    | refine fun (hg : (_ : Bool) = (_ : Bool)) => ?_)
        · have : a ≠ b := by
            rintro rfl
            rw [hq] at hq'
            cases hq'
            simp at hc
          rw [decide_eq_false this]
        · simp only [Bool.not_eq_false', Bool.and_eq_true, beq_iff_eq] at hc
          exact ⟨⟨i + 1, by omega, by rw [htk, htk', hf, hc.1, hc.2.1, hc.2.2]⟩, by rw [wrap_suc (by omega)]; simp only [AS.le, leT, leH, RoundK, AsgK, AV.le, AV.leL, AObj.le, inH, idsT, idsH, AV.ids, AV.idsL, AV.idsR, AObj.ids, lk, hget, go_sem, ↓reduceIte, Nat.reduceAdd, Nat.reduceMul, Nat.reduceSub, Nat.reduceLT, Nat.reduceLeDiff, Nat.reduceEqDiff, Nat.reduceBEq, Int.reduceToNat, Int.reduceLT, Int.reduceLE, Int.reduceAdd, Int.reduceSub, Int.reduceMul, Int.reduceNeg, Int.reduceEq], by show a.length - (i + 1) < a.length - i; omega⟩
      · omega
    · repeat' (first
    | ((first | refine aw_seq_regionT noTab (noTab_ok _) (fun K hK => ?_) | refine aw_regionT noTab (noTab_ok _) ?_ | refine aw_seq_region_drawF noTab (noTab_ok _) (show (cxOf Try.prog 0 0 0).P.follows .mixedOrders = true by kernel_rfl) (fun K hK => ?_) | refine aw_region_drawF noTab (noTab_ok _) (show (cxOf Try.prog 0 0 0).P.follows .mixedOrders = true by kernel_rfl) ?_ | refine aw_skip ?_ | refine aw_exit ?_ | refine aw_ret ?_); simp only [go_sem, ↓reduceIte, Nat.reduceAdd, Nat.reduceMul, Nat.reduceSub, Nat.reduceLT, Nat.reduceLeDiff, Nat.reduceEqDiff, Nat.reduceBEq, Int.reduceToNat, Int.reduceLT, Int.reduceLE, Int.reduceAdd, Int.reduceSub, Int.reduceMul, Int.reduceNeg, Int.reduceEq, hcmp, Try.results34])
    | refine aw_seq (fun K hK => ?_)
    | refine aw_block ?_
    | refine aw_cond_t rfl ?_
    | refine aw_cond_f rfl ?_
    | refine aw_cond rfl (fun hc => ?_) (fun hc => ?_)
    | (first | (refine hK _ ?_; clear hK K) | (clear hK K; refine hK _ ?_; clear hK K) | (clear hK K; clear hK K; refine hK _ ?_; clear hK K) | (clear hK K; clear hK K; clear hK K; refine hK _ ?_; clear hK K) | (clear hK K; clear hK K; clear hK K; clear hK K; refine hK _ ?_; clear hK K))
    | ((first | refine (show AS.le _ _ from ?_) | refine (show leH _ _ from ?_) | refine (show inH _ _ from ?_)); simp only [AS.le, leT, leH, RoundK, AsgK, AV.le, AV.leL, AObj.le, inH, idsT, idsH, AV.ids, AV.idsL, AV.idsR, AObj.ids, lk, hget, go_sem, ↓reduceIte, Nat.reduceAdd, Nat.reduceMul, Nat.reduceSub, Nat.reduceLT, Nat.reduceLeDiff, Nat.reduceEqDiff, Nat.reduceBEq, Int.reduceToNat, Int.reduceLT, Int.reduceLE, Int.reduceAdd, Int.reduceSub, Int.reduceMul, Int.reduceNeg, Int.reduceEq, hcmp])
    | refine fun (r2 : Rnd _) => ?_
    | refine fun (nb : Bool) (hnb : nb = true → _) => ?_
    | with_reducible refine And.intro ?_ ?_
    | exact ‹_ <+: _›
    | (refine (show drawOkF _ _ = true from ?_); kernel_rfl)
    | omega
    | refine fun (hg : (_ : Bool) = (_ : Bool)) => ?_)
      rw [hend, take_all, hlen, take_all] at hf
      rw [decide_eq_true hf]
noncomputable def e_row_ok : Ent Try.prog := Ent.of 34 (fun x : (List Blk) × (List Blk) => (fun (a : List Blk) (b : List Blk) => ([.d (.sl 3 (a.map blkD)), .d (.sl 3 (b.map blkD))] : List AV)) x.1 x.2) (fun x : (List Blk) × (List Blk) => (fun (a : List Blk) (b : List Blk) => ((a.length ≤ 400) ∧ (b.length ≤ 400) : Prop)) x.1 x.2) (fun x : (List Blk) × (List Blk) => (fun (a : List Blk) (b : List Blk) => (.d (.bool (decide (a = b))) : AV)) x.1 x.2) (fun x hp => ⟨rfl, row_ok x.1 x.2 hp.1 hp.2⟩)
theorem i_row_ok : ∀ x y : (List Blk) × (List Blk), (fun x : (List Blk) × (List Blk) => (fun (a : List Blk) (b : List Blk) => ([.d (.sl 3 (a.map blkD)), .d (.sl 3 (b.map blkD))] : List AV)) x.1 x.2) x = (fun x : (List Blk) × (List Blk) => (fun (a : List Blk) (b : List Blk) => ([.d (.sl 3 (a.map blkD)), .d (.sl 3 (b.map blkD))] : List AV)) x.1 x.2) y → x = y := by
  intro x y h
  obtain ⟨_, _⟩ := x
  obtain ⟨_, _⟩ := y
  simpa only [List.cons.injEq, AV.d.injEq, AV.agg.injEq, AV.dp.injEq, AV.fn.injEq, AV.tup.injEq, AV.asl.injEq, Int.natCast_inj, D.int.injEq, D.str.injEq, D.bool.injEq, D.sl.injEq, Prod.mk.injEq, and_true, true_and, and_assoc, map_inj blkD_inj, map_inj intD_inj, map_inj strD_inj, map_inj boolD_inj] using h
@[go_sem] theorem a0_row_ok (a : List Blk) (b : List Blk) : (e_row_ok).e [.d (.sl 3 (a.map blkD)), .d (.sl 3 (b.map blkD))] = some ((a.length ≤ 400) ∧ (b.length ≤ 400), .d (.bool (decide (a = b)))) := Ent.of_app i_row_ok (a, b)
@[go_sem] theorem a1_row_ok (a : List Blk) : (e_row_ok).e [.d (.sl 3 (a.map blkD)), .d (.sl 3 [])] = some ((a.length ≤ 400) ∧ (([] : List Blk).length ≤ 400), .d (.bool (decide (a = ([] : List Blk))))) := Ent.of_app i_row_ok (a, ([] : List Blk))
@[go_sem] theorem a2_row_ok (b : List Blk) : (e_row_ok).e [.d (.sl 3 []), .d (.sl 3 (b.map blkD))] = some ((([] : List Blk).length ≤ 400) ∧ (b.length ≤ 400), .d (.bool (decide (([] : List Blk) = b)))) := Ent.of_app i_row_ok (([] : List Blk), b)
@[go_sem] theorem a3_row_ok  : (e_row_ok).e [.d (.sl 3 []), .d (.sl 3 [])] = some ((([] : List Blk).length ≤ 400) ∧ (([] : List Blk).length ≤ 400), .d (.bool (decide (([] : List Blk) = ([] : List Blk))))) := Ent.of_app i_row_ok (([] : List Blk), ([] : List Blk))

/-! ### Drop -/
theorem clone_ok (l : List Blk) (hl : l.length ≤ 400) : ACall Try.prog 59 0 [.d (.sl 3 (l.map blkD))] [] (fun r _ => r = .d (.sl 3 (l.map blkD))) := by
  refine acall_frz ?_
  refine acall_of_body Try.func59 rfl (enters Try.func59 (by kernel_rfl) rfl) Try.ntmps59 (by simp) (fun base => ?_)
  repeat' (first
    | ((first | refine aw_seq_regionT noTab (noTab_ok _) (fun K hK => ?_) | refine aw_regionT noTab (noTab_ok _) ?_ | refine aw_seq_region_drawF noTab (noTab_ok _) (show (cxOf Try.prog 0 0 0).P.follows .mixedOrders = true by kernel_rfl) (fun K hK => ?_) | refine aw_region_drawF noTab (noTab_ok _) (show (cxOf Try.prog 0 0 0).P.follows .mixedOrders = true by kernel_rfl) ?_ | refine aw_skip ?_ | refine aw_exit ?_ | refine aw_ret ?_); simp only [go_sem, ↓reduceIte, Nat.reduceAdd, Nat.reduceMul, Nat.reduceSub, Nat.reduceLT, Nat.reduceLeDiff, Nat.reduceEqDiff, Nat.reduceBEq, Int.reduceToNat, Int.reduceLT, Int.reduceLE, Int.reduceAdd, Int.reduceSub, Int.reduceMul, Int.reduceNeg, Int.reduceEq, Try.results59])
    | refine aw_seq (fun K hK => ?_)
    | refine aw_block ?_
    | refine aw_cond_t rfl ?_
    | refine aw_cond_f rfl ?_
    | refine aw_cond rfl (fun hc => ?_) (fun hc => ?_)
    | (first | (refine hK _ ?_; clear hK K) | (clear hK K; refine hK _ ?_; clear hK K) | (clear hK K; clear hK K; refine hK _ ?_; clear hK K) | (clear hK K; clear hK K; clear hK K; refine hK _ ?_; clear hK K) | (clear hK K; clear hK K; clear hK K; clear hK K; refine hK _ ?_; clear hK K))
    | ((first | refine (show AS.le _ _ from ?_) | refine (show leH _ _ from ?_) | refine (show inH _ _ from ?_)); simp only [AS.le, leT, leH, RoundK, AsgK, AV.le, AV.leL, AObj.le, inH, idsT, idsH, AV.ids, AV.idsL, AV.idsR, AObj.ids, lk, hget, go_sem, ↓reduceIte, Nat.reduceAdd, Nat.reduceMul, Nat.reduceSub, Nat.reduceLT, Nat.reduceLeDiff, Nat.reduceEqDiff, Nat.reduceBEq, Int.reduceToNat, Int.reduceLT, Int.reduceLE, Int.reduceAdd, Int.reduceSub, Int.reduceMul, Int.reduceNeg, Int.reduceEq])
    | refine fun (r2 : Rnd _) => ?_
    | refine fun (nb : Bool) (hnb : nb = true → _) => ?_
    | with_reducible refine And.intro ?_ ?_
    | exact ‹_ <+: _›
    | (refine (show drawOkF _ _ = true from ?_); kernel_rfl)
    | omega
    | refine fun (hg : (_ : Bool) = (_ : Bool)) => ?_)
  rw [hnb hc]
noncomputable def e_clone_ok : Ent Try.prog := Ent.of 59 (fun x : (List Blk) => (fun (l : List Blk) => ([.d (.sl 3 (l.map blkD))] : List AV)) x) (fun x : (List Blk) => (fun (l : List Blk) => ((l.length ≤ 400) : Prop)) x) (fun x : (List Blk) => (fun (l : List Blk) => (.d (.sl 3 (l.map blkD)) : AV)) x) (fun x hp => ⟨rfl, clone_ok x hp⟩)
theorem i_clone_ok : ∀ x y : (List Blk), (fun x : (List Blk) => (fun (l : List Blk) => ([.d (.sl 3 (l.map blkD))] : List AV)) x) x = (fun x : (List Blk) => (fun (l : List Blk) => ([.d (.sl 3 (l.map blkD))] : List AV)) x) y → x = y := by
  intro x y h
  skip
  simpa only [List.cons.injEq, AV.d.injEq, AV.agg.injEq, AV.dp.injEq, AV.fn.injEq, AV.tup.injEq, AV.asl.injEq, Int.natCast_inj, D.int.injEq, D.str.injEq, D.bool.injEq, D.sl.injEq, Prod.mk.injEq, and_true, true_and, and_assoc, map_inj blkD_inj, map_inj intD_inj, map_inj strD_inj, map_inj boolD_inj] using h
@[go_sem] theorem a0_clone_ok (l : List Blk) : (e_clone_ok).e [.d (.sl 3 (l.map blkD))] = some ((l.length ≤ 400), .d (.sl 3 (l.map blkD))) := Ent.of_app i_clone_ok (l)
@[go_sem] theorem a1_clone_ok  : (e_clone_ok).e [.d (.sl 3 [])] = some ((([] : List Blk).length ≤ 400), .d (.sl 3 (([] : List Blk).map blkD))) := Ent.of_app i_clone_ok (([] : List Blk))

theorem drop1_ok (n : Int) (d : List UInt8) (b : Bool) (at_ : Int) : ACall Try.prog 60 0 [.agg [.d (.int .i64 n), .d (.str d), .d (.bool b)], .dp [.d (.int .i64 at_)]] [] (fun r _ => r = .d (.bool (n == at_))) := by
  refine acall_of_body Try.func60 rfl (enters Try.func60 (by kernel_rfl) rfl) Try.ntmps60 (by simp) (fun base => ?_)
  repeat' (first
    | ((first | refine aw_seq_regionT noTab (noTab_ok _) (fun K hK => ?_) | refine aw_regionT noTab (noTab_ok _) ?_ | refine aw_seq_region_drawF noTab (noTab_ok _) (show (cxOf Try.prog 0 0 0).P.follows .mixedOrders = true by kernel_rfl) (fun K hK => ?_) | refine aw_region_drawF noTab (noTab_ok _) (show (cxOf Try.prog 0 0 0).P.follows .mixedOrders = true by kernel_rfl) ?_ | refine aw_skip ?_ | refine aw_exit ?_ | refine aw_ret ?_); simp only [go_sem, ↓reduceIte, Nat.reduceAdd, Nat.reduceMul, Nat.reduceSub, Nat.reduceLT, Nat.reduceLeDiff, Nat.reduceEqDiff, Nat.reduceBEq, Int.reduceToNat, Int.reduceLT, Int.reduceLE, Int.reduceAdd, Int.reduceSub, Int.reduceMul, Int.reduceNeg, Int.reduceEq, Try.results60])
    | refine aw_seq (fun K hK => ?_)
    | refine aw_block ?_
    | refine aw_cond_t rfl ?_
    | refine aw_cond_f rfl ?_
    | refine aw_cond rfl (fun hc => ?_) (fun hc => ?_)
    | (first | (refine hK _ ?_; clear hK K) | (clear hK K; refine hK _ ?_; clear hK K) | (clear hK K; clear hK K; refine hK _ ?_; clear hK K) | (clear hK K; clear hK K; clear hK K; refine hK _ ?_; clear hK K) | (clear hK K; clear hK K; clear hK K; clear hK K; refine hK _ ?_; clear hK K))
    | ((first | refine (show AS.le _ _ from ?_) | refine (show leH _ _ from ?_) | refine (show inH _ _ from ?_)); simp only [AS.le, leT, leH, RoundK, AsgK, AV.le, AV.leL, AObj.le, inH, idsT, idsH, AV.ids, AV.idsL, AV.idsR, AObj.ids, lk, hget, go_sem, ↓reduceIte, Nat.reduceAdd, Nat.reduceMul, Nat.reduceSub, Nat.reduceLT, Nat.reduceLeDiff, Nat.reduceEqDiff, Nat.reduceBEq, Int.reduceToNat, Int.reduceLT, Int.reduceLE, Int.reduceAdd, Int.reduceSub, Int.reduceMul, Int.reduceNeg, Int.reduceEq])
    | refine fun (r2 : Rnd _) => ?_
    | refine fun (nb : Bool) (hnb : nb = true → _) => ?_
    | with_reducible refine And.intro ?_ ?_
    | exact ‹_ <+: _›
    | (refine (show drawOkF _ _ = true from ?_); kernel_rfl)
    | omega
    | refine fun (hg : (_ : Bool) = (_ : Bool)) => ?_)
noncomputable def e_drop1_ok : Ent Try.prog := Ent.of 60 (fun x : (Int) × (List UInt8) × (Bool) × (Int) => (fun (n : Int) (d : List UInt8) (b : Bool) (at_ : Int) => ([.agg [.d (.int .i64 n), .d (.str d), .d (.bool b)], .dp [.d (.int .i64 at_)]] : List AV)) x.1 x.2.1 x.2.2.1 x.2.2.2) (fun x : (Int) × (List UInt8) × (Bool) × (Int) => (fun (n : Int) (d : List UInt8) (b : Bool) (at_ : Int) => (True : Prop)) x.1 x.2.1 x.2.2.1 x.2.2.2) (fun x : (Int) × (List UInt8) × (Bool) × (Int) => (fun (n : Int) (d : List UInt8) (b : Bool) (at_ : Int) => (.d (.bool (n == at_)) : AV)) x.1 x.2.1 x.2.2.1 x.2.2.2) (fun x hp => ⟨rfl, drop1_ok x.1 x.2.1 x.2.2.1 x.2.2.2⟩)
theorem i_drop1_ok : ∀ x y : (Int) × (List UInt8) × (Bool) × (Int), (fun x : (Int) × (List UInt8) × (Bool) × (Int) => (fun (n : Int) (d : List UInt8) (b : Bool) (at_ : Int) => ([.agg [.d (.int .i64 n), .d (.str d), .d (.bool b)], .dp [.d (.int .i64 at_)]] : List AV)) x.1 x.2.1 x.2.2.1 x.2.2.2) x = (fun x : (Int) × (List UInt8) × (Bool) × (Int) => (fun (n : Int) (d : List UInt8) (b : Bool) (at_ : Int) => ([.agg [.d (.int .i64 n), .d (.str d), .d (.bool b)], .dp [.d (.int .i64 at_)]] : List AV)) x.1 x.2.1 x.2.2.1 x.2.2.2) y → x = y := by
  intro x y h
  obtain ⟨_, _, _, _⟩ := x
  obtain ⟨_, _, _, _⟩ := y
  simpa only [List.cons.injEq, AV.d.injEq, AV.agg.injEq, AV.dp.injEq, AV.fn.injEq, AV.tup.injEq, AV.asl.injEq, Int.natCast_inj, D.int.injEq, D.str.injEq, D.bool.injEq, D.sl.injEq, Prod.mk.injEq, and_true, true_and, and_assoc, map_inj blkD_inj, map_inj intD_inj, map_inj strD_inj, map_inj boolD_inj] using h
@[go_sem] theorem a0_drop1_ok (n : Int) (d : List UInt8) (b : Bool) (at_ : Int) : (e_drop1_ok).e [.agg [.d (.int .i64 n), .d (.str d), .d (.bool b)], .dp [.d (.int .i64 at_)]] = some (True, .d (.bool (n == at_))) := Ent.of_app i_drop1_ok (n, d, b, at_)
noncomputable def tabDr : Tab := tabOf [e_drop1_ok]
theorem tabDr_ok : TabOk Try.prog tabDr := tabOf_ok _
@[go_sem] theorem tabDr_drop1_ok (args : List AV) : tabDr 60 args = (e_drop1_ok).e args := rfl

theorem indexFuncD_ok (l : List Blk) (at_ : Int) (hl : l.length ≤ 300) : ACall Try.prog 63 0 [.d (.sl 3 (l.map blkD)), .fn (.func 60) [] [.dp [.d (.int .i64 at_)]]] [] (fun r _ => r = .d (.int .i64 (findFrom at_ l 0))) := by
  refine acall_of_body Try.func63 rfl (enters Try.func63 (by kernel_rfl) rfl) Try.ntmps63 (by simp) (fun base => ?_)
  repeat' (first
    | ((first | refine aw_seq_regionT noTab (noTab_ok _) (fun K hK => ?_) | refine aw_regionT noTab (noTab_ok _) ?_ | refine aw_seq_region_drawF noTab (noTab_ok _) (show (cxOf Try.prog 0 0 0).P.follows .mixedOrders = true by kernel_rfl) (fun K hK => ?_) | refine aw_region_drawF noTab (noTab_ok _) (show (cxOf Try.prog 0 0 0).P.follows .mixedOrders = true by kernel_rfl) ?_ | refine aw_skip ?_ | refine aw_exit ?_ | refine aw_ret ?_); simp only [go_sem, ↓reduceIte, Nat.reduceAdd, Nat.reduceMul, Nat.reduceSub, Nat.reduceLT, Nat.reduceLeDiff, Nat.reduceEqDiff, Nat.reduceBEq, Int.reduceToNat, Int.reduceLT, Int.reduceLE, Int.reduceAdd, Int.reduceSub, Int.reduceMul, Int.reduceNeg, Int.reduceEq, Try.results63])
    | refine aw_seq (fun K hK => ?_)
    | refine aw_block ?_
    | refine aw_cond_t rfl ?_
    | refine aw_cond_f rfl ?_
    | refine aw_cond rfl (fun hc => ?_) (fun hc => ?_)
    | (first | (refine hK _ ?_; clear hK K) | (clear hK K; refine hK _ ?_; clear hK K) | (clear hK K; clear hK K; refine hK _ ?_; clear hK K) | (clear hK K; clear hK K; clear hK K; refine hK _ ?_; clear hK K) | (clear hK K; clear hK K; clear hK K; clear hK K; refine hK _ ?_; clear hK K))
    | ((first | refine (show AS.le _ _ from ?_) | refine (show leH _ _ from ?_) | refine (show inH _ _ from ?_)); simp only [AS.le, leT, leH, RoundK, AsgK, AV.le, AV.leL, AObj.le, inH, idsT, idsH, AV.ids, AV.idsL, AV.idsR, AObj.ids, lk, hget, go_sem, ↓reduceIte, Nat.reduceAdd, Nat.reduceMul, Nat.reduceSub, Nat.reduceLT, Nat.reduceLeDiff, Nat.reduceEqDiff, Nat.reduceBEq, Int.reduceToNat, Int.reduceLT, Int.reduceLE, Int.reduceAdd, Int.reduceSub, Int.reduceMul, Int.reduceNeg, Int.reduceEq])
    | refine fun (r2 : Rnd _) => ?_
    | refine fun (nb : Bool) (hnb : nb = true → _) => ?_
    | with_reducible refine And.intro ?_ ?_
    | exact ‹_ <+: _›
    | (refine (show drawOkF _ _ = true from ?_); kernel_rfl)
    | omega
    | refine fun (hg : (_ : Bool) = (_ : Bool)) => ?_)
  refine aw_loop (fun q : Dst l at_ => ⟨[(0, true, .d (.sl 3 (l.map blkD))), (1, true, .fn (.func 60) [] [.dp [.d (.int .i64 at_)]]), (6, true, .d (.sl 3 (l.map blkD))), (7, true, .d (.int .i64 l.length)), (8, true, .d (.int .i64 q.1))], [], some []⟩) (fun q => l.length - q.1) ⟨0, Nat.zero_le _, rfl⟩ (by simp only [AS.le, leT, leH, RoundK, AsgK, AV.le, AV.leL, AObj.le, inH, idsT, idsH, AV.ids, AV.idsL, AV.idsR, AObj.ids, lk, hget, go_sem, ↓reduceIte, Nat.reduceAdd, Nat.reduceMul, Nat.reduceSub, Nat.reduceLT, Nat.reduceLeDiff, Nat.reduceEqDiff, Nat.reduceBEq, Int.reduceToNat, Int.reduceLT, Int.reduceLE, Int.reduceAdd, Int.reduceSub, Int.reduceMul, Int.reduceNeg, Int.reduceEq]; rfl) (fun q => ?_)
  obtain ⟨i, hi, hf⟩ := q
  simp only at hi hf ⊢
  rcases at_cases blkD l i hi with ⟨⟨m, d, b⟩, hq, hlt, hcmp, hrow, hdr, htk⟩ | ⟨hend, hcmp⟩
  · simp only [blkD] at hrow
    repeat' (first
    | ((first | refine aw_seq_regionT tabDr (tabDr_ok) (fun K hK => ?_) | refine aw_regionT tabDr (tabDr_ok) ?_ | refine aw_seq_region_drawF tabDr (tabDr_ok) (show (cxOf Try.prog 0 0 0).P.follows .mixedOrders = true by kernel_rfl) (fun K hK => ?_) | refine aw_region_drawF tabDr (tabDr_ok) (show (cxOf Try.prog 0 0 0).P.follows .mixedOrders = true by kernel_rfl) ?_ | refine aw_skip ?_ | refine aw_exit ?_ | refine aw_ret ?_); simp only [go_sem, ↓reduceIte, Nat.reduceAdd, Nat.reduceMul, Nat.reduceSub, Nat.reduceLT, Nat.reduceLeDiff, Nat.reduceEqDiff, Nat.reduceBEq, Int.reduceToNat, Int.reduceLT, Int.reduceLE, Int.reduceAdd, Int.reduceSub, Int.reduceMul, Int.reduceNeg, Int.reduceEq, hcmp, hrow, Try.results63])
    | refine aw_seq (fun K hK => ?_)
    | refine aw_block ?_
    | refine aw_cond_t rfl ?_
    | refine aw_cond_f rfl ?_
    | refine aw_cond rfl (fun hc => ?_) (fun hc => ?_)
    | (first | (refine hK _ ?_; clear hK K) | (clear hK K; refine hK _ ?_; clear hK K) | (clear hK K; clear hK K; refine hK _ ?_; clear hK K) | (clear hK K; clear hK K; clear hK K; refine hK _ ?_; clear hK K) | (clear hK K; clear hK K; clear hK K; clear hK K; refine hK _ ?_; clear hK K))
    | ((first | refine (show AS.le _ _ from ?_) | refine (show leH _ _ from ?_) | refine (show inH _ _ from ?_)); simp only [AS.le, leT, leH, RoundK, AsgK, AV.le, AV.leL, AObj.le, inH, idsT, idsH, AV.ids, AV.idsL, AV.idsR, AObj.ids, lk, hget, go_sem, ↓reduceIte, Nat.reduceAdd, Nat.reduceMul, Nat.reduceSub, Nat.reduceLT, Nat.reduceLeDiff, Nat.reduceEqDiff, Nat.reduceBEq, Int.reduceToNat, Int.reduceLT, Int.reduceLE, Int.reduceAdd, Int.reduceSub, Int.reduceMul, Int.reduceNeg, Int.reduceEq, hcmp, hrow])
    | refine fun (r2 : Rnd _) => ?_
    | refine fun (nb : Bool) (hnb : nb = true → _) => ?_
    | with_reducible refine And.intro ?_ ?_
    | exact ‹_ <+: _›
    | (refine (show drawOkF _ _ = true from ?_); kernel_rfl)
    | omega
    | refine fun (hg : (_ : Bool) = (_ : Bool)) => ?_)
    · rw [hf, hdr, findFrom, if_pos (by simpa using hc)]
    · exact ⟨⟨i + 1, by omega, by rw [hf, hdr, findFrom, if_neg (by simpa using hc)]⟩, by rw [wrap_suc (by omega)]; simp only [AS.le, leT, leH, RoundK, AsgK, AV.le, AV.leL, AObj.le, inH, idsT, idsH, AV.ids, AV.idsL, AV.idsR, AObj.ids, lk, hget, go_sem, ↓reduceIte, Nat.reduceAdd, Nat.reduceMul, Nat.reduceSub, Nat.reduceLT, Nat.reduceLeDiff, Nat.reduceEqDiff, Nat.reduceBEq, Int.reduceToNat, Int.reduceLT, Int.reduceLE, Int.reduceAdd, Int.reduceSub, Int.reduceMul, Int.reduceNeg, Int.reduceEq], by show l.length - (i + 1) < l.length - i; omega⟩
  · repeat' (first
    | ((first | refine aw_seq_regionT noTab (noTab_ok _) (fun K hK => ?_) | refine aw_regionT noTab (noTab_ok _) ?_ | refine aw_seq_region_drawF noTab (noTab_ok _) (show (cxOf Try.prog 0 0 0).P.follows .mixedOrders = true by kernel_rfl) (fun K hK => ?_) | refine aw_region_drawF noTab (noTab_ok _) (show (cxOf Try.prog 0 0 0).P.follows .mixedOrders = true by kernel_rfl) ?_ | refine aw_skip ?_ | refine aw_exit ?_ | refine aw_ret ?_); simp only [go_sem, ↓reduceIte, Nat.reduceAdd, Nat.reduceMul, Nat.reduceSub, Nat.reduceLT, Nat.reduceLeDiff, Nat.reduceEqDiff, Nat.reduceBEq, Int.reduceToNat, Int.reduceLT, Int.reduceLE, Int.reduceAdd, Int.reduceSub, Int.reduceMul, Int.reduceNeg, Int.reduceEq, hcmp, Try.results63])
    | refine aw_seq (fun K hK => ?_)
    | refine aw_block ?_
    | refine aw_cond_t rfl ?_
    | refine aw_cond_f rfl ?_
    | refine aw_cond rfl (fun hc => ?_) (fun hc => ?_)
    | (first | (refine hK _ ?_; clear hK K) | (clear hK K; refine hK _ ?_; clear hK K) | (clear hK K; clear hK K; refine hK _ ?_; clear hK K) | (clear hK K; clear hK K; clear hK K; refine hK _ ?_; clear hK K) | (clear hK K; clear hK K; clear hK K; clear hK K; refine hK _ ?_; clear hK K))
    | ((first | refine (show AS.le _ _ from ?_) | refine (show leH _ _ from ?_) | refine (show inH _ _ from ?_)); simp only [AS.le, leT, leH, RoundK, AsgK, AV.le, AV.leL, AObj.le, inH, idsT, idsH, AV.ids, AV.idsL, AV.idsR, AObj.ids, lk, hget, go_sem, ↓reduceIte, Nat.reduceAdd, Nat.reduceMul, Nat.reduceSub, Nat.reduceLT, Nat.reduceLeDiff, Nat.reduceEqDiff, Nat.reduceBEq, Int.reduceToNat, Int.reduceLT, Int.reduceLE, Int.reduceAdd, Int.reduceSub, Int.reduceMul, Int.reduceNeg, Int.reduceEq, hcmp])
    | refine fun (r2 : Rnd _) => ?_
    | refine fun (nb : Bool) (hnb : nb = true → _) => ?_
    | with_reducible refine And.intro ?_ ?_
    | exact ‹_ <+: _›
    | (refine (show drawOkF _ _ = true from ?_); kernel_rfl)
    | omega
    | refine fun (hg : (_ : Bool) = (_ : Bool)) => ?_)
    rw [hf, hend, List.drop_length]
    rfl
noncomputable def e_indexFuncD_ok : Ent Try.prog := Ent.of 63 (fun x : (List Blk) × (Int) => (fun (l : List Blk) (at_ : Int) => ([.d (.sl 3 (l.map blkD)), .fn (.func 60) [] [.dp [.d (.int .i64 at_)]]] : List AV)) x.1 x.2) (fun x : (List Blk) × (Int) => (fun (l : List Blk) (at_ : Int) => ((l.length ≤ 300) : Prop)) x.1 x.2) (fun x : (List Blk) × (Int) => (fun (l : List Blk) (at_ : Int) => (.d (.int .i64 (findFrom at_ l 0)) : AV)) x.1 x.2) (fun x hp => ⟨rfl, indexFuncD_ok x.1 x.2 hp⟩)
theorem i_indexFuncD_ok : ∀ x y : (List Blk) × (Int), (fun x : (List Blk) × (Int) => (fun (l : List Blk) (at_ : Int) => ([.d (.sl 3 (l.map blkD)), .fn (.func 60) [] [.dp [.d (.int .i64 at_)]]] : List AV)) x.1 x.2) x = (fun x : (List Blk) × (Int) => (fun (l : List Blk) (at_ : Int) => ([.d (.sl 3 (l.map blkD)), .fn (.func 60) [] [.dp [.d (.int .i64 at_)]]] : List AV)) x.1 x.2) y → x = y := by
  intro x y h
  obtain ⟨_, _⟩ := x
  obtain ⟨_, _⟩ := y
  simpa only [List.cons.injEq, AV.d.injEq, AV.agg.injEq, AV.dp.injEq, AV.fn.injEq, AV.tup.injEq, AV.asl.injEq, Int.natCast_inj, D.int.injEq, D.str.injEq, D.bool.injEq, D.sl.injEq, Prod.mk.injEq, and_true, true_and, and_assoc, map_inj blkD_inj, map_inj intD_inj, map_inj strD_inj, map_inj boolD_inj] using h
@[go_sem] theorem a0_indexFuncD_ok (l : List Blk) (at_ : Int) : (e_indexFuncD_ok).e [.d (.sl 3 (l.map blkD)), .fn (.func 60) [] [.dp [.d (.int .i64 at_)]]] = some ((l.length ≤ 300), .d (.int .i64 (findFrom at_ l 0))) := Ent.of_app i_indexFuncD_ok (l, at_)
@[go_sem] theorem a1_indexFuncD_ok (at_ : Int) : (e_indexFuncD_ok).e [.d (.sl 3 []), .fn (.func 60) [] [.dp [.d (.int .i64 at_)]]] = some ((([] : List Blk).length ≤ 300), .d (.int .i64 (findFrom at_ ([] : List Blk) 0))) := Ent.of_app i_indexFuncD_ok (([] : List Blk), at_)
end Go.Aw
