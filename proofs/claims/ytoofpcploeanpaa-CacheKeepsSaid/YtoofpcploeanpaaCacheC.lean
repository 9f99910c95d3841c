/-
  front and without: a row with a thing first, without another.
-/
import Derived.Test.YtoofpcploeanpaaCacheB
--new
namespace Go.Aw
set_option maxRecDepth 100000
set_option linter.unusedSimpArgs false
set_option linter.unusedVariables false
open Go Go.Proofs

/-- All but the one at a place. -/
def withoutFrom (k : Int) : List Blk → Nat → List Blk
  | [], _ => []
  | q :: r, i => if (i : Int) ≠ k then q :: withoutFrom k r (i + 1) else withoutFrom k r (i + 1)

theorem withoutFrom_len (k : Int) : ∀ (l : List Blk) (i : Nat), (withoutFrom k l i).length ≤ l.length
  | [], _ => Nat.le_refl _
  | q :: r, i => by
    have := withoutFrom_len k r (i + 1)
    simp only [withoutFrom]
    split <;> simp <;> omega

abbrev Wst (l : List Blk) (k : Int) (hd : List Blk) := { q : Nat × List Blk // q.1 ≤ l.length ∧ q.2 ++ withoutFrom k (l.drop q.1) q.1 = hd ++ withoutFrom k l 0 ∧ q.2.length ≤ hd.length + q.1 }

theorem front_ok (l : List Blk) (n : Int) (d : List UInt8) (b : Bool) (k : Int) (hl : l.length ≤ 300) : ACall Try.prog 51 0 [.d (.sl 3 (l.map blkD)), .agg [.d (.int .i64 n), .d (.str d), .d (.bool b)], .d (.int .i64 k)] [] (fun r _ => r = .d (.sl 3 (((n, d, b) :: withoutFrom k l 0).map blkD))) := by
  refine acall_of_body Try.func51 rfl (enters Try.func51 (by kernel_rfl) rfl) Try.ntmps51 (by simp) (fun base => ?_)
  repeat' (first
    | ((first | refine aw_seq_regionT noTab (noTab_ok _) (fun K hK => ?_) | refine aw_regionT noTab (noTab_ok _) ?_ | refine aw_seq_region_drawF noTab (noTab_ok _) (show (cxOf Try.prog 0 0 0).P.follows .mixedOrders = true by kernel_rfl) (fun K hK => ?_) | refine aw_region_drawF noTab (noTab_ok _) (show (cxOf Try.prog 0 0 0).P.follows .mixedOrders = true by kernel_rfl) ?_ | refine aw_skip ?_ | refine aw_exit ?_ | refine aw_ret ?_); simp only [go_sem, ↓reduceIte, Nat.reduceAdd, Nat.reduceMul, Nat.reduceSub, Nat.reduceLT, Nat.reduceLeDiff, Nat.reduceEqDiff, Nat.reduceBEq, Int.reduceToNat, Int.reduceLT, Int.reduceLE, Int.reduceAdd, Int.reduceSub, Int.reduceMul, Int.reduceNeg, Int.reduceEq, Try.results51])
    | refine aw_seq (fun K hK => ?_)
    | refine aw_block ?_
    | refine aw_cond_t rfl ?_
    | refine aw_cond_f rfl ?_
    | refine aw_cond rfl (fun hc => ?_) (fun hc => ?_)
    | (first | (refine hK _ ?_; clear hK K) | (clear hK K; refine hK _ ?_; clear hK K) | (clear hK K; clear hK K; refine hK _ ?_; clear hK K) | (clear hK K; clear hK K; clear hK K; refine hK _ ?_; clear hK K) | (clear hK K; clear hK K; clear hK K; clear hK K; refine hK _ ?_; clear hK K))
    | ((first | refine (show AS.le _ _ from ?_) | refine (show leH _ _ from ?_) | refine (show inH _ _ from ?_)); simp only [AS.le, leT, leH, RoundK, AsgK, AV.le, AV.leL, AObj.le, inH, idsT, idsH, AV.ids, AV.idsL, AV.idsR, AObj.ids, lk, hget, go_sem, ↓reduceIte, Nat.reduceAdd, Nat.reduceMul, Nat.reduceSub, Nat.reduceLT, Nat.reduceLeDiff, Nat.reduceEqDiff, Nat.reduceBEq, Int.reduceToNat, Int.reduceLT, Int.reduceLE, Int.reduceAdd, Int.reduceSub, Int.reduceMul, Int.reduceNeg, Int.reduceEq])
    | refine fun (r2 : Rnd _) => ?_
    | refine fun (nb : Bool) (hnb : nb = true → _) => ?_
    | with_reducible refine And.intro ?_ ?_
    | exact ‹_ <+: _›
    | (refine (show drawOkF _ _ = true from ?_); kernel_rfl)
    | omega
    | refine fun (hg : (_ : Bool) = (_ : Bool)) => ?_)
  refine aw_loop (fun q : Wst l k [(n, d, b)] => ⟨[(2, true, .d (.int .i64 k)), (7, true, .osl 1 3 q.1.2.length 0 q.1.2.length), (12, true, .d (.sl 3 (l.map blkD))), (13, true, .d (.int .i64 l.length)), (14, true, .d (.int .i64 q.1.1))], [(1, .arr 3 (q.1.2.map blkD))], some []⟩) (fun q => l.length - q.1.1) ⟨(0, [(n, d, b)]), Nat.zero_le _, rfl, Nat.le_refl _⟩ (by simp only [AS.le, leT, leH, RoundK, AsgK, AV.le, AV.leL, AObj.le, inH, idsT, idsH, AV.ids, AV.idsL, AV.idsR, AObj.ids, lk, hget, go_sem, ↓reduceIte, Nat.reduceAdd, Nat.reduceMul, Nat.reduceSub, Nat.reduceLT, Nat.reduceLeDiff, Nat.reduceEqDiff, Nat.reduceBEq, Int.reduceToNat, Int.reduceLT, Int.reduceLE, Int.reduceAdd, Int.reduceSub, Int.reduceMul, Int.reduceNeg, Int.reduceEq]; simp [blkD]) (fun q => ?_)
  obtain ⟨⟨i, acc⟩, hi, hf, hal⟩ := q
  simp only at hi hf hal ⊢
  rcases at_cases blkD l i hi with ⟨⟨m, d', b'⟩, hq, hlt, hcmp, hrow, hdr, htk⟩ | ⟨hend, hcmp⟩
  · simp only [blkD] at hrow
    simp only [List.length_cons, List.length_nil] at hal
    repeat' (first
    | ((first | refine aw_seq_regionT noTab (noTab_ok _) (fun K hK => ?_) | refine aw_regionT noTab (noTab_ok _) ?_ | refine aw_seq_region_drawF noTab (noTab_ok _) (show (cxOf Try.prog 0 0 0).P.follows .mixedOrders = true by kernel_rfl) (fun K hK => ?_) | refine aw_region_drawF noTab (noTab_ok _) (show (cxOf Try.prog 0 0 0).P.follows .mixedOrders = true by kernel_rfl) ?_ | refine aw_skip ?_ | refine aw_exit ?_ | refine aw_ret ?_); simp only [go_sem, ↓reduceIte, Nat.reduceAdd, Nat.reduceMul, Nat.reduceSub, Nat.reduceLT, Nat.reduceLeDiff, Nat.reduceEqDiff, Nat.reduceBEq, Int.reduceToNat, Int.reduceLT, Int.reduceLE, Int.reduceAdd, Int.reduceSub, Int.reduceMul, Int.reduceNeg, Int.reduceEq, hcmp, hrow, Try.results51])
    | refine aw_seq (fun K hK => ?_)
    | refine aw_block ?_
    | refine aw_cond_t rfl ?_
    | refine aw_cond_f rfl ?_
    | refine aw_cond rfl (fun hc => ?_) (fun hc => ?_)
    | (first | (refine hK _ ?_; clear hK K) | (clear hK K; refine hK _ ?_; clear hK K) | (clear hK K; clear hK K; refine hK _ ?_; clear hK K) | (clear hK K; clear hK K; clear hK K; refine hK _ ?_; clear hK K) | (clear hK K; clear hK K; clear hK K; clear hK K; refine hK _ ?_; clear hK K))
    | ((first | refine (show AS.le _ _ from ?_) | refine (show leH _ _ from ?_) | refine (show inH _ _ from ?_)); simp only [AS.le, leT, leH, RoundK, AsgK, AV.le, AV.leL, AObj.le, inH, idsT, idsH, AV.ids, AV.idsL, AV.idsR, AObj.ids, lk, hget, go_sem, ↓reduceIte, Nat.reduceAdd, Nat.reduceMul, Nat.reduceSub, Nat.reduceLT, Nat.reduceLeDiff, Nat.reduceEqDiff, Nat.reduceBEq, Int.reduceToNat, Int.reduceLT, Int.reduceLE, Int.reduceAdd, Int.reduceSub, Int.reduceMul, Int.reduceNeg, Int.reduceEq, hcmp, hrow])
    | refine fun (r2 : Rnd _) => ?_
    | refine fun (nb : Bool) (hnb : nb = true → _) => ?_
    | with_reducible refine And.intro ?_ ?_
    | exact ‹_ <+: _›
    | (refine (show drawOkF _ _ = true from ?_); kernel_rfl)
    | omega
    | refine fun (hg : (_ : Bool) = (_ : Bool)) => ?_)
    · exact ⟨⟨(i + 1, acc ++ [(m, d', b')]), by omega, by rw [← hf, hdr, withoutFrom, if_pos (by simpa using hc)]; simp, by simp; omega⟩, by rw [wrap_suc (by omega)]; simp only [AS.le, leT, leH, RoundK, AsgK, AV.le, AV.leL, AObj.le, inH, idsT, idsH, AV.ids, AV.idsL, AV.idsR, AObj.ids, lk, hget, go_sem, ↓reduceIte, Nat.reduceAdd, Nat.reduceMul, Nat.reduceSub, Nat.reduceLT, Nat.reduceLeDiff, Nat.reduceEqDiff, Nat.reduceBEq, Int.reduceToNat, Int.reduceLT, Int.reduceLE, Int.reduceAdd, Int.reduceSub, Int.reduceMul, Int.reduceNeg, Int.reduceEq]; simp [blkD], by show l.length - (i + 1) < l.length - i; omega⟩
    · exact ⟨⟨(i + 1, acc), by omega, by rw [← hf, hdr, withoutFrom, if_neg (by simpa using hc)], by simp; omega⟩, by rw [wrap_suc (by omega)]; simp only [AS.le, leT, leH, RoundK, AsgK, AV.le, AV.leL, AObj.le, inH, idsT, idsH, AV.ids, AV.idsL, AV.idsR, AObj.ids, lk, hget, go_sem, ↓reduceIte, Nat.reduceAdd, Nat.reduceMul, Nat.reduceSub, Nat.reduceLT, Nat.reduceLeDiff, Nat.reduceEqDiff, Nat.reduceBEq, Int.reduceToNat, Int.reduceLT, Int.reduceLE, Int.reduceAdd, Int.reduceSub, Int.reduceMul, Int.reduceNeg, Int.reduceEq], by show l.length - (i + 1) < l.length - i; omega⟩
  · refine aw_freeze 1 rfl ?_; simp only [go_sem, ↓reduceIte, Nat.reduceAdd, Nat.reduceMul, Nat.reduceSub, Nat.reduceLT, Nat.reduceLeDiff, Nat.reduceEqDiff, Nat.reduceBEq, Int.reduceToNat, Int.reduceLT, Int.reduceLE, Int.reduceAdd, Int.reduceSub, Int.reduceMul, Int.reduceNeg, Int.reduceEq]
    repeat' (first
    | ((first | refine aw_seq_regionT noTab (noTab_ok _) (fun K hK => ?_) | refine aw_regionT noTab (noTab_ok _) ?_ | refine aw_seq_region_drawF noTab (noTab_ok _) (show (cxOf Try.prog 0 0 0).P.follows .mixedOrders = true by kernel_rfl) (fun K hK => ?_) | refine aw_region_drawF noTab (noTab_ok _) (show (cxOf Try.prog 0 0 0).P.follows .mixedOrders = true by kernel_rfl) ?_ | refine aw_skip ?_ | refine aw_exit ?_ | refine aw_ret ?_); simp only [go_sem, ↓reduceIte, Nat.reduceAdd, Nat.reduceMul, Nat.reduceSub, Nat.reduceLT, Nat.reduceLeDiff, Nat.reduceEqDiff, Nat.reduceBEq, Int.reduceToNat, Int.reduceLT, Int.reduceLE, Int.reduceAdd, Int.reduceSub, Int.reduceMul, Int.reduceNeg, Int.reduceEq, hcmp, Try.results51])
    | refine aw_seq (fun K hK => ?_)
    | refine aw_block ?_
    | refine aw_cond_t rfl ?_
    | refine aw_cond_f rfl ?_
    | refine aw_cond rfl (fun hc => ?_) (fun hc => ?_)
    | (first | (refine hK _ ?_; clear hK K) | (clear hK K; refine hK _ ?_; clear hK K) | (clear hK K; clear hK K; refine hK _ ?_; clear hK K) | (clear hK K; clear hK K; clear hK K; refine hK _ ?_; clear hK K) | (clear hK K; clear hK K; clear hK K; clear hK K; refine hK _ ?_; clear hK K))
    | ((first | refine (show AS.le _ _ from ?_) | refine (show leH _ _ from ?_) | refine (show inH _ _ from ?_)); simp only [AS.le, leT, leH, RoundK, AsgK, AV.le, AV.leL, AObj.le, inH, idsT, idsH, AV.ids, AV.idsL, AV.idsR, AObj.ids, lk, hget, go_sem, ↓reduceIte, Nat.reduceAdd, Nat.reduceMul, Nat.reduceSub, Nat.reduceLT, Nat.reduceLeDiff, Nat.reduceEqDiff, Nat.reduceBEq, Int.reduceToNat, Int.reduceLT, Int.reduceLE, Int.reduceAdd, Int.reduceSub, Int.reduceMul, Int.reduceNeg, Int.reduceEq, hcmp])
    | refine fun (r2 : Rnd _) => ?_
    | refine fun (nb : Bool) (hnb : nb = true → _) => ?_
    | with_reducible refine And.intro ?_ ?_
    | exact ‹_ <+: _›
    | (refine (show drawOkF _ _ = true from ?_); kernel_rfl)
    | omega
    | refine fun (hg : (_ : Bool) = (_ : Bool)) => ?_)
    rw [hend, List.drop_length] at hf
    simp only [withoutFrom, List.append_nil] at hf
    rw [hf]
    rfl
noncomputable def e_front_ok : Ent Try.prog := Ent.of 51 (fun x : (List Blk) × (Int) × (List UInt8) × (Bool) × (Int) => (fun (l : List Blk) (n : Int) (d : List UInt8) (b : Bool) (k : Int) => ([.d (.sl 3 (l.map blkD)), .agg [.d (.int .i64 n), .d (.str d), .d (.bool b)], .d (.int .i64 k)] : List AV)) x.1 x.2.1 x.2.2.1 x.2.2.2.1 x.2.2.2.2) (fun x : (List Blk) × (Int) × (List UInt8) × (Bool) × (Int) => (fun (l : List Blk) (n : Int) (d : List UInt8) (b : Bool) (k : Int) => ((l.length ≤ 300) : Prop)) x.1 x.2.1 x.2.2.1 x.2.2.2.1 x.2.2.2.2) (fun x : (List Blk) × (Int) × (List UInt8) × (Bool) × (Int) => (fun (l : List Blk) (n : Int) (d : List UInt8) (b : Bool) (k : Int) => (.d (.sl 3 (((n, d, b) :: withoutFrom k l 0).map blkD)) : AV)) x.1 x.2.1 x.2.2.1 x.2.2.2.1 x.2.2.2.2) (fun x hp => ⟨rfl, front_ok x.1 x.2.1 x.2.2.1 x.2.2.2.1 x.2.2.2.2 hp⟩)
theorem i_front_ok : ∀ x y : (List Blk) × (Int) × (List UInt8) × (Bool) × (Int), (fun x : (List Blk) × (Int) × (List UInt8) × (Bool) × (Int) => (fun (l : List Blk) (n : Int) (d : List UInt8) (b : Bool) (k : Int) => ([.d (.sl 3 (l.map blkD)), .agg [.d (.int .i64 n), .d (.str d), .d (.bool b)], .d (.int .i64 k)] : List AV)) x.1 x.2.1 x.2.2.1 x.2.2.2.1 x.2.2.2.2) x = (fun x : (List Blk) × (Int) × (List UInt8) × (Bool) × (Int) => (fun (l : List Blk) (n : Int) (d : List UInt8) (b : Bool) (k : Int) => ([.d (.sl 3 (l.map blkD)), .agg [.d (.int .i64 n), .d (.str d), .d (.bool b)], .d (.int .i64 k)] : List AV)) x.1 x.2.1 x.2.2.1 x.2.2.2.1 x.2.2.2.2) y → x = y := by
  intro x y h
  obtain ⟨_, _, _, _, _⟩ := x
  obtain ⟨_, _, _, _, _⟩ := y
  simpa only [List.cons.injEq, AV.d.injEq, AV.agg.injEq, AV.dp.injEq, AV.fn.injEq, AV.tup.injEq, AV.asl.injEq, Int.natCast_inj, D.int.injEq, D.str.injEq, D.bool.injEq, D.sl.injEq, Prod.mk.injEq, and_true, true_and, and_assoc, map_inj blkD_inj, map_inj intD_inj, map_inj strD_inj, map_inj boolD_inj] using h
@[go_sem] theorem a0_front_ok (l : List Blk) (n : Int) (d : List UInt8) (b : Bool) (k : Int) : (e_front_ok).e [.d (.sl 3 (l.map blkD)), .agg [.d (.int .i64 n), .d (.str d), .d (.bool b)], .d (.int .i64 k)] = some ((l.length ≤ 300), .d (.sl 3 (((n, d, b) :: withoutFrom k l 0).map blkD))) := Ent.of_app i_front_ok (l, n, d, b, k)
@[go_sem] theorem a1_front_ok (n : Int) (d : List UInt8) (b : Bool) (k : Int) : (e_front_ok).e [.d (.sl 3 []), .agg [.d (.int .i64 n), .d (.str d), .d (.bool b)], .d (.int .i64 k)] = some ((([] : List Blk).length ≤ 300), .d (.sl 3 (((n, d, b) :: withoutFrom k ([] : List Blk) 0).map blkD))) := Ent.of_app i_front_ok (([] : List Blk), n, d, b, k)

theorem without_ok (l : List Blk) (k : Int) (hl : l.length ≤ 300) : ACall Try.prog 57 0 [.d (.sl 3 (l.map blkD)), .d (.int .i64 k)] [] (fun r _ => r = .d (.sl 3 ((withoutFrom k l 0).map blkD))) := by
  refine acall_of_body Try.func57 rfl (enters Try.func57 (by kernel_rfl) rfl) Try.ntmps57 (by simp) (fun base => ?_)
  repeat' (first
    | ((first | refine aw_seq_regionT noTab (noTab_ok _) (fun K hK => ?_) | refine aw_regionT noTab (noTab_ok _) ?_ | refine aw_seq_region_drawF noTab (noTab_ok _) (show (cxOf Try.prog 0 0 0).P.follows .mixedOrders = true by kernel_rfl) (fun K hK => ?_) | refine aw_region_drawF noTab (noTab_ok _) (show (cxOf Try.prog 0 0 0).P.follows .mixedOrders = true by kernel_rfl) ?_ | refine aw_skip ?_ | refine aw_exit ?_ | refine aw_ret ?_); simp only [go_sem, ↓reduceIte, Nat.reduceAdd, Nat.reduceMul, Nat.reduceSub, Nat.reduceLT, Nat.reduceLeDiff, Nat.reduceEqDiff, Nat.reduceBEq, Int.reduceToNat, Int.reduceLT, Int.reduceLE, Int.reduceAdd, Int.reduceSub, Int.reduceMul, Int.reduceNeg, Int.reduceEq, Try.results57])
    | refine aw_seq (fun K hK => ?_)
    | refine aw_block ?_
    | refine aw_cond_t rfl ?_
    | refine aw_cond_f rfl ?_
    | refine aw_cond rfl (fun hc => ?_) (fun hc => ?_)
    | (first | (refine hK _ ?_; clear hK K) | (clear hK K; refine hK _ ?_; clear hK K) | (clear hK K; clear hK K; refine hK _ ?_; clear hK K) | (clear hK K; clear hK K; clear hK K; refine hK _ ?_; clear hK K) | (clear hK K; clear hK K; clear hK K; clear hK K; refine hK _ ?_; clear hK K))
    | ((first | refine (show AS.le _ _ from ?_) | refine (show leH _ _ from ?_) | refine (show inH _ _ from ?_)); simp only [AS.le, leT, leH, RoundK, AsgK, AV.le, AV.leL, AObj.le, inH, idsT, idsH, AV.ids, AV.idsL, AV.idsR, AObj.ids, lk, hget, go_sem, ↓reduceIte, Nat.reduceAdd, Nat.reduceMul, Nat.reduceSub, Nat.reduceLT, Nat.reduceLeDiff, Nat.reduceEqDiff, Nat.reduceBEq, Int.reduceToNat, Int.reduceLT, Int.reduceLE, Int.reduceAdd, Int.reduceSub, Int.reduceMul, Int.reduceNeg, Int.reduceEq])
    | refine fun (r2 : Rnd _) => ?_
    | refine fun (nb : Bool) (hnb : nb = true → _) => ?_
    | with_reducible refine And.intro ?_ ?_
    | exact ‹_ <+: _›
    | (refine (show drawOkF _ _ = true from ?_); kernel_rfl)
    | omega
    | refine fun (hg : (_ : Bool) = (_ : Bool)) => ?_)
  refine aw_adopt 5 3 rfl ?_
  refine aw_loop (fun q : Wst l k [] => ⟨[(0, true, .d (.sl 3 (l.map blkD))), (1, true, .d (.int .i64 k)), (5, true, .osl 0 3 q.1.2.length 0 q.1.2.length), (6, true, .d (.int .i64 q.1.1))], [(0, .arr 3 (q.1.2.map blkD))], some []⟩) (fun q => l.length - q.1.1) ⟨(0, []), Nat.zero_le _, rfl, Nat.le_refl _⟩ (by simp only [AS.le, leT, leH, RoundK, AsgK, AV.le, AV.leL, AObj.le, inH, idsT, idsH, AV.ids, AV.idsL, AV.idsR, AObj.ids, lk, hget, go_sem, ↓reduceIte, Nat.reduceAdd, Nat.reduceMul, Nat.reduceSub, Nat.reduceLT, Nat.reduceLeDiff, Nat.reduceEqDiff, Nat.reduceBEq, Int.reduceToNat, Int.reduceLT, Int.reduceLE, Int.reduceAdd, Int.reduceSub, Int.reduceMul, Int.reduceNeg, Int.reduceEq]; rfl) (fun q => ?_)
  obtain ⟨⟨i, acc⟩, hi, hf, hal⟩ := q
  simp only at hi hf hal ⊢
  rcases at_cases blkD l i hi with ⟨⟨m, d', b'⟩, hq, hlt, hcmp, hrow, hdr, htk⟩ | ⟨hend, hcmp⟩
  · simp only [blkD] at hrow
    simp only [List.length_nil] at hal
    repeat' (first
    | ((first | refine aw_seq_regionT noTab (noTab_ok _) (fun K hK => ?_) | refine aw_regionT noTab (noTab_ok _) ?_ | refine aw_seq_region_drawF noTab (noTab_ok _) (show (cxOf Try.prog 0 0 0).P.follows .mixedOrders = true by kernel_rfl) (fun K hK => ?_) | refine aw_region_drawF noTab (noTab_ok _) (show (cxOf Try.prog 0 0 0).P.follows .mixedOrders = true by kernel_rfl) ?_ | refine aw_skip ?_ | refine aw_exit ?_ | refine aw_ret ?_); simp only [go_sem, ↓reduceIte, Nat.reduceAdd, Nat.reduceMul, Nat.reduceSub, Nat.reduceLT, Nat.reduceLeDiff, Nat.reduceEqDiff, Nat.reduceBEq, Int.reduceToNat, Int.reduceLT, Int.reduceLE, Int.reduceAdd, Int.reduceSub, Int.reduceMul, Int.reduceNeg, Int.reduceEq, hcmp, hrow, Try.results57])
    | refine aw_seq (fun K hK => ?_)
    | refine aw_block ?_
    | refine aw_cond_t rfl ?_
    | refine aw_cond_f rfl ?_
    | refine aw_cond rfl (fun hc => ?_) (fun hc => ?_)
    | (first | (refine hK _ ?_; clear hK K) | (clear hK K; refine hK _ ?_; clear hK K) | (clear hK K; clear hK K; refine hK _ ?_; clear hK K) | (clear hK K; clear hK K; clear hK K; refine hK _ ?_; clear hK K) | (clear hK K; clear hK K; clear hK K; clear hK K; refine hK _ ?_; clear hK K))
    | ((first | refine (show AS.le _ _ from ?_) | refine (show leH _ _ from ?_) | refine (show inH _ _ from ?_)); simp only [AS.le, leT, leH, RoundK, AsgK, AV.le, AV.leL, AObj.le, inH, idsT, idsH, AV.ids, AV.idsL, AV.idsR, AObj.ids, lk, hget, go_sem, ↓reduceIte, Nat.reduceAdd, Nat.reduceMul, Nat.reduceSub, Nat.reduceLT, Nat.reduceLeDiff, Nat.reduceEqDiff, Nat.reduceBEq, Int.reduceToNat, Int.reduceLT, Int.reduceLE, Int.reduceAdd, Int.reduceSub, Int.reduceMul, Int.reduceNeg, Int.reduceEq, hcmp, hrow])
    | refine fun (r2 : Rnd _) => ?_
    | refine fun (nb : Bool) (hnb : nb = true → _) => ?_
    | with_reducible refine And.intro ?_ ?_
    | exact ‹_ <+: _›
    | (refine (show drawOkF _ _ = true from ?_); kernel_rfl)
    | omega
    | refine fun (hg : (_ : Bool) = (_ : Bool)) => ?_)
    · exact ⟨⟨(i + 1, acc ++ [(m, d', b')]), by omega, by rw [← hf, hdr, withoutFrom, if_pos (by simpa using hc)]; simp, by simp; omega⟩, by rw [wrap_suc (by omega)]; simp only [AS.le, leT, leH, RoundK, AsgK, AV.le, AV.leL, AObj.le, inH, idsT, idsH, AV.ids, AV.idsL, AV.idsR, AObj.ids, lk, hget, go_sem, ↓reduceIte, Nat.reduceAdd, Nat.reduceMul, Nat.reduceSub, Nat.reduceLT, Nat.reduceLeDiff, Nat.reduceEqDiff, Nat.reduceBEq, Int.reduceToNat, Int.reduceLT, Int.reduceLE, Int.reduceAdd, Int.reduceSub, Int.reduceMul, Int.reduceNeg, Int.reduceEq]; simp [blkD], by show l.length - (i + 1) < l.length - i; omega⟩
    · exact ⟨⟨(i + 1, acc), by omega, by rw [← hf, hdr, withoutFrom, if_neg (by simpa using hc)], by simp; omega⟩, by rw [wrap_suc (by omega)]; simp only [AS.le, leT, leH, RoundK, AsgK, AV.le, AV.leL, AObj.le, inH, idsT, idsH, AV.ids, AV.idsL, AV.idsR, AObj.ids, lk, hget, go_sem, ↓reduceIte, Nat.reduceAdd, Nat.reduceMul, Nat.reduceSub, Nat.reduceLT, Nat.reduceLeDiff, Nat.reduceEqDiff, Nat.reduceBEq, Int.reduceToNat, Int.reduceLT, Int.reduceLE, Int.reduceAdd, Int.reduceSub, Int.reduceMul, Int.reduceNeg, Int.reduceEq], by show l.length - (i + 1) < l.length - i; omega⟩
  · refine aw_freeze 0 rfl ?_; simp only [go_sem, ↓reduceIte, Nat.reduceAdd, Nat.reduceMul, Nat.reduceSub, Nat.reduceLT, Nat.reduceLeDiff, Nat.reduceEqDiff, Nat.reduceBEq, Int.reduceToNat, Int.reduceLT, Int.reduceLE, Int.reduceAdd, Int.reduceSub, Int.reduceMul, Int.reduceNeg, Int.reduceEq]
    repeat' (first
    | ((first | refine aw_seq_regionT noTab (noTab_ok _) (fun K hK => ?_) | refine aw_regionT noTab (noTab_ok _) ?_ | refine aw_seq_region_drawF noTab (noTab_ok _) (show (cxOf Try.prog 0 0 0).P.follows .mixedOrders = true by kernel_rfl) (fun K hK => ?_) | refine aw_region_drawF noTab (noTab_ok _) (show (cxOf Try.prog 0 0 0).P.follows .mixedOrders = true by kernel_rfl) ?_ | refine aw_skip ?_ | refine aw_exit ?_ | refine aw_ret ?_); simp only [go_sem, ↓reduceIte, Nat.reduceAdd, Nat.reduceMul, Nat.reduceSub, Nat.reduceLT, Nat.reduceLeDiff, Nat.reduceEqDiff, Nat.reduceBEq, Int.reduceToNat, Int.reduceLT, Int.reduceLE, Int.reduceAdd, Int.reduceSub, Int.reduceMul, Int.reduceNeg, Int.reduceEq, hcmp, Try.results57])
    | refine aw_seq (fun K hK => ?_)
    | refine aw_block ?_
    | refine aw_cond_t rfl ?_
    | refine aw_cond_f rfl ?_
    | refine aw_cond rfl (fun hc => ?_) (fun hc => ?_)
    | (first | (refine hK _ ?_; clear hK K) | (clear hK K; refine hK _ ?_; clear hK K) | (clear hK K; clear hK K; refine hK _ ?_; clear hK K) | (clear hK K; clear hK K; clear hK K; refine hK _ ?_; clear hK K) | (clear hK K; clear hK K; clear hK K; clear hK K; refine hK _ ?_; clear hK K))
    | ((first | refine (show AS.le _ _ from ?_) | refine (show leH _ _ from ?_) | refine (show inH _ _ from ?_)); simp only [AS.le, leT, leH, RoundK, AsgK, AV.le, AV.leL, AObj.le, inH, idsT, idsH, AV.ids, AV.idsL, AV.idsR, AObj.ids, lk, hget, go_sem, ↓reduceIte, Nat.reduceAdd, Nat.reduceMul, Nat.reduceSub, Nat.reduceLT, Nat.reduceLeDiff, Nat.reduceEqDiff, Nat.reduceBEq, Int.reduceToNat, Int.reduceLT, Int.reduceLE, Int.reduceAdd, Int.reduceSub, Int.reduceMul, Int.reduceNeg, Int.reduceEq, hcmp])
    | refine fun (r2 : Rnd _) => ?_
    | refine fun (nb : Bool) (hnb : nb = true → _) => ?_
    | with_reducible refine And.intro ?_ ?_
    | exact ‹_ <+: _›
    | (refine (show drawOkF _ _ = true from ?_); kernel_rfl)
    | omega
    | refine fun (hg : (_ : Bool) = (_ : Bool)) => ?_)
    rw [hend, List.drop_length] at hf
    simp only [withoutFrom, List.append_nil, List.nil_append] at hf
    rw [hf]
noncomputable def e_without_ok : Ent Try.prog := Ent.of 57 (fun x : (List Blk) × (Int) => (fun (l : List Blk) (k : Int) => ([.d (.sl 3 (l.map blkD)), .d (.int .i64 k)] : List AV)) x.1 x.2) (fun x : (List Blk) × (Int) => (fun (l : List Blk) (k : Int) => ((l.length ≤ 300) : Prop)) x.1 x.2) (fun x : (List Blk) × (Int) => (fun (l : List Blk) (k : Int) => (.d (.sl 3 ((withoutFrom k l 0).map blkD)) : AV)) x.1 x.2) (fun x hp => ⟨rfl, without_ok x.1 x.2 hp⟩)
theorem i_without_ok : ∀ x y : (List Blk) × (Int), (fun x : (List Blk) × (Int) => (fun (l : List Blk) (k : Int) => ([.d (.sl 3 (l.map blkD)), .d (.int .i64 k)] : List AV)) x.1 x.2) x = (fun x : (List Blk) × (Int) => (fun (l : List Blk) (k : Int) => ([.d (.sl 3 (l.map blkD)), .d (.int .i64 k)] : List AV)) x.1 x.2) y → x = y := by
  intro x y h
  obtain ⟨_, _⟩ := x
  obtain ⟨_, _⟩ := y
  simpa only [List.cons.injEq, AV.d.injEq, AV.agg.injEq, AV.dp.injEq, AV.fn.injEq, AV.tup.injEq, AV.asl.injEq, Int.natCast_inj, D.int.injEq, D.str.injEq, D.bool.injEq, D.sl.injEq, Prod.mk.injEq, and_true, true_and, and_assoc, map_inj blkD_inj, map_inj intD_inj, map_inj strD_inj, map_inj boolD_inj] using h
@[go_sem] theorem a0_without_ok (l : List Blk) (k : Int) : (e_without_ok).e [.d (.sl 3 (l.map blkD)), .d (.int .i64 k)] = some ((l.length ≤ 300), .d (.sl 3 ((withoutFrom k l 0).map blkD))) := Ent.of_app i_without_ok (l, k)
@[go_sem] theorem a1_without_ok (k : Int) : (e_without_ok).e [.d (.sl 3 []), .d (.int .i64 k)] = some ((([] : List Blk).length ≤ 300), .d (.sl 3 ((withoutFrom k ([] : List Blk) 0).map blkD))) := Ent.of_app i_without_ok (([] : List Blk), k)

theorem front_eq (n : Int) (d : List UInt8) (b : Bool) (k : Int) (l : List Blk) : [((n, d, b) : Blk)].map blkD ++ (withoutFrom k l 0).map blkD = ((n, d, b) :: withoutFrom k l 0).map blkD := rfl

/-- What stands at a place that find told. -/
theorem findFrom_spec (n : Int) : ∀ (l : List Blk) (i : Nat), findFrom n l i = -1 ∨ ∃ j q, findFrom n l i = ((i + j : Nat) : Int) ∧ l[j]? = some q ∧ q.1 = n
  | [], _ => .inl rfl
  | q :: r, i => by
    simp only [findFrom]
    split
    · rename_i h
      exact .inr ⟨0, q, by simp, rfl, h⟩
    · rcases findFrom_spec n r (i + 1) with h | ⟨j, q', h1, h2, h3⟩
      · exact .inl h
      · exact .inr ⟨j + 1, q', by rw [h1]; congr 1; omega, by simpa using h2, h3⟩

noncomputable def tabI : Tab := tabOf [e_cfind_ok, e_front_ok]
theorem tabI_ok : TabOk Try.prog tabI := tabOf_ok _
@[go_sem] theorem tabI_cfind_ok (args : List AV) : tabI 50 args = (e_cfind_ok).e args := rfl
@[go_sem] theorem tabI_front_ok (args : List AV) : tabI 51 args = (e_front_ok).e args := rfl
noncomputable def tabJ : Tab := tabOf [e_find_ok, e_without_ok]
theorem tabJ_ok : TabOk Try.prog tabJ := tabOf_ok _
@[go_sem] theorem tabJ_find_ok (args : List AV) : tabJ 49 args = (e_find_ok).e args := rfl
@[go_sem] theorem tabJ_without_ok (args : List AV) : tabJ 57 args = (e_without_ok).e args := rfl

/-- What Get hands back: all, that one first; its text; whether it is there. -/
def getS (l : List Blk) (n : Int) : List Blk × List UInt8 × Bool :=
  match l[(findFrom n l 0).toNat]? with
  | some q => if findFrom n l 0 < 0 then (l, [], false) else (q :: withoutFrom (findFrom n l 0) l 0, q.2.1, true)
  | none => (l, [], false)

theorem getS_none {l : List Blk} {n : Int} (h : findFrom n l 0 = -1) : getS l n = (l, [], false) := by
  unfold getS
  rw [h]
  split <;> rfl
theorem getS_some {l : List Blk} {n : Int} {j : Nat} {q : Blk} (h : findFrom n l 0 = j) (hq : l[j]? = some q) : getS l n = (q :: withoutFrom j l 0, q.2.1, true) := by
  unfold getS
  rw [h, Int.toNat_natCast, hq]
  dsimp only
  rw [if_neg (by omega)]

theorem get_ok (l : List Blk) (n : Int) (hl : l.length ≤ 300) : ACall Try.prog 35 0 [.d (.sl 3 (l.map blkD)), .d (.int .i64 n)] [] (fun r _ => r = .tup [.d (.sl 3 ((getS l n).1.map blkD)), .d (.str (getS l n).2.1), .d (.bool (getS l n).2.2)]) := by
  refine acall_frz ?_
  refine acall_of_body Try.func35 rfl (enters Try.func35 (by kernel_rfl) rfl) Try.ntmps35 (by simp) (fun base => ?_)
  rcases findFrom_spec n l 0 with h | ⟨j, ⟨m, d, b⟩, h, hq, hm⟩
  · repeat' (first
    | ((first | refine aw_seq_regionT tabI (tabI_ok) (fun K hK => ?_) | refine aw_regionT tabI (tabI_ok) ?_ | refine aw_seq_region_drawF tabI (tabI_ok) (show (cxOf Try.prog 0 0 0).P.follows .mixedOrders = true by kernel_rfl) (fun K hK => ?_) | refine aw_region_drawF tabI (tabI_ok) (show (cxOf Try.prog 0 0 0).P.follows .mixedOrders = true by kernel_rfl) ?_ | refine aw_skip ?_ | refine aw_exit ?_ | refine aw_ret ?_); simp only [go_sem, ↓reduceIte, Nat.reduceAdd, Nat.reduceMul, Nat.reduceSub, Nat.reduceLT, Nat.reduceLeDiff, Nat.reduceEqDiff, Nat.reduceBEq, Int.reduceToNat, Int.reduceLT, Int.reduceLE, Int.reduceAdd, Int.reduceSub, Int.reduceMul, Int.reduceNeg, Int.reduceEq, h, Try.results35])
    | refine aw_seq (fun K hK => ?_)
    | refine aw_block ?_
    | refine aw_cond_t rfl ?_
    | refine aw_cond_f rfl ?_
    | refine aw_cond rfl (fun hc => ?_) (fun hc => ?_)
    | (first | (refine hK _ ?_; clear hK K) | (clear hK K; refine hK _ ?_; clear hK K) | (clear hK K; clear hK K; refine hK _ ?_; clear hK K) | (clear hK K; clear hK K; clear hK K; refine hK _ ?_; clear hK K) | (clear hK K; clear hK K; clear hK K; clear hK K; refine hK _ ?_; clear hK K))
    | ((first | refine (show AS.le _ _ from ?_) | refine (show leH _ _ from ?_) | refine (show inH _ _ from ?_)); simp only [AS.le, leT, leH, RoundK, AsgK, AV.le, AV.leL, AObj.le, inH, idsT, idsH, AV.ids, AV.idsL, AV.idsR, AObj.ids, lk, hget, go_sem, ↓reduceIte, Nat.reduceAdd, Nat.reduceMul, Nat.reduceSub, Nat.reduceLT, Nat.reduceLeDiff, Nat.reduceEqDiff, Nat.reduceBEq, Int.reduceToNat, Int.reduceLT, Int.reduceLE, Int.reduceAdd, Int.reduceSub, Int.reduceMul, Int.reduceNeg, Int.reduceEq, h])
    | refine fun (r2 : Rnd _) => ?_
    | refine fun (nb : Bool) (hnb : nb = true → _) => ?_
    | with_reducible refine And.intro ?_ ?_
    | exact ‹_ <+: _›
    | (refine (show drawOkF _ _ = true from ?_); kernel_rfl)
    | omega
    | refine fun (hg : (_ : Bool) = (_ : Bool)) => ?_)
    rw [getS_none h]
  · have hrow := at_row (g := blkD) hq
    simp only [blkD] at hrow
    have hj := (List.getElem?_eq_some_iff.1 hq).1
    have hw := withoutFrom_len (j : Int) l 0
    rw [Nat.zero_add] at h
    repeat' (first
    | ((first | refine aw_seq_regionT tabI (tabI_ok) (fun K hK => ?_) | refine aw_regionT tabI (tabI_ok) ?_ | refine aw_seq_region_drawF tabI (tabI_ok) (show (cxOf Try.prog 0 0 0).P.follows .mixedOrders = true by kernel_rfl) (fun K hK => ?_) | refine aw_region_drawF tabI (tabI_ok) (show (cxOf Try.prog 0 0 0).P.follows .mixedOrders = true by kernel_rfl) ?_ | refine aw_skip ?_ | refine aw_exit ?_ | refine aw_ret ?_); simp only [go_sem, ↓reduceIte, Nat.reduceAdd, Nat.reduceMul, Nat.reduceSub, Nat.reduceLT, Nat.reduceLeDiff, Nat.reduceEqDiff, Nat.reduceBEq, Int.reduceToNat, Int.reduceLT, Int.reduceLE, Int.reduceAdd, Int.reduceSub, Int.reduceMul, Int.reduceNeg, Int.reduceEq, h, hrow, Try.results35])
    | refine aw_seq (fun K hK => ?_)
    | refine aw_block ?_
    | refine aw_cond_t rfl ?_
    | refine aw_cond_f rfl ?_
    | refine aw_cond rfl (fun hc => ?_) (fun hc => ?_)
    | (first | (refine hK _ ?_; clear hK K) | (clear hK K; refine hK _ ?_; clear hK K) | (clear hK K; clear hK K; refine hK _ ?_; clear hK K) | (clear hK K; clear hK K; clear hK K; refine hK _ ?_; clear hK K) | (clear hK K; clear hK K; clear hK K; clear hK K; refine hK _ ?_; clear hK K))
    | ((first | refine (show AS.le _ _ from ?_) | refine (show leH _ _ from ?_) | refine (show inH _ _ from ?_)); simp only [AS.le, leT, leH, RoundK, AsgK, AV.le, AV.leL, AObj.le, inH, idsT, idsH, AV.ids, AV.idsL, AV.idsR, AObj.ids, lk, hget, go_sem, ↓reduceIte, Nat.reduceAdd, Nat.reduceMul, Nat.reduceSub, Nat.reduceLT, Nat.reduceLeDiff, Nat.reduceEqDiff, Nat.reduceBEq, Int.reduceToNat, Int.reduceLT, Int.reduceLE, Int.reduceAdd, Int.reduceSub, Int.reduceMul, Int.reduceNeg, Int.reduceEq, h, hrow])
    | refine fun (r2 : Rnd _) => ?_
    | refine fun (nb : Bool) (hnb : nb = true → _) => ?_
    | with_reducible refine And.intro ?_ ?_
    | exact ‹_ <+: _›
    | (refine (show drawOkF _ _ = true from ?_); kernel_rfl)
    | omega
    | refine fun (hg : (_ : Bool) = (_ : Bool)) => ?_)
    rw [getS_some h hq]
    rfl
noncomputable def e_get_ok : Ent Try.prog := Ent.of 35 (fun x : (List Blk) × (Int) => (fun (l : List Blk) (n : Int) => ([.d (.sl 3 (l.map blkD)), .d (.int .i64 n)] : List AV)) x.1 x.2) (fun x : (List Blk) × (Int) => (fun (l : List Blk) (n : Int) => ((l.length ≤ 300) : Prop)) x.1 x.2) (fun x : (List Blk) × (Int) => (fun (l : List Blk) (n : Int) => (.tup [.d (.sl 3 ((getS l n).1.map blkD)), .d (.str (getS l n).2.1), .d (.bool (getS l n).2.2)] : AV)) x.1 x.2) (fun x hp => ⟨rfl, get_ok x.1 x.2 hp⟩)
theorem i_get_ok : ∀ x y : (List Blk) × (Int), (fun x : (List Blk) × (Int) => (fun (l : List Blk) (n : Int) => ([.d (.sl 3 (l.map blkD)), .d (.int .i64 n)] : List AV)) x.1 x.2) x = (fun x : (List Blk) × (Int) => (fun (l : List Blk) (n : Int) => ([.d (.sl 3 (l.map blkD)), .d (.int .i64 n)] : List AV)) x.1 x.2) y → x = y := by
  intro x y h
  obtain ⟨_, _⟩ := x
  obtain ⟨_, _⟩ := y
  simpa only [List.cons.injEq, AV.d.injEq, AV.agg.injEq, AV.dp.injEq, AV.fn.injEq, AV.tup.injEq, AV.asl.injEq, Int.natCast_inj, D.int.injEq, D.str.injEq, D.bool.injEq, D.sl.injEq, Prod.mk.injEq, and_true, true_and, and_assoc, map_inj blkD_inj, map_inj intD_inj, map_inj strD_inj, map_inj boolD_inj] using h
@[go_sem] theorem a0_get_ok (l : List Blk) (n : Int) : (e_get_ok).e [.d (.sl 3 (l.map blkD)), .d (.int .i64 n)] = some ((l.length ≤ 300), .tup [.d (.sl 3 ((getS l n).1.map blkD)), .d (.str (getS l n).2.1), .d (.bool (getS l n).2.2)]) := Ent.of_app i_get_ok (l, n)
@[go_sem] theorem a1_get_ok (n : Int) : (e_get_ok).e [.d (.sl 3 []), .d (.int .i64 n)] = some ((([] : List Blk).length ≤ 300), .tup [.d (.sl 3 ((getS ([] : List Blk) n).1.map blkD)), .d (.str (getS ([] : List Blk) n).2.1), .d (.bool (getS ([] : List Blk) n).2.2)]) := Ent.of_app i_get_ok (([] : List Blk), n)

theorem getRef_ok (l : List Blk) (n : Int) (hl : l.length ≤ 300) : ACall Try.prog 37 0 [.d (.sl 3 (l.map blkD)), .d (.int .i64 n)] [] (fun r _ => r = .tup [.d (.sl 3 ((getS l n).1.map blkD)), .d (.str (getS l n).2.1), .d (.bool (getS l n).2.2)]) := by
  refine acall_frz ?_
  refine acall_of_body Try.func37 rfl (enters Try.func37 (by kernel_rfl) rfl) Try.ntmps37 (by simp) (fun base => ?_)
  rcases findFrom_spec n l 0 with h | ⟨j, ⟨m, d, b⟩, h, hq, hm⟩
  · repeat' (first
    | ((first | refine aw_seq_regionT tabJ (tabJ_ok) (fun K hK => ?_) | refine aw_regionT tabJ (tabJ_ok) ?_ | refine aw_seq_region_drawF tabJ (tabJ_ok) (show (cxOf Try.prog 0 0 0).P.follows .mixedOrders = true by kernel_rfl) (fun K hK => ?_) | refine aw_region_drawF tabJ (tabJ_ok) (show (cxOf Try.prog 0 0 0).P.follows .mixedOrders = true by kernel_rfl) ?_ | refine aw_skip ?_ | refine aw_exit ?_ | refine aw_ret ?_); simp only [go_sem, ↓reduceIte, Nat.reduceAdd, Nat.reduceMul, Nat.reduceSub, Nat.reduceLT, Nat.reduceLeDiff, Nat.reduceEqDiff, Nat.reduceBEq, Int.reduceToNat, Int.reduceLT, Int.reduceLE, Int.reduceAdd, Int.reduceSub, Int.reduceMul, Int.reduceNeg, Int.reduceEq, h, Try.results37])
    | refine aw_seq (fun K hK => ?_)
    | refine aw_block ?_
    | refine aw_cond_t rfl ?_
    | refine aw_cond_f rfl ?_
    | refine aw_cond rfl (fun hc => ?_) (fun hc => ?_)
    | (first | (refine hK _ ?_; clear hK K) | (clear hK K; refine hK _ ?_; clear hK K) | (clear hK K; clear hK K; refine hK _ ?_; clear hK K) | (clear hK K; clear hK K; clear hK K; refine hK _ ?_; clear hK K) | (clear hK K; clear hK K; clear hK K; clear hK K; refine hK _ ?_; clear hK K))
    | ((first | refine (show AS.le _ _ from ?_) | refine (show leH _ _ from ?_) | refine (show inH _ _ from ?_)); simp only [AS.le, leT, leH, RoundK, AsgK, AV.le, AV.leL, AObj.le, inH, idsT, idsH, AV.ids, AV.idsL, AV.idsR, AObj.ids, lk, hget, go_sem, ↓reduceIte, Nat.reduceAdd, Nat.reduceMul, Nat.reduceSub, Nat.reduceLT, Nat.reduceLeDiff, Nat.reduceEqDiff, Nat.reduceBEq, Int.reduceToNat, Int.reduceLT, Int.reduceLE, Int.reduceAdd, Int.reduceSub, Int.reduceMul, Int.reduceNeg, Int.reduceEq, h])
    | refine fun (r2 : Rnd _) => ?_
    | refine fun (nb : Bool) (hnb : nb = true → _) => ?_
    | with_reducible refine And.intro ?_ ?_
    | exact ‹_ <+: _›
    | (refine (show drawOkF _ _ = true from ?_); kernel_rfl)
    | omega
    | refine fun (hg : (_ : Bool) = (_ : Bool)) => ?_)
    rw [getS_none h]
  · have hrow := at_row (g := blkD) hq
    simp only [blkD] at hrow
    have hj := (List.getElem?_eq_some_iff.1 hq).1
    have hw := withoutFrom_len (j : Int) l 0
    rw [Nat.zero_add] at h
    repeat' (first
    | ((first | refine aw_seq_regionT tabJ (tabJ_ok) (fun K hK => ?_) | refine aw_regionT tabJ (tabJ_ok) ?_ | refine aw_seq_region_drawF tabJ (tabJ_ok) (show (cxOf Try.prog 0 0 0).P.follows .mixedOrders = true by kernel_rfl) (fun K hK => ?_) | refine aw_region_drawF tabJ (tabJ_ok) (show (cxOf Try.prog 0 0 0).P.follows .mixedOrders = true by kernel_rfl) ?_ | refine aw_skip ?_ | refine aw_exit ?_ | refine aw_ret ?_); simp only [go_sem, ↓reduceIte, Nat.reduceAdd, Nat.reduceMul, Nat.reduceSub, Nat.reduceLT, Nat.reduceLeDiff, Nat.reduceEqDiff, Nat.reduceBEq, Int.reduceToNat, Int.reduceLT, Int.reduceLE, Int.reduceAdd, Int.reduceSub, Int.reduceMul, Int.reduceNeg, Int.reduceEq, h, hrow, Try.results37])
    | refine aw_seq (fun K hK => ?_)
    | refine aw_block ?_
    | refine aw_cond_t rfl ?_
    | refine aw_cond_f rfl ?_
    | refine aw_cond rfl (fun hc => ?_) (fun hc => ?_)
    | (first | (refine hK _ ?_; clear hK K) | (clear hK K; refine hK _ ?_; clear hK K) | (clear hK K; clear hK K; refine hK _ ?_; clear hK K) | (clear hK K; clear hK K; clear hK K; refine hK _ ?_; clear hK K) | (clear hK K; clear hK K; clear hK K; clear hK K; refine hK _ ?_; clear hK K))
    | ((first | refine (show AS.le _ _ from ?_) | refine (show leH _ _ from ?_) | refine (show inH _ _ from ?_)); simp only [AS.le, leT, leH, RoundK, AsgK, AV.le, AV.leL, AObj.le, inH, idsT, idsH, AV.ids, AV.idsL, AV.idsR, AObj.ids, lk, hget, go_sem, ↓reduceIte, Nat.reduceAdd, Nat.reduceMul, Nat.reduceSub, Nat.reduceLT, Nat.reduceLeDiff, Nat.reduceEqDiff, Nat.reduceBEq, Int.reduceToNat, Int.reduceLT, Int.reduceLE, Int.reduceAdd, Int.reduceSub, Int.reduceMul, Int.reduceNeg, Int.reduceEq, h, hrow])
    | refine fun (r2 : Rnd _) => ?_
    | refine fun (nb : Bool) (hnb : nb = true → _) => ?_
    | with_reducible refine And.intro ?_ ?_
    | exact ‹_ <+: _›
    | (refine (show drawOkF _ _ = true from ?_); kernel_rfl)
    | omega
    | refine fun (hg : (_ : Bool) = (_ : Bool)) => ?_)
    rw [getS_some h hq, if_pos (by omega), List.take_of_length_le (by simp; omega)]
    rfl
noncomputable def e_getRef_ok : Ent Try.prog := Ent.of 37 (fun x : (List Blk) × (Int) => (fun (l : List Blk) (n : Int) => ([.d (.sl 3 (l.map blkD)), .d (.int .i64 n)] : List AV)) x.1 x.2) (fun x : (List Blk) × (Int) => (fun (l : List Blk) (n : Int) => ((l.length ≤ 300) : Prop)) x.1 x.2) (fun x : (List Blk) × (Int) => (fun (l : List Blk) (n : Int) => (.tup [.d (.sl 3 ((getS l n).1.map blkD)), .d (.str (getS l n).2.1), .d (.bool (getS l n).2.2)] : AV)) x.1 x.2) (fun x hp => ⟨rfl, getRef_ok x.1 x.2 hp⟩)
theorem i_getRef_ok : ∀ x y : (List Blk) × (Int), (fun x : (List Blk) × (Int) => (fun (l : List Blk) (n : Int) => ([.d (.sl 3 (l.map blkD)), .d (.int .i64 n)] : List AV)) x.1 x.2) x = (fun x : (List Blk) × (Int) => (fun (l : List Blk) (n : Int) => ([.d (.sl 3 (l.map blkD)), .d (.int .i64 n)] : List AV)) x.1 x.2) y → x = y := by
  intro x y h
  obtain ⟨_, _⟩ := x
  obtain ⟨_, _⟩ := y
  simpa only [List.cons.injEq, AV.d.injEq, AV.agg.injEq, AV.dp.injEq, AV.fn.injEq, AV.tup.injEq, AV.asl.injEq, Int.natCast_inj, D.int.injEq, D.str.injEq, D.bool.injEq, D.sl.injEq, Prod.mk.injEq, and_true, true_and, and_assoc, map_inj blkD_inj, map_inj intD_inj, map_inj strD_inj, map_inj boolD_inj] using h
@[go_sem] theorem a0_getRef_ok (l : List Blk) (n : Int) : (e_getRef_ok).e [.d (.sl 3 (l.map blkD)), .d (.int .i64 n)] = some ((l.length ≤ 300), .tup [.d (.sl 3 ((getS l n).1.map blkD)), .d (.str (getS l n).2.1), .d (.bool (getS l n).2.2)]) := Ent.of_app i_getRef_ok (l, n)
@[go_sem] theorem a1_getRef_ok (n : Int) : (e_getRef_ok).e [.d (.sl 3 []), .d (.int .i64 n)] = some ((([] : List Blk).length ≤ 300), .tup [.d (.sl 3 ((getS ([] : List Blk) n).1.map blkD)), .d (.str (getS ([] : List Blk) n).2.1), .d (.bool (getS ([] : List Blk) n).2.2)]) := Ent.of_app i_getRef_ok (([] : List Blk), n)
end Go.Aw
