/-
  The reference's Good, find and Fit.
-/
import Derived.Test.YtoofpcploeanpaaCacheA
import Derived.Test.YtoofpcploeanpaaAwEnt
--new
namespace Go.Aw
set_option maxRecDepth 100000
set_option linter.unusedSimpArgs false
set_option linter.unusedVariables false
open Go Go.Proofs

theorem blkD_inj : ∀ a b, blkD a = blkD b → a = b := by
  rintro ⟨a, b, c⟩ ⟨a', b', c'⟩ h
  simpa [blkD] using h
def blkA (q : Blk) : AV := .agg [.d (.int .i64 q.1), .d (.str q.2.1), .d (.bool q.2.2)]

def good (q : Blk) : Bool := decide (0 ≤ q.1) && decide (q.1 ≤ 1073741824) && ((q.2.1.length : Int) == 128)

theorem good_ok (n : Int) (d : List UInt8) (b : Bool) : ACall Try.prog 22 0 [.agg [.d (.int .i64 n), .d (.str d), .d (.bool b)]] [] (fun r _ => r = .d (.bool (good (n, d, b)))) := by
  refine acall_of_body Try.func22 rfl (enters Try.func22 (by kernel_rfl) rfl) Try.ntmps22 (by simp) (fun base => ?_)
  repeat' (first
    | ((first | refine aw_seq_regionT noTab (noTab_ok _) (fun K hK => ?_) | refine aw_regionT noTab (noTab_ok _) ?_ | refine aw_seq_region_drawF noTab (noTab_ok _) (show (cxOf Try.prog 0 0 0).P.follows .mixedOrders = true by kernel_rfl) (fun K hK => ?_) | refine aw_region_drawF noTab (noTab_ok _) (show (cxOf Try.prog 0 0 0).P.follows .mixedOrders = true by kernel_rfl) ?_ | refine aw_skip ?_ | refine aw_exit ?_ | refine aw_ret ?_); simp only [go_sem, ↓reduceIte, Nat.reduceAdd, Nat.reduceMul, Nat.reduceSub, Nat.reduceLT, Nat.reduceLeDiff, Nat.reduceEqDiff, Nat.reduceBEq, Int.reduceToNat, Int.reduceLT, Int.reduceLE, Int.reduceAdd, Int.reduceSub, Int.reduceMul, Int.reduceNeg, Int.reduceEq, Try.results22])
    | refine aw_seq (fun K hK => ?_)
    | refine aw_block ?_
    | refine aw_cond_t rfl ?_
    | refine aw_cond_f rfl ?_
    | refine aw_cond rfl (fun hc => ?_) (fun hc => ?_)
    | (first | (refine hK _ ?_; clear hK K) | (clear hK K; refine hK _ ?_; clear hK K) | (clear hK K; clear hK K; refine hK _ ?_; clear hK K) | (clear hK K; clear hK K; clear hK K; refine hK _ ?_; clear hK K) | (clear hK K; clear hK K; clear hK K; clear hK K; refine hK _ ?_; clear hK K))
    | ((first | refine (show AS.le _ _ from ?_) | refine (show leH _ _ from ?_) | refine (show inH _ _ from ?_)); simp only [AS.le, leT, leH, RoundK, AsgK, AV.le, AV.leL, AObj.le, inH, idsT, idsH, AV.ids, AV.idsL, AV.idsR, AObj.ids, lk, hget, go_sem, ↓reduceIte, Nat.reduceAdd, Nat.reduceMul, Nat.reduceSub, Nat.reduceLT, Nat.reduceLeDiff, Nat.reduceEqDiff, Nat.reduceBEq, Int.reduceToNat, Int.reduceLT, Int.reduceLE, Int.reduceAdd, Int.reduceSub, Int.reduceMul, Int.reduceNeg, Int.reduceEq])
    | refine fun (r2 : Rnd _) => ?_
    | refine fun (nb : Bool) (hnb : nb = true → _) => ?_
    | with_reducible refine And.intro ?_ ?_
    | exact ‹_ <+: _›
    | (refine (show drawOkF _ _ = true from ?_); kernel_rfl)
    | omega
    | refine fun (hg : (_ : Bool) = (_ : Bool)) => ?_)
  rfl
noncomputable def e_good_ok : Ent Try.prog := Ent.of 22 (fun x : (Int) × (List UInt8) × (Bool) => (fun (n : Int) (d : List UInt8) (b : Bool) => ([.agg [.d (.int .i64 n), .d (.str d), .d (.bool b)]] : List AV)) x.1 x.2.1 x.2.2) (fun x : (Int) × (List UInt8) × (Bool) => (fun (n : Int) (d : List UInt8) (b : Bool) => (True : Prop)) x.1 x.2.1 x.2.2) (fun x : (Int) × (List UInt8) × (Bool) => (fun (n : Int) (d : List UInt8) (b : Bool) => (.d (.bool (good (n, d, b))) : AV)) x.1 x.2.1 x.2.2) (fun x hp => ⟨rfl, good_ok x.1 x.2.1 x.2.2⟩)
theorem i_good_ok : ∀ x y : (Int) × (List UInt8) × (Bool), (fun x : (Int) × (List UInt8) × (Bool) => (fun (n : Int) (d : List UInt8) (b : Bool) => ([.agg [.d (.int .i64 n), .d (.str d), .d (.bool b)]] : List AV)) x.1 x.2.1 x.2.2) x = (fun x : (Int) × (List UInt8) × (Bool) => (fun (n : Int) (d : List UInt8) (b : Bool) => ([.agg [.d (.int .i64 n), .d (.str d), .d (.bool b)]] : List AV)) x.1 x.2.1 x.2.2) y → x = y := by
  intro x y h
  obtain ⟨_, _, _⟩ := x
  obtain ⟨_, _, _⟩ := y
  simpa only [List.cons.injEq, AV.d.injEq, AV.agg.injEq, AV.dp.injEq, AV.fn.injEq, AV.tup.injEq, AV.asl.injEq, Int.natCast_inj, D.int.injEq, D.str.injEq, D.bool.injEq, D.sl.injEq, Prod.mk.injEq, and_true, true_and, and_assoc, map_inj blkD_inj, map_inj intD_inj, map_inj strD_inj, map_inj boolD_inj] using h
@[go_sem] theorem a0_good_ok (n : Int) (d : List UInt8) (b : Bool) : (e_good_ok).e [.agg [.d (.int .i64 n), .d (.str d), .d (.bool b)]] = some (True, .d (.bool (good (n, d, b)))) := Ent.of_app i_good_ok (n, d, b)

/-- The place of the first block of a number. -/
def findFrom (n : Int) : List Blk → Nat → Int
  | [], _ => -1
  | q :: r, i => if q.1 = n then i else findFrom n r (i + 1)

abbrev Dst (l : List Blk) (n : Int) := { i : Nat // i ≤ l.length ∧ findFrom n l 0 = findFrom n (l.drop i) i }

theorem find_ok (l : List Blk) (n : Int) (hl : l.length ≤ 9223372036854775807) : ACall Try.prog 49 0 [.d (.sl 3 (l.map blkD)), .d (.int .i64 n)] [] (fun r _ => r = .d (.int .i64 (findFrom n l 0))) := by
  refine acall_of_body Try.func49 rfl (enters Try.func49 (by kernel_rfl) rfl) Try.ntmps49 (by simp) (fun base => ?_)
  repeat' (first
    | ((first | refine aw_seq_regionT noTab (noTab_ok _) (fun K hK => ?_) | refine aw_regionT noTab (noTab_ok _) ?_ | refine aw_seq_region_drawF noTab (noTab_ok _) (show (cxOf Try.prog 0 0 0).P.follows .mixedOrders = true by kernel_rfl) (fun K hK => ?_) | refine aw_region_drawF noTab (noTab_ok _) (show (cxOf Try.prog 0 0 0).P.follows .mixedOrders = true by kernel_rfl) ?_ | refine aw_skip ?_ | refine aw_exit ?_ | refine aw_ret ?_); simp only [go_sem, ↓reduceIte, Nat.reduceAdd, Nat.reduceMul, Nat.reduceSub, Nat.reduceLT, Nat.reduceLeDiff, Nat.reduceEqDiff, Nat.reduceBEq, Int.reduceToNat, Int.reduceLT, Int.reduceLE, Int.reduceAdd, Int.reduceSub, Int.reduceMul, Int.reduceNeg, Int.reduceEq, Try.results49])
    | refine aw_seq (fun K hK => ?_)
    | refine aw_block ?_
    | refine aw_cond_t rfl ?_
    | refine aw_cond_f rfl ?_
    | refine aw_cond rfl (fun hc => ?_) (fun hc => ?_)
    | (first | (refine hK _ ?_; clear hK K) | (clear hK K; refine hK _ ?_; clear hK K) | (clear hK K; clear hK K; refine hK _ ?_; clear hK K) | (clear hK K; clear hK K; clear hK K; refine hK _ ?_; clear hK K) | (clear hK K; clear hK K; clear hK K; clear hK K; refine hK _ ?_; clear hK K))
    | ((first | refine (show AS.le _ _ from ?_) | refine (show leH _ _ from ?_) | refine (show inH _ _ from ?_)); simp only [AS.le, leT, leH, RoundK, AsgK, AV.le, AV.leL, AObj.le, inH, idsT, idsH, AV.ids, AV.idsL, AV.idsR, AObj.ids, lk, hget, go_sem, ↓reduceIte, Nat.reduceAdd, Nat.reduceMul, Nat.reduceSub, Nat.reduceLT, Nat.reduceLeDiff, Nat.reduceEqDiff, Nat.reduceBEq, Int.reduceToNat, Int.reduceLT, Int.reduceLE, Int.reduceAdd, Int.reduceSub, Int.reduceMul, Int.reduceNeg, Int.reduceEq])
    | refine fun (r2 : Rnd _) => ?_
    | refine fun (nb : Bool) (hnb : nb = true → _) => ?_
    | with_reducible refine And.intro ?_ ?_
    | exact ‹_ <+: _›
    | (refine (show drawOkF _ _ = true from ?_); kernel_rfl)
    | omega
    | refine fun (hg : (_ : Bool) = (_ : Bool)) => ?_)
  refine aw_loop (fun q : Dst l n => ⟨[(0, true, .d (.sl 3 (l.map blkD))), (1, true, .d (.int .i64 n)), (5, true, .d (.int .i64 q.1))], [], some []⟩) (fun q => l.length - q.1) ⟨0, Nat.zero_le _, rfl⟩ (by simp only [AS.le, leT, leH, RoundK, AsgK, AV.le, AV.leL, AObj.le, inH, idsT, idsH, AV.ids, AV.idsL, AV.idsR, AObj.ids, lk, hget, go_sem, ↓reduceIte, Nat.reduceAdd, Nat.reduceMul, Nat.reduceSub, Nat.reduceLT, Nat.reduceLeDiff, Nat.reduceEqDiff, Nat.reduceBEq, Int.reduceToNat, Int.reduceLT, Int.reduceLE, Int.reduceAdd, Int.reduceSub, Int.reduceMul, Int.reduceNeg, Int.reduceEq]; rfl) (fun q => ?_)
  obtain ⟨i, hi, hf⟩ := q
  simp only at hi hf ⊢
  rcases at_cases blkD l i hi with ⟨⟨m, d, b⟩, hq, hlt, hcmp, hrow, hdr, htk⟩ | ⟨hend, hcmp⟩
  · simp only [blkD] at hrow
    repeat' (first
    | ((first | refine aw_seq_regionT noTab (noTab_ok _) (fun K hK => ?_) | refine aw_regionT noTab (noTab_ok _) ?_ | refine aw_seq_region_drawF noTab (noTab_ok _) (show (cxOf Try.prog 0 0 0).P.follows .mixedOrders = true by kernel_rfl) (fun K hK => ?_) | refine aw_region_drawF noTab (noTab_ok _) (show (cxOf Try.prog 0 0 0).P.follows .mixedOrders = true by kernel_rfl) ?_ | refine aw_skip ?_ | refine aw_exit ?_ | refine aw_ret ?_); simp only [go_sem, ↓reduceIte, Nat.reduceAdd, Nat.reduceMul, Nat.reduceSub, Nat.reduceLT, Nat.reduceLeDiff, Nat.reduceEqDiff, Nat.reduceBEq, Int.reduceToNat, Int.reduceLT, Int.reduceLE, Int.reduceAdd, Int.reduceSub, Int.reduceMul, Int.reduceNeg, Int.reduceEq, hcmp, hrow, Try.results49])
    | refine aw_seq (fun K hK => ?_)
    | refine aw_block ?_
    | refine aw_cond_t rfl ?_
    | refine aw_cond_f rfl ?_
    | refine aw_cond rfl (fun hc => ?_) (fun hc => ?_)
    | (first | (refine hK _ ?_; clear hK K) | (clear hK K; refine hK _ ?_; clear hK K) | (clear hK K; clear hK K; refine hK _ ?_; clear hK K) | (clear hK K; clear hK K; clear hK K; refine hK _ ?_; clear hK K) | (clear hK K; clear hK K; clear hK K; clear hK K; refine hK _ ?_; clear hK K))
    | ((first | refine (show AS.le _ _ from ?_) | refine (show leH _ _ from ?_) | refine (show inH _ _ from ?_)); simp only [AS.le, leT, leH, RoundK, AsgK, AV.le, AV.leL, AObj.le, inH, idsT, idsH, AV.ids, AV.idsL, AV.idsR, AObj.ids, lk, hget, go_sem, ↓reduceIte, Nat.reduceAdd, Nat.reduceMul, Nat.reduceSub, Nat.reduceLT, Nat.reduceLeDiff, Nat.reduceEqDiff, Nat.reduceBEq, Int.reduceToNat, Int.reduceLT, Int.reduceLE, Int.reduceAdd, Int.reduceSub, Int.reduceMul, Int.reduceNeg, Int.reduceEq, hcmp, hrow])
    | refine fun (r2 : Rnd _) => ?_
    | refine fun (nb : Bool) (hnb : nb = true → _) => ?_
    | with_reducible refine And.intro ?_ ?_
    | exact ‹_ <+: _›
    | (refine (show drawOkF _ _ = true from ?_); kernel_rfl)
    | omega
    | refine fun (hg : (_ : Bool) = (_ : Bool)) => ?_)
    · rw [hf, hdr, findFrom, if_pos (by simpa using hc)]
    · exact ⟨⟨i + 1, by omega, by rw [hf, hdr, findFrom, if_neg (by simpa using hc)]⟩, by rw [wrap_suc (by omega)]; simp only [AS.le, leT, leH, RoundK, AsgK, AV.le, AV.leL, AObj.le, inH, idsT, idsH, AV.ids, AV.idsL, AV.idsR, AObj.ids, lk, hget, go_sem, ↓reduceIte, Nat.reduceAdd, Nat.reduceMul, Nat.reduceSub, Nat.reduceLT, Nat.reduceLeDiff, Nat.reduceEqDiff, Nat.reduceBEq, Int.reduceToNat, Int.reduceLT, Int.reduceLE, Int.reduceAdd, Int.reduceSub, Int.reduceMul, Int.reduceNeg, Int.reduceEq], by show l.length - (i + 1) < l.length - i; omega⟩
  · repeat' (first
    | ((first | refine aw_seq_regionT noTab (noTab_ok _) (fun K hK => ?_) | refine aw_regionT noTab (noTab_ok _) ?_ | refine aw_seq_region_drawF noTab (noTab_ok _) (show (cxOf Try.prog 0 0 0).P.follows .mixedOrders = true by kernel_rfl) (fun K hK => ?_) | refine aw_region_drawF noTab (noTab_ok _) (show (cxOf Try.prog 0 0 0).P.follows .mixedOrders = true by kernel_rfl) ?_ | refine aw_skip ?_ | refine aw_exit ?_ | refine aw_ret ?_); simp only [go_sem, ↓reduceIte, Nat.reduceAdd, Nat.reduceMul, Nat.reduceSub, Nat.reduceLT, Nat.reduceLeDiff, Nat.reduceEqDiff, Nat.reduceBEq, Int.reduceToNat, Int.reduceLT, Int.reduceLE, Int.reduceAdd, Int.reduceSub, Int.reduceMul, Int.reduceNeg, Int.reduceEq, hcmp, Try.results49])
    | refine aw_seq (fun K hK => ?_)
    | refine aw_block ?_
    | refine aw_cond_t rfl ?_
    | refine aw_cond_f rfl ?_
    | refine aw_cond rfl (fun hc => ?_) (fun hc => ?_)
    | (first | (refine hK _ ?_; clear hK K) | (clear hK K; refine hK _ ?_; clear hK K) | (clear hK K; clear hK K; refine hK _ ?_; clear hK K) | (clear hK K; clear hK K; clear hK K; refine hK _ ?_; clear hK K) | (clear hK K; clear hK K; clear hK K; clear hK K; refine hK _ ?_; clear hK K))
    | ((first | refine (show AS.le _ _ from ?_) | refine (show leH _ _ from ?_) | refine (show inH _ _ from ?_)); simp only [AS.le, leT, leH, RoundK, AsgK, AV.le, AV.leL, AObj.le, inH, idsT, idsH, AV.ids, AV.idsL, AV.idsR, AObj.ids, lk, hget, go_sem, ↓reduceIte, Nat.reduceAdd, Nat.reduceMul, Nat.reduceSub, Nat.reduceLT, Nat.reduceLeDiff, Nat.reduceEqDiff, Nat.reduceBEq, Int.reduceToNat, Int.reduceLT, Int.reduceLE, Int.reduceAdd, Int.reduceSub, Int.reduceMul, Int.reduceNeg, Int.reduceEq, hcmp])
    | refine fun (r2 : Rnd _) => ?_
    | refine fun (nb : Bool) (hnb : nb = true → _) => ?_
    | with_reducible refine And.intro ?_ ?_
    | exact ‹_ <+: _›
    | (refine (show drawOkF _ _ = true from ?_); kernel_rfl)
    | omega
    | refine fun (hg : (_ : Bool) = (_ : Bool)) => ?_)
    rw [hf, hend, List.drop_length]
    rfl
noncomputable def e_find_ok : Ent Try.prog := Ent.of 49 (fun x : (List Blk) × (Int) => (fun (l : List Blk) (n : Int) => ([.d (.sl 3 (l.map blkD)), .d (.int .i64 n)] : List AV)) x.1 x.2) (fun x : (List Blk) × (Int) => (fun (l : List Blk) (n : Int) => ((l.length ≤ 9223372036854775807) : Prop)) x.1 x.2) (fun x : (List Blk) × (Int) => (fun (l : List Blk) (n : Int) => (.d (.int .i64 (findFrom n l 0)) : AV)) x.1 x.2) (fun x hp => ⟨rfl, find_ok x.1 x.2 hp⟩)
theorem i_find_ok : ∀ x y : (List Blk) × (Int), (fun x : (List Blk) × (Int) => (fun (l : List Blk) (n : Int) => ([.d (.sl 3 (l.map blkD)), .d (.int .i64 n)] : List AV)) x.1 x.2) x = (fun x : (List Blk) × (Int) => (fun (l : List Blk) (n : Int) => ([.d (.sl 3 (l.map blkD)), .d (.int .i64 n)] : List AV)) x.1 x.2) y → x = y := by
  intro x y h
  obtain ⟨_, _⟩ := x
  obtain ⟨_, _⟩ := y
  simpa only [List.cons.injEq, AV.d.injEq, AV.agg.injEq, AV.dp.injEq, AV.fn.injEq, AV.tup.injEq, AV.asl.injEq, Int.natCast_inj, D.int.injEq, D.str.injEq, D.bool.injEq, D.sl.injEq, Prod.mk.injEq, and_true, true_and, and_assoc, map_inj blkD_inj, map_inj intD_inj, map_inj strD_inj, map_inj boolD_inj] using h
@[go_sem] theorem a0_find_ok (l : List Blk) (n : Int) : (e_find_ok).e [.d (.sl 3 (l.map blkD)), .d (.int .i64 n)] = some ((l.length ≤ 9223372036854775807), .d (.int .i64 (findFrom n l 0))) := Ent.of_app i_find_ok (l, n)
@[go_sem] theorem a1_find_ok (n : Int) : (e_find_ok).e [.d (.sl 3 []), .d (.int .i64 n)] = some ((([] : List Blk).length ≤ 9223372036854775807), .d (.int .i64 (findFrom n ([] : List Blk) 0))) := Ent.of_app i_find_ok (([] : List Blk), n)
noncomputable def tabF : Tab := tabOf [e_good_ok, e_find_ok]
theorem tabF_ok : TabOk Try.prog tabF := tabOf_ok _
@[go_sem] theorem tabF_good_ok (args : List AV) : tabF 22 args = (e_good_ok).e args := rfl
@[go_sem] theorem tabF_find_ok (args : List AV) : tabF 49 args = (e_find_ok).e args := rfl

/-- The reference's Fit. -/
def fitR (l : List Blk) : List Blk → Nat → Bool
  | [], _ => true
  | q :: r, i => !(!(good q) || (findFrom q.1 l 0 != (i : Int))) && fitR l r (i + 1)

abbrev Rst (l : List Blk) := { i : Nat // i ≤ l.length ∧ fitR l l 0 = fitR l (l.drop i) i }

theorem fitRef_ok (l : List Blk) (hl : l.length ≤ 9223372036854775807) : ACall Try.prog 21 0 [.d (.sl 3 (l.map blkD))] [] (fun r _ => r = .d (.bool (fitR l l 0 && decide (l.length ≤ 8)))) := by
  refine acall_of_body Try.func21 rfl (enters Try.func21 (by kernel_rfl) rfl) Try.ntmps21 (by simp) (fun base => ?_)
  repeat' (first
    | ((first | refine aw_seq_regionT noTab (noTab_ok _) (fun K hK => ?_) | refine aw_regionT noTab (noTab_ok _) ?_ | refine aw_seq_region_drawF noTab (noTab_ok _) (show (cxOf Try.prog 0 0 0).P.follows .mixedOrders = true by kernel_rfl) (fun K hK => ?_) | refine aw_region_drawF noTab (noTab_ok _) (show (cxOf Try.prog 0 0 0).P.follows .mixedOrders = true by kernel_rfl) ?_ | refine aw_skip ?_ | refine aw_exit ?_ | refine aw_ret ?_); simp only [go_sem, ↓reduceIte, Nat.reduceAdd, Nat.reduceMul, Nat.reduceSub, Nat.reduceLT, Nat.reduceLeDiff, Nat.reduceEqDiff, Nat.reduceBEq, Int.reduceToNat, Int.reduceLT, Int.reduceLE, Int.reduceAdd, Int.reduceSub, Int.reduceMul, Int.reduceNeg, Int.reduceEq, Try.results21])
    | refine aw_seq (fun K hK => ?_)
    | refine aw_block ?_
    | refine aw_cond_t rfl ?_
    | refine aw_cond_f rfl ?_
    | refine aw_cond rfl (fun hc => ?_) (fun hc => ?_)
    | (first | (refine hK _ ?_; clear hK K) | (clear hK K; refine hK _ ?_; clear hK K) | (clear hK K; clear hK K; refine hK _ ?_; clear hK K) | (clear hK K; clear hK K; clear hK K; refine hK _ ?_; clear hK K) | (clear hK K; clear hK K; clear hK K; clear hK K; refine hK _ ?_; clear hK K))
    | ((first | refine (show AS.le _ _ from ?_) | refine (show leH _ _ from ?_) | refine (show inH _ _ from ?_)); simp only [AS.le, leT, leH, RoundK, AsgK, AV.le, AV.leL, AObj.le, inH, idsT, idsH, AV.ids, AV.idsL, AV.idsR, AObj.ids, lk, hget, go_sem, ↓reduceIte, Nat.reduceAdd, Nat.reduceMul, Nat.reduceSub, Nat.reduceLT, Nat.reduceLeDiff, Nat.reduceEqDiff, Nat.reduceBEq, Int.reduceToNat, Int.reduceLT, Int.reduceLE, Int.reduceAdd, Int.reduceSub, Int.reduceMul, Int.reduceNeg, Int.reduceEq])
    | refine fun (r2 : Rnd _) => ?_
    | refine fun (nb : Bool) (hnb : nb = true → _) => ?_
    | with_reducible refine And.intro ?_ ?_
    | exact ‹_ <+: _›
    | (refine (show drawOkF _ _ = true from ?_); kernel_rfl)
    | omega
    | refine fun (hg : (_ : Bool) = (_ : Bool)) => ?_)
  refine aw_loop (fun q : Rst l => ⟨[(0, true, .d (.sl 3 (l.map blkD))), (3, true, .d (.int .i64 q.1))], [], some []⟩) (fun q => l.length - q.1) ⟨0, Nat.zero_le _, rfl⟩ (by simp only [AS.le, leT, leH, RoundK, AsgK, AV.le, AV.leL, AObj.le, inH, idsT, idsH, AV.ids, AV.idsL, AV.idsR, AObj.ids, lk, hget, go_sem, ↓reduceIte, Nat.reduceAdd, Nat.reduceMul, Nat.reduceSub, Nat.reduceLT, Nat.reduceLeDiff, Nat.reduceEqDiff, Nat.reduceBEq, Int.reduceToNat, Int.reduceLT, Int.reduceLE, Int.reduceAdd, Int.reduceSub, Int.reduceMul, Int.reduceNeg, Int.reduceEq]; rfl) (fun q => ?_)
  obtain ⟨i, hi, hf⟩ := q
  simp only at hi hf ⊢
  rcases at_cases blkD l i hi with ⟨⟨m, d, b⟩, hq, hlt, hcmp, hrow, hdr, htk⟩ | ⟨hend, hcmp⟩
  · simp only [blkD] at hrow
    have hs : fitR l (List.drop i l) i = (!(!(good (m, d, b)) || (findFrom m l 0 != (i : Int))) && fitR l (List.drop (i + 1) l) (i + 1)) := by rw [hdr]; rfl
    repeat' (first
    | ((first | refine aw_seq_regionT tabF (tabF_ok) (fun K hK => ?_) | refine aw_regionT tabF (tabF_ok) ?_ | refine aw_seq_region_drawF tabF (tabF_ok) (show (cxOf Try.prog 0 0 0).P.follows .mixedOrders = true by kernel_rfl) (fun K hK => ?_) | refine aw_region_drawF tabF (tabF_ok) (show (cxOf Try.prog 0 0 0).P.follows .mixedOrders = true by kernel_rfl) ?_ | refine aw_skip ?_ | refine aw_exit ?_ | refine aw_ret ?_); simp only [go_sem, ↓reduceIte, Nat.reduceAdd, Nat.reduceMul, Nat.reduceSub, Nat.reduceLT, Nat.reduceLeDiff, Nat.reduceEqDiff, Nat.reduceBEq, Int.reduceToNat, Int.reduceLT, Int.reduceLE, Int.reduceAdd, Int.reduceSub, Int.reduceMul, Int.reduceNeg, Int.reduceEq, hcmp, hrow, Try.results21])
    | refine aw_seq (fun K hK => ?_)
    | refine aw_block ?_
    | refine aw_cond_t rfl ?_
    | refine aw_cond_f rfl ?_
    | refine aw_cond rfl (fun hc => ?_) (fun hc => ?_)
    | (first | (refine hK _ ?_; clear hK K) | (clear hK K; refine hK _ ?_; clear hK K) | (clear hK K; clear hK K; refine hK _ ?_; clear hK K) | (clear hK K; clear hK K; clear hK K; refine hK _ ?_; clear hK K) | (clear hK K; clear hK K; clear hK K; clear hK K; refine hK _ ?_; clear hK K))
    | ((first | refine (show AS.le _ _ from ?_) | refine (show leH _ _ from ?_) | refine (show inH _ _ from ?_)); simp only [AS.le, leT, leH, RoundK, AsgK, AV.le, AV.leL, AObj.le, inH, idsT, idsH, AV.ids, AV.idsL, AV.idsR, AObj.ids, lk, hget, go_sem, ↓reduceIte, Nat.reduceAdd, Nat.reduceMul, Nat.reduceSub, Nat.reduceLT, Nat.reduceLeDiff, Nat.reduceEqDiff, Nat.reduceBEq, Int.reduceToNat, Int.reduceLT, Int.reduceLE, Int.reduceAdd, Int.reduceSub, Int.reduceMul, Int.reduceNeg, Int.reduceEq, hcmp, hrow])
    | refine fun (r2 : Rnd _) => ?_
    | refine fun (nb : Bool) (hnb : nb = true → _) => ?_
    | with_reducible refine And.intro ?_ ?_
    | exact ‹_ <+: _›
    | (refine (show drawOkF _ _ = true from ?_); kernel_rfl)
    | omega
    | refine fun (hg : (_ : Bool) = (_ : Bool)) => ?_)
    · rw [hf, hs, hc]; rfl
    · exact ⟨⟨i + 1, by omega, by rw [hf, hs, hc]; rfl⟩, by rw [wrap_suc (by omega)]; simp only [AS.le, leT, leH, RoundK, AsgK, AV.le, AV.leL, AObj.le, inH, idsT, idsH, AV.ids, AV.idsL, AV.idsR, AObj.ids, lk, hget, go_sem, ↓reduceIte, Nat.reduceAdd, Nat.reduceMul, Nat.reduceSub, Nat.reduceLT, Nat.reduceLeDiff, Nat.reduceEqDiff, Nat.reduceBEq, Int.reduceToNat, Int.reduceLT, Int.reduceLE, Int.reduceAdd, Int.reduceSub, Int.reduceMul, Int.reduceNeg, Int.reduceEq], by show l.length - (i + 1) < l.length - i; omega⟩
  · repeat' (first
    | ((first | refine aw_seq_regionT noTab (noTab_ok _) (fun K hK => ?_) | refine aw_regionT noTab (noTab_ok _) ?_ | refine aw_seq_region_drawF noTab (noTab_ok _) (show (cxOf Try.prog 0 0 0).P.follows .mixedOrders = true by kernel_rfl) (fun K hK => ?_) | refine aw_region_drawF noTab (noTab_ok _) (show (cxOf Try.prog 0 0 0).P.follows .mixedOrders = true by kernel_rfl) ?_ | refine aw_skip ?_ | refine aw_exit ?_ | refine aw_ret ?_); simp only [go_sem, ↓reduceIte, Nat.reduceAdd, Nat.reduceMul, Nat.reduceSub, Nat.reduceLT, Nat.reduceLeDiff, Nat.reduceEqDiff, Nat.reduceBEq, Int.reduceToNat, Int.reduceLT, Int.reduceLE, Int.reduceAdd, Int.reduceSub, Int.reduceMul, Int.reduceNeg, Int.reduceEq, hcmp, Try.results21])
    | refine aw_seq (fun K hK => ?_)
    | refine aw_block ?_
    | refine aw_cond_t rfl ?_
    | refine aw_cond_f rfl ?_
    | refine aw_cond rfl (fun hc => ?_) (fun hc => ?_)
    | (first | (refine hK _ ?_; clear hK K) | (clear hK K; refine hK _ ?_; clear hK K) | (clear hK K; clear hK K; refine hK _ ?_; clear hK K) | (clear hK K; clear hK K; clear hK K; refine hK _ ?_; clear hK K) | (clear hK K; clear hK K; clear hK K; clear hK K; refine hK _ ?_; clear hK K))
    | ((first | refine (show AS.le _ _ from ?_) | refine (show leH _ _ from ?_) | refine (show inH _ _ from ?_)); simp only [AS.le, leT, leH, RoundK, AsgK, AV.le, AV.leL, AObj.le, inH, idsT, idsH, AV.ids, AV.idsL, AV.idsR, AObj.ids, lk, hget, go_sem, ↓reduceIte, Nat.reduceAdd, Nat.reduceMul, Nat.reduceSub, Nat.reduceLT, Nat.reduceLeDiff, Nat.reduceEqDiff, Nat.reduceBEq, Int.reduceToNat, Int.reduceLT, Int.reduceLE, Int.reduceAdd, Int.reduceSub, Int.reduceMul, Int.reduceNeg, Int.reduceEq, hcmp])
    | refine fun (r2 : Rnd _) => ?_
    | refine fun (nb : Bool) (hnb : nb = true → _) => ?_
    | with_reducible refine And.intro ?_ ?_
    | exact ‹_ <+: _›
    | (refine (show drawOkF _ _ = true from ?_); kernel_rfl)
    | omega
    | refine fun (hg : (_ : Bool) = (_ : Bool)) => ?_)
    rw [hf, hend, List.drop_length]
    simp only [fitR, Bool.true_and]
    congr 3
    apply propext
    omega
noncomputable def e_fitRef_ok : Ent Try.prog := Ent.of 21 (fun x : (List Blk) => (fun (l : List Blk) => ([.d (.sl 3 (l.map blkD))] : List AV)) x) (fun x : (List Blk) => (fun (l : List Blk) => ((l.length ≤ 9223372036854775807) : Prop)) x) (fun x : (List Blk) => (fun (l : List Blk) => (.d (.bool (fitR l l 0 && decide (l.length ≤ 8))) : AV)) x) (fun x hp => ⟨rfl, fitRef_ok x hp⟩)
theorem i_fitRef_ok : ∀ x y : (List Blk), (fun x : (List Blk) => (fun (l : List Blk) => ([.d (.sl 3 (l.map blkD))] : List AV)) x) x = (fun x : (List Blk) => (fun (l : List Blk) => ([.d (.sl 3 (l.map blkD))] : List AV)) x) y → x = y := by
  intro x y h
  skip
  simpa only [List.cons.injEq, AV.d.injEq, AV.agg.injEq, AV.dp.injEq, AV.fn.injEq, AV.tup.injEq, AV.asl.injEq, Int.natCast_inj, D.int.injEq, D.str.injEq, D.bool.injEq, D.sl.injEq, Prod.mk.injEq, and_true, true_and, and_assoc, map_inj blkD_inj, map_inj intD_inj, map_inj strD_inj, map_inj boolD_inj] using h
@[go_sem] theorem a0_fitRef_ok (l : List Blk) : (e_fitRef_ok).e [.d (.sl 3 (l.map blkD))] = some ((l.length ≤ 9223372036854775807), .d (.bool (fitR l l 0 && decide (l.length ≤ 8)))) := Ent.of_app i_fitRef_ok (l)
@[go_sem] theorem a1_fitRef_ok  : (e_fitRef_ok).e [.d (.sl 3 [])] = some ((([] : List Blk).length ≤ 9223372036854775807), .d (.bool (fitR ([] : List Blk) ([] : List Blk) 0 && decide (([] : List Blk).length ≤ 8)))) := Ent.of_app i_fitRef_ok (([] : List Blk))

/-! ### The program's find -/
theorem find1_ok (n : Int) (d : List UInt8) (b : Bool) (at_ : Int) : ACall Try.prog 64 0 [.agg [.d (.int .i64 n), .d (.str d), .d (.bool b)], .dp [.d (.int .i64 at_)]] [] (fun r _ => r = .d (.bool (n == at_))) := by
  refine acall_of_body Try.func64 rfl (enters Try.func64 (by kernel_rfl) rfl) Try.ntmps64 (by simp) (fun base => ?_)
  repeat' (first
    | ((first | refine aw_seq_regionT noTab (noTab_ok _) (fun K hK => ?_) | refine aw_regionT noTab (noTab_ok _) ?_ | refine aw_seq_region_drawF noTab (noTab_ok _) (show (cxOf Try.prog 0 0 0).P.follows .mixedOrders = true by kernel_rfl) (fun K hK => ?_) | refine aw_region_drawF noTab (noTab_ok _) (show (cxOf Try.prog 0 0 0).P.follows .mixedOrders = true by kernel_rfl) ?_ | refine aw_skip ?_ | refine aw_exit ?_ | refine aw_ret ?_); simp only [go_sem, ↓reduceIte, Nat.reduceAdd, Nat.reduceMul, Nat.reduceSub, Nat.reduceLT, Nat.reduceLeDiff, Nat.reduceEqDiff, Nat.reduceBEq, Int.reduceToNat, Int.reduceLT, Int.reduceLE, Int.reduceAdd, Int.reduceSub, Int.reduceMul, Int.reduceNeg, Int.reduceEq, Try.results64])
    | refine aw_seq (fun K hK => ?_)
    | refine aw_block ?_
    | refine aw_cond_t rfl ?_
    | refine aw_cond_f rfl ?_
    | refine aw_cond rfl (fun hc => ?_) (fun hc => ?_)
    | (first | (refine hK _ ?_; clear hK K) | (clear hK K; refine hK _ ?_; clear hK K) | (clear hK K; clear hK K; refine hK _ ?_; clear hK K) | (clear hK K; clear hK K; clear hK K; refine hK _ ?_; clear hK K) | (clear hK K; clear hK K; clear hK K; clear hK K; refine hK _ ?_; clear hK K))
    | ((first | refine (show AS.le _ _ from ?_) | refine (show leH _ _ from ?_) | refine (show inH _ _ from ?_)); simp only [AS.le, leT, leH, RoundK, AsgK, AV.le, AV.leL, AObj.le, inH, idsT, idsH, AV.ids, AV.idsL, AV.idsR, AObj.ids, lk, hget, go_sem, ↓reduceIte, Nat.reduceAdd, Nat.reduceMul, Nat.reduceSub, Nat.reduceLT, Nat.reduceLeDiff, Nat.reduceEqDiff, Nat.reduceBEq, Int.reduceToNat, Int.reduceLT, Int.reduceLE, Int.reduceAdd, Int.reduceSub, Int.reduceMul, Int.reduceNeg, Int.reduceEq])
    | refine fun (r2 : Rnd _) => ?_
    | refine fun (nb : Bool) (hnb : nb = true → _) => ?_
    | with_reducible refine And.intro ?_ ?_
    | exact ‹_ <+: _›
    | (refine (show drawOkF _ _ = true from ?_); kernel_rfl)
    | omega
    | refine fun (hg : (_ : Bool) = (_ : Bool)) => ?_)
noncomputable def e_find1_ok : Ent Try.prog := Ent.of 64 (fun x : (Int) × (List UInt8) × (Bool) × (Int) => (fun (n : Int) (d : List UInt8) (b : Bool) (at_ : Int) => ([.agg [.d (.int .i64 n), .d (.str d), .d (.bool b)], .dp [.d (.int .i64 at_)]] : List AV)) x.1 x.2.1 x.2.2.1 x.2.2.2) (fun x : (Int) × (List UInt8) × (Bool) × (Int) => (fun (n : Int) (d : List UInt8) (b : Bool) (at_ : Int) => (True : Prop)) x.1 x.2.1 x.2.2.1 x.2.2.2) (fun x : (Int) × (List UInt8) × (Bool) × (Int) => (fun (n : Int) (d : List UInt8) (b : Bool) (at_ : Int) => (.d (.bool (n == at_)) : AV)) x.1 x.2.1 x.2.2.1 x.2.2.2) (fun x hp => ⟨rfl, find1_ok x.1 x.2.1 x.2.2.1 x.2.2.2⟩)
theorem i_find1_ok : ∀ x y : (Int) × (List UInt8) × (Bool) × (Int), (fun x : (Int) × (List UInt8) × (Bool) × (Int) => (fun (n : Int) (d : List UInt8) (b : Bool) (at_ : Int) => ([.agg [.d (.int .i64 n), .d (.str d), .d (.bool b)], .dp [.d (.int .i64 at_)]] : List AV)) x.1 x.2.1 x.2.2.1 x.2.2.2) x = (fun x : (Int) × (List UInt8) × (Bool) × (Int) => (fun (n : Int) (d : List UInt8) (b : Bool) (at_ : Int) => ([.agg [.d (.int .i64 n), .d (.str d), .d (.bool b)], .dp [.d (.int .i64 at_)]] : List AV)) x.1 x.2.1 x.2.2.1 x.2.2.2) y → x = y := by
  intro x y h
  obtain ⟨_, _, _, _⟩ := x
  obtain ⟨_, _, _, _⟩ := y
  simpa only [List.cons.injEq, AV.d.injEq, AV.agg.injEq, AV.dp.injEq, AV.fn.injEq, AV.tup.injEq, AV.asl.injEq, Int.natCast_inj, D.int.injEq, D.str.injEq, D.bool.injEq, D.sl.injEq, Prod.mk.injEq, and_true, true_and, and_assoc, map_inj blkD_inj, map_inj intD_inj, map_inj strD_inj, map_inj boolD_inj] using h
@[go_sem] theorem a0_find1_ok (n : Int) (d : List UInt8) (b : Bool) (at_ : Int) : (e_find1_ok).e [.agg [.d (.int .i64 n), .d (.str d), .d (.bool b)], .dp [.d (.int .i64 at_)]] = some (True, .d (.bool (n == at_))) := Ent.of_app i_find1_ok (n, d, b, at_)
noncomputable def tabG : Tab := tabOf [e_find1_ok]
theorem tabG_ok : TabOk Try.prog tabG := tabOf_ok _
@[go_sem] theorem tabG_find1_ok (args : List AV) : tabG 64 args = (e_find1_ok).e args := rfl

theorem indexFunc_ok (l : List Blk) (at_ : Int) (hl : l.length ≤ 300) : ACall Try.prog 63 0 [.d (.sl 3 (l.map blkD)), .fn (.func 64) [] [.dp [.d (.int .i64 at_)]]] [] (fun r _ => r = .d (.int .i64 (findFrom at_ l 0))) := by
  refine acall_of_body Try.func63 rfl (enters Try.func63 (by kernel_rfl) rfl) Try.ntmps63 (by simp) (fun base => ?_)
  repeat' (first
    | ((first | refine aw_seq_regionT noTab (noTab_ok _) (fun K hK => ?_) | refine aw_regionT noTab (noTab_ok _) ?_ | refine aw_seq_region_drawF noTab (noTab_ok _) (show (cxOf Try.prog 0 0 0).P.follows .mixedOrders = true by kernel_rfl) (fun K hK => ?_) | refine aw_region_drawF noTab (noTab_ok _) (show (cxOf Try.prog 0 0 0).P.follows .mixedOrders = true by kernel_rfl) ?_ | refine aw_skip ?_ | refine aw_exit ?_ | refine aw_ret ?_); simp only [go_sem, ↓reduceIte, Nat.reduceAdd, Nat.reduceMul, Nat.reduceSub, Nat.reduceLT, Nat.reduceLeDiff, Nat.reduceEqDiff, Nat.reduceBEq, Int.reduceToNat, Int.reduceLT, Int.reduceLE, Int.reduceAdd, Int.reduceSub, Int.reduceMul, Int.reduceNeg, Int.reduceEq, Try.results63])
    | refine aw_seq (fun K hK => ?_)
    | refine aw_block ?_
    | refine aw_cond_t rfl ?_
    | refine aw_cond_f rfl ?_
    | refine aw_cond rfl (fun hc => ?_) (fun hc => ?_)
    | (first | (refine hK _ ?_; clear hK K) | (clear hK K; refine hK _ ?_; clear hK K) | (clear hK K; clear hK K; refine hK _ ?_; clear hK K) | (clear hK K; clear hK K; clear hK K; refine hK _ ?_; clear hK K) | (clear hK K; clear hK K; clear hK K; clear hK K; refine hK _ ?_; clear hK K))
    | ((first | refine (show AS.le _ _ from ?_) | refine (show leH _ _ from ?_) | refine (show inH _ _ from ?_)); simp only [AS.le, leT, leH, RoundK, AsgK, AV.le, AV.leL, AObj.le, inH, idsT, idsH, AV.ids, AV.idsL, AV.idsR, AObj.ids, lk, hget, go_sem, ↓reduceIte, Nat.reduceAdd, Nat.reduceMul, Nat.reduceSub, Nat.reduceLT, Nat.reduceLeDiff, Nat.reduceEqDiff, Nat.reduceBEq, Int.reduceToNat, Int.reduceLT, Int.reduceLE, Int.reduceAdd, Int.reduceSub, Int.reduceMul, Int.reduceNeg, Int.reduceEq])
    | refine fun (r2 : Rnd _) => ?_
    | refine fun (nb : Bool) (hnb : nb = true → _) => ?_
    | with_reducible refine And.intro ?_ ?_
    | exact ‹_ <+: _›
    | (refine (show drawOkF _ _ = true from ?_); kernel_rfl)
    | omega
    | refine fun (hg : (_ : Bool) = (_ : Bool)) => ?_)
  refine aw_loop (fun q : Dst l at_ => ⟨[(0, true, .d (.sl 3 (l.map blkD))), (1, true, .fn (.func 64) [] [.dp [.d (.int .i64 at_)]]), (6, true, .d (.sl 3 (l.map blkD))), (7, true, .d (.int .i64 l.length)), (8, true, .d (.int .i64 q.1))], [], some []⟩) (fun q => l.length - q.1) ⟨0, Nat.zero_le _, rfl⟩ (by simp only [AS.le, leT, leH, RoundK, AsgK, AV.le, AV.leL, AObj.le, inH, idsT, idsH, AV.ids, AV.idsL, AV.idsR, AObj.ids, lk, hget, go_sem, ↓reduceIte, Nat.reduceAdd, Nat.reduceMul, Nat.reduceSub, Nat.reduceLT, Nat.reduceLeDiff, Nat.reduceEqDiff, Nat.reduceBEq, Int.reduceToNat, Int.reduceLT, Int.reduceLE, Int.reduceAdd, Int.reduceSub, Int.reduceMul, Int.reduceNeg, Int.reduceEq]; rfl) (fun q => ?_)
  obtain ⟨i, hi, hf⟩ := q
  simp only at hi hf ⊢
  rcases at_cases blkD l i hi with ⟨⟨m, d, b⟩, hq, hlt, hcmp, hrow, hdr, htk⟩ | ⟨hend, hcmp⟩
  · simp only [blkD] at hrow
    repeat' (first
    | ((first | refine aw_seq_regionT tabG (tabG_ok) (fun K hK => ?_) | refine aw_regionT tabG (tabG_ok) ?_ | refine aw_seq_region_drawF tabG (tabG_ok) (show (cxOf Try.prog 0 0 0).P.follows .mixedOrders = true by kernel_rfl) (fun K hK => ?_) | refine aw_region_drawF tabG (tabG_ok) (show (cxOf Try.prog 0 0 0).P.follows .mixedOrders = true by kernel_rfl) ?_ | refine aw_skip ?_ | refine aw_exit ?_ | refine aw_ret ?_); simp only [go_sem, ↓reduceIte, Nat.reduceAdd, Nat.reduceMul, Nat.reduceSub, Nat.reduceLT, Nat.reduceLeDiff, Nat.reduceEqDiff, Nat.reduceBEq, Int.reduceToNat, Int.reduceLT, Int.reduceLE, Int.reduceAdd, Int.reduceSub, Int.reduceMul, Int.reduceNeg, Int.reduceEq, hcmp, hrow, Try.results63])
    | refine aw_seq (fun K hK => ?_)
    | refine aw_block ?_
    | refine aw_cond_t rfl ?_
    | refine aw_cond_f rfl ?_
    | refine aw_cond rfl (fun hc => ?_) (fun hc => ?_)
    | (first | (refine hK _ ?_; clear hK K) | (clear hK K; refine hK _ ?_; clear hK K) | (clear hK K; clear hK K; refine hK _ ?_; clear hK K) | (clear hK K; clear hK K; clear hK K; refine hK _ ?_; clear hK K) | (clear hK K; clear hK K; clear hK K; clear hK K; refine hK _ ?_; clear hK K))
    | ((first | refine (show AS.le _ _ from ?_) | refine (show leH _ _ from ?_) | refine (show inH _ _ from ?_)); simp only [AS.le, leT, leH, RoundK, AsgK, AV.le, AV.leL, AObj.le, inH, idsT, idsH, AV.ids, AV.idsL, AV.idsR, AObj.ids, lk, hget, go_sem, ↓reduceIte, Nat.reduceAdd, Nat.reduceMul, Nat.reduceSub, Nat.reduceLT, Nat.reduceLeDiff, Nat.reduceEqDiff, Nat.reduceBEq, Int.reduceToNat, Int.reduceLT, Int.reduceLE, Int.reduceAdd, Int.reduceSub, Int.reduceMul, Int.reduceNeg, Int.reduceEq, hcmp, hrow])
    | refine fun (r2 : Rnd _) => ?_
    | refine fun (nb : Bool) (hnb : nb = true → _) => ?_
    | with_reducible refine And.intro ?_ ?_
    | exact ‹_ <+: _›
    | (refine (show drawOkF _ _ = true from ?_); kernel_rfl)
    | omega
    | refine fun (hg : (_ : Bool) = (_ : Bool)) => ?_)
    · rw [hf, hdr, findFrom, if_pos (by simpa using hc)]
    · exact ⟨⟨i + 1, by omega, by rw [hf, hdr, findFrom, if_neg (by simpa using hc)]⟩, by rw [wrap_suc (by omega)]; simp only [AS.le, leT, leH, RoundK, AsgK, AV.le, AV.leL, AObj.le, inH, idsT, idsH, AV.ids, AV.idsL, AV.idsR, AObj.ids, lk, hget, go_sem, ↓reduceIte, Nat.reduceAdd, Nat.reduceMul, Nat.reduceSub, Nat.reduceLT, Nat.reduceLeDiff, Nat.reduceEqDiff, Nat.reduceBEq, Int.reduceToNat, Int.reduceLT, Int.reduceLE, Int.reduceAdd, Int.reduceSub, Int.reduceMul, Int.reduceNeg, Int.reduceEq], by show l.length - (i + 1) < l.length - i; omega⟩
  · repeat' (first
    | ((first | refine aw_seq_regionT noTab (noTab_ok _) (fun K hK => ?_) | refine aw_regionT noTab (noTab_ok _) ?_ | refine aw_seq_region_drawF noTab (noTab_ok _) (show (cxOf Try.prog 0 0 0).P.follows .mixedOrders = true by kernel_rfl) (fun K hK => ?_) | refine aw_region_drawF noTab (noTab_ok _) (show (cxOf Try.prog 0 0 0).P.follows .mixedOrders = true by kernel_rfl) ?_ | refine aw_skip ?_ | refine aw_exit ?_ | refine aw_ret ?_); simp only [go_sem, ↓reduceIte, Nat.reduceAdd, Nat.reduceMul, Nat.reduceSub, Nat.reduceLT, Nat.reduceLeDiff, Nat.reduceEqDiff, Nat.reduceBEq, Int.reduceToNat, Int.reduceLT, Int.reduceLE, Int.reduceAdd, Int.reduceSub, Int.reduceMul, Int.reduceNeg, Int.reduceEq, hcmp, Try.results63])
    | refine aw_seq (fun K hK => ?_)
    | refine aw_block ?_
    | refine aw_cond_t rfl ?_
    | refine aw_cond_f rfl ?_
    | refine aw_cond rfl (fun hc => ?_) (fun hc => ?_)
    | (first | (refine hK _ ?_; clear hK K) | (clear hK K; refine hK _ ?_; clear hK K) | (clear hK K; clear hK K; refine hK _ ?_; clear hK K) | (clear hK K; clear hK K; clear hK K; refine hK _ ?_; clear hK K) | (clear hK K; clear hK K; clear hK K; clear hK K; refine hK _ ?_; clear hK K))
    | ((first | refine (show AS.le _ _ from ?_) | refine (show leH _ _ from ?_) | refine (show inH _ _ from ?_)); simp only [AS.le, leT, leH, RoundK, AsgK, AV.le, AV.leL, AObj.le, inH, idsT, idsH, AV.ids, AV.idsL, AV.idsR, AObj.ids, lk, hget, go_sem, ↓reduceIte, Nat.reduceAdd, Nat.reduceMul, Nat.reduceSub, Nat.reduceLT, Nat.reduceLeDiff, Nat.reduceEqDiff, Nat.reduceBEq, Int.reduceToNat, Int.reduceLT, Int.reduceLE, Int.reduceAdd, Int.reduceSub, Int.reduceMul, Int.reduceNeg, Int.reduceEq, hcmp])
    | refine fun (r2 : Rnd _) => ?_
    | refine fun (nb : Bool) (hnb : nb = true → _) => ?_
    | with_reducible refine And.intro ?_ ?_
    | exact ‹_ <+: _›
    | (refine (show drawOkF _ _ = true from ?_); kernel_rfl)
    | omega
    | refine fun (hg : (_ : Bool) = (_ : Bool)) => ?_)
    rw [hf, hend, List.drop_length]
    rfl
noncomputable def e_indexFunc_ok : Ent Try.prog := Ent.of 63 (fun x : (List Blk) × (Int) => (fun (l : List Blk) (at_ : Int) => ([.d (.sl 3 (l.map blkD)), .fn (.func 64) [] [.dp [.d (.int .i64 at_)]]] : List AV)) x.1 x.2) (fun x : (List Blk) × (Int) => (fun (l : List Blk) (at_ : Int) => ((l.length ≤ 300) : Prop)) x.1 x.2) (fun x : (List Blk) × (Int) => (fun (l : List Blk) (at_ : Int) => (.d (.int .i64 (findFrom at_ l 0)) : AV)) x.1 x.2) (fun x hp => ⟨rfl, indexFunc_ok x.1 x.2 hp⟩)
theorem i_indexFunc_ok : ∀ x y : (List Blk) × (Int), (fun x : (List Blk) × (Int) => (fun (l : List Blk) (at_ : Int) => ([.d (.sl 3 (l.map blkD)), .fn (.func 64) [] [.dp [.d (.int .i64 at_)]]] : List AV)) x.1 x.2) x = (fun x : (List Blk) × (Int) => (fun (l : List Blk) (at_ : Int) => ([.d (.sl 3 (l.map blkD)), .fn (.func 64) [] [.dp [.d (.int .i64 at_)]]] : List AV)) x.1 x.2) y → x = y := by
  intro x y h
  obtain ⟨_, _⟩ := x
  obtain ⟨_, _⟩ := y
  simpa only [List.cons.injEq, AV.d.injEq, AV.agg.injEq, AV.dp.injEq, AV.fn.injEq, AV.tup.injEq, AV.asl.injEq, Int.natCast_inj, D.int.injEq, D.str.injEq, D.bool.injEq, D.sl.injEq, Prod.mk.injEq, and_true, true_and, and_assoc, map_inj blkD_inj, map_inj intD_inj, map_inj strD_inj, map_inj boolD_inj] using h
@[go_sem] theorem a0_indexFunc_ok (l : List Blk) (at_ : Int) : (e_indexFunc_ok).e [.d (.sl 3 (l.map blkD)), .fn (.func 64) [] [.dp [.d (.int .i64 at_)]]] = some ((l.length ≤ 300), .d (.int .i64 (findFrom at_ l 0))) := Ent.of_app i_indexFunc_ok (l, at_)
@[go_sem] theorem a1_indexFunc_ok (at_ : Int) : (e_indexFunc_ok).e [.d (.sl 3 []), .fn (.func 64) [] [.dp [.d (.int .i64 at_)]]] = some ((([] : List Blk).length ≤ 300), .d (.int .i64 (findFrom at_ ([] : List Blk) 0))) := Ent.of_app i_indexFunc_ok (([] : List Blk), at_)
noncomputable def tabH : Tab := tabOf [e_indexFunc_ok]
theorem tabH_ok : TabOk Try.prog tabH := tabOf_ok _
@[go_sem] theorem tabH_indexFunc_ok (args : List AV) : tabH 63 args = (e_indexFunc_ok).e args := rfl

theorem cfind_ok (l : List Blk) (at_ : Int) (hl : l.length ≤ 300) : ACall Try.prog 50 0 [.d (.sl 3 (l.map blkD)), .d (.int .i64 at_)] [] (fun r _ => r = .d (.int .i64 (findFrom at_ l 0))) := by
  refine acall_of_body Try.func50 rfl (enters Try.func50 (by kernel_rfl) rfl) Try.ntmps50 (by simp) (fun base => ?_)
  repeat' (first
    | ((first | refine aw_seq_regionT tabH (tabH_ok) (fun K hK => ?_) | refine aw_regionT tabH (tabH_ok) ?_ | refine aw_seq_region_drawF tabH (tabH_ok) (show (cxOf Try.prog 0 0 0).P.follows .mixedOrders = true by kernel_rfl) (fun K hK => ?_) | refine aw_region_drawF tabH (tabH_ok) (show (cxOf Try.prog 0 0 0).P.follows .mixedOrders = true by kernel_rfl) ?_ | refine aw_skip ?_ | refine aw_exit ?_ | refine aw_ret ?_); simp only [go_sem, ↓reduceIte, Nat.reduceAdd, Nat.reduceMul, Nat.reduceSub, Nat.reduceLT, Nat.reduceLeDiff, Nat.reduceEqDiff, Nat.reduceBEq, Int.reduceToNat, Int.reduceLT, Int.reduceLE, Int.reduceAdd, Int.reduceSub, Int.reduceMul, Int.reduceNeg, Int.reduceEq, Try.results50])
    | refine aw_seq (fun K hK => ?_)
    | refine aw_block ?_
    | refine aw_cond_t rfl ?_
    | refine aw_cond_f rfl ?_
    | refine aw_cond rfl (fun hc => ?_) (fun hc => ?_)
    | (first | (refine hK _ ?_; clear hK K) | (clear hK K; refine hK _ ?_; clear hK K) | (clear hK K; clear hK K; refine hK _ ?_; clear hK K) | (clear hK K; clear hK K; clear hK K; refine hK _ ?_; clear hK K) | (clear hK K; clear hK K; clear hK K; clear hK K; refine hK _ ?_; clear hK K))
    | ((first | refine (show AS.le _ _ from ?_) | refine (show leH _ _ from ?_) | refine (show inH _ _ from ?_)); simp only [AS.le, leT, leH, RoundK, AsgK, AV.le, AV.leL, AObj.le, inH, idsT, idsH, AV.ids, AV.idsL, AV.idsR, AObj.ids, lk, hget, go_sem, ↓reduceIte, Nat.reduceAdd, Nat.reduceMul, Nat.reduceSub, Nat.reduceLT, Nat.reduceLeDiff, Nat.reduceEqDiff, Nat.reduceBEq, Int.reduceToNat, Int.reduceLT, Int.reduceLE, Int.reduceAdd, Int.reduceSub, Int.reduceMul, Int.reduceNeg, Int.reduceEq])
    | refine fun (r2 : Rnd _) => ?_
    | refine fun (nb : Bool) (hnb : nb = true → _) => ?_
    | with_reducible refine And.intro ?_ ?_
    | exact ‹_ <+: _›
    | (refine (show drawOkF _ _ = true from ?_); kernel_rfl)
    | omega
    | refine fun (hg : (_ : Bool) = (_ : Bool)) => ?_)
noncomputable def e_cfind_ok : Ent Try.prog := Ent.of 50 (fun x : (List Blk) × (Int) => (fun (l : List Blk) (at_ : Int) => ([.d (.sl 3 (l.map blkD)), .d (.int .i64 at_)] : List AV)) x.1 x.2) (fun x : (List Blk) × (Int) => (fun (l : List Blk) (at_ : Int) => ((l.length ≤ 300) : Prop)) x.1 x.2) (fun x : (List Blk) × (Int) => (fun (l : List Blk) (at_ : Int) => (.d (.int .i64 (findFrom at_ l 0)) : AV)) x.1 x.2) (fun x hp => ⟨rfl, cfind_ok x.1 x.2 hp⟩)
theorem i_cfind_ok : ∀ x y : (List Blk) × (Int), (fun x : (List Blk) × (Int) => (fun (l : List Blk) (at_ : Int) => ([.d (.sl 3 (l.map blkD)), .d (.int .i64 at_)] : List AV)) x.1 x.2) x = (fun x : (List Blk) × (Int) => (fun (l : List Blk) (at_ : Int) => ([.d (.sl 3 (l.map blkD)), .d (.int .i64 at_)] : List AV)) x.1 x.2) y → x = y := by
  intro x y h
  obtain ⟨_, _⟩ := x
  obtain ⟨_, _⟩ := y
  simpa only [List.cons.injEq, AV.d.injEq, AV.agg.injEq, AV.dp.injEq, AV.fn.injEq, AV.tup.injEq, AV.asl.injEq, Int.natCast_inj, D.int.injEq, D.str.injEq, D.bool.injEq, D.sl.injEq, Prod.mk.injEq, and_true, true_and, and_assoc, map_inj blkD_inj, map_inj intD_inj, map_inj strD_inj, map_inj boolD_inj] using h
@[go_sem] theorem a0_cfind_ok (l : List Blk) (at_ : Int) : (e_cfind_ok).e [.d (.sl 3 (l.map blkD)), .d (.int .i64 at_)] = some ((l.length ≤ 300), .d (.int .i64 (findFrom at_ l 0))) := Ent.of_app i_cfind_ok (l, at_)
@[go_sem] theorem a1_cfind_ok (at_ : Int) : (e_cfind_ok).e [.d (.sl 3 []), .d (.int .i64 at_)] = some ((([] : List Blk).length ≤ 300), .d (.int .i64 (findFrom at_ ([] : List Blk) 0))) := Ent.of_app i_cfind_ok (([] : List Blk), at_)
end Go.Aw
