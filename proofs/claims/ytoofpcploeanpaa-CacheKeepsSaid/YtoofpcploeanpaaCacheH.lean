/-
  Drop and Clean: in a row of one's own.
-/
import Derived.Test.YtoofpcploeanpaaCacheF
--new
namespace Go.Aw
set_option maxRecDepth 100000
set_option linter.unusedSimpArgs false
set_option linter.unusedVariables false
open Go Go.Proofs

theorem cloneOwn_ok (l : List Blk) (fl : Nat) (hl : l.length ≤ 400) : ACall Try.prog 59 fl [.d (.sl 3 (l.map blkD))] [] (fun r h' => r = .osl fl 3 l.length 0 l.length ∧ h' = [(fl, .arr 3 (l.map blkD))]) := by
  refine acall_of_body Try.func59 rfl (enters Try.func59 (by kernel_rfl) rfl) Try.ntmps59 (by simp) (fun base => ?_)
  repeat' ((fail_if_success (refine (show AW _ (.seq (.region 2 _ _) _) _ _ from ?_))); (fail_if_success (refine (show AW _ (.seq (.seq (.region 2 _ _) _) _) _ _ from ?_))); (fail_if_success (refine (show AW _ (.seq (.seq (.seq (.region 2 _ _) _) _) _) _ _ from ?_))); (fail_if_success (refine (show AW _ (.region 2 _ _) _ _ from ?_))); first
    | ((first | refine aw_seq_regionT noTab (noTab_ok _) (fun K hK => ?_) | refine aw_regionT noTab (noTab_ok _) ?_ | refine aw_seq_region_drawF noTab (noTab_ok _) (show (cxOf Try.prog 0 0 0).P.follows .mixedOrders = true by kernel_rfl) (fun K hK => ?_) | refine aw_region_drawF noTab (noTab_ok _) (show (cxOf Try.prog 0 0 0).P.follows .mixedOrders = true by kernel_rfl) ?_ | refine aw_skip ?_ | refine aw_exit ?_ | refine aw_ret ?_); simp only [go_sem, ↓reduceIte, Nat.reduceAdd, Nat.reduceMul, Nat.reduceSub, Nat.reduceLT, Nat.reduceLeDiff, Nat.reduceEqDiff, Nat.reduceBEq, Int.reduceToNat, Int.reduceLT, Int.reduceLE, Int.reduceAdd, Int.reduceSub, Int.reduceMul, Int.reduceNeg, Int.reduceEq, Try.results59])
    | refine aw_seq (fun K hK => ?_)
    | refine aw_block ?_
    | refine aw_cond_t rfl ?_
    | refine aw_cond_f rfl ?_
    | refine aw_cond rfl (fun hc => ?_) (fun hc => ?_)
    | (first | (refine hK _ ?_; clear hK K) | (clear hK K; refine hK _ ?_; clear hK K) | (clear hK K; clear hK K; refine hK _ ?_; clear hK K) | (clear hK K; clear hK K; clear hK K; refine hK _ ?_; clear hK K) | (clear hK K; clear hK K; clear hK K; clear hK K; refine hK _ ?_; clear hK K))
    | ((first | refine (show AS.le _ _ from ?_) | refine (show leH _ _ from ?_) | refine (show inH _ _ from ?_)); simp only [AS.le, leT, leH, RoundK, AsgK, AV.le, AV.leL, AObj.le, inH, idsT, idsH, AV.ids, AV.idsL, AV.idsR, AObj.ids, lk, hget, go_sem, ↓reduceIte, Nat.reduceAdd, Nat.reduceMul, Nat.reduceSub, Nat.reduceLT, Nat.reduceLeDiff, Nat.reduceEqDiff, Nat.reduceBEq, Int.reduceToNat, Int.reduceLT, Int.reduceLE, Int.reduceAdd, Int.reduceSub, Int.reduceMul, Int.reduceNeg, Int.reduceEq])
    | refine fun (r2 : Rnd _) => ?_
    | refine fun (nb : Bool) (hnb : nb = true → _) => ?_
    | with_reducible refine And.intro ?_ ?_
    | exact ‹_ <+: _›
    | (refine (show drawOkF _ _ = true from ?_); kernel_rfl)
    | omega
    | refine fun (hg : (_ : Bool) = (_ : Bool)) => ?_)
  · refine aw_seq_regionT noTab (noTab_ok _) (fun K hK => ?_); simp only [go_sem, ↓reduceIte, Nat.reduceAdd, Nat.reduceMul, Nat.reduceSub, Nat.reduceLT, Nat.reduceLeDiff, Nat.reduceEqDiff, Nat.reduceBEq, Int.reduceToNat, Int.reduceLT, Int.reduceLE, Int.reduceAdd, Int.reduceSub, Int.reduceMul, Int.reduceNeg, Int.reduceEq]
    (first | (refine hK _ ?_; clear hK K) | (clear hK K; refine hK _ ?_; clear hK K) | (clear hK K; clear hK K; refine hK _ ?_; clear hK K) | (clear hK K; clear hK K; clear hK K; refine hK _ ?_; clear hK K) | (clear hK K; clear hK K; clear hK K; clear hK K; refine hK _ ?_; clear hK K))
    refine aw_adopt 2 3 rfl ?_
    have h0 : l = [] := List.map_eq_nil_iff.1 (hnb hc)
    subst h0
    repeat' (first
    | ((first | refine aw_seq_regionT noTab (noTab_ok _) (fun K hK => ?_) | refine aw_regionT noTab (noTab_ok _) ?_ | refine aw_seq_region_drawF noTab (noTab_ok _) (show (cxOf Try.prog 0 0 0).P.follows .mixedOrders = true by kernel_rfl) (fun K hK => ?_) | refine aw_region_drawF noTab (noTab_ok _) (show (cxOf Try.prog 0 0 0).P.follows .mixedOrders = true by kernel_rfl) ?_ | refine aw_skip ?_ | refine aw_exit ?_ | refine aw_ret ?_); simp only [go_sem, ↓reduceIte, Nat.reduceAdd, Nat.reduceMul, Nat.reduceSub, Nat.reduceLT, Nat.reduceLeDiff, Nat.reduceEqDiff, Nat.reduceBEq, Int.reduceToNat, Int.reduceLT, Int.reduceLE, Int.reduceAdd, Int.reduceSub, Int.reduceMul, Int.reduceNeg, Int.reduceEq, Try.results59])
    | refine aw_seq (fun K hK => ?_)
    | refine aw_block ?_
    | refine aw_cond_t rfl ?_
    | refine aw_cond_f rfl ?_
    | refine aw_cond rfl (fun hc => ?_) (fun hc => ?_)
    | (first | (refine hK _ ?_; clear hK K) | (clear hK K; refine hK _ ?_; clear hK K) | (clear hK K; clear hK K; refine hK _ ?_; clear hK K) | (clear hK K; clear hK K; clear hK K; refine hK _ ?_; clear hK K) | (clear hK K; clear hK K; clear hK K; clear hK K; refine hK _ ?_; clear hK K))
    | ((first | refine (show AS.le _ _ from ?_) | refine (show leH _ _ from ?_) | refine (show inH _ _ from ?_)); simp only [AS.le, leT, leH, RoundK, AsgK, AV.le, AV.leL, AObj.le, inH, idsT, idsH, AV.ids, AV.idsL, AV.idsR, AObj.ids, lk, hget, go_sem, ↓reduceIte, Nat.reduceAdd, Nat.reduceMul, Nat.reduceSub, Nat.reduceLT, Nat.reduceLeDiff, Nat.reduceEqDiff, Nat.reduceBEq, Int.reduceToNat, Int.reduceLT, Int.reduceLE, Int.reduceAdd, Int.reduceSub, Int.reduceMul, Int.reduceNeg, Int.reduceEq])
    | refine fun (r2 : Rnd _) => ?_
    | refine fun (nb : Bool) (hnb : nb = true → _) => ?_
    | with_reducible refine And.intro ?_ ?_
    | exact ‹_ <+: _›
    | (refine (show drawOkF _ _ = true from ?_); kernel_rfl)
    | omega
    | refine fun (hg : (_ : Bool) = (_ : Bool)) => ?_)
    all_goals rfl

theorem find_take (n : Int) : ∀ (l : List Blk) (k j : Nat), findFrom n l k = ((k + j : Nat) : Int) → (l.take j).filter (fun q => q.1 != n) = l.take j
  | [], _, _, _ => by simp
  | q :: l, k, 0, _ => by simp
  | q :: l, k, j + 1, h => by
    simp only [findFrom] at h
    split at h
    · omega
    · rename_i hq
      have := find_take n l (k + 1) j (by rw [h]; congr 1; omega)
      simp only [List.take_succ_cons]
      rw [List.filter_cons_of_pos (by simpa using hq), this]

theorem find_none (n : Int) : ∀ (l : List Blk) (k : Nat), findFrom n l k = -1 → l.filter (fun q => q.1 != n) = l
  | [], _, _ => rfl
  | q :: l, k, h => by
    simp only [findFrom] at h
    split at h
    · omega
    · rename_i hq
      rw [List.filter_cons_of_pos (by simpa using hq), find_none n l (k + 1) h]

def drops (n : Int) (l : List Blk) : List Blk := l.filter (fun q => q.1 != n)

theorem drops_keep {n : Int} {l : List Blk} {i : Nat} {q : Blk} (hq : l[i]? = some q) (h : q.1 ≠ n) : drops n (l.take (i + 1)) = drops n (l.take i) ++ [q] := by
  unfold drops
  rw [at_take hq, List.filter_append, List.filter_cons_of_pos (p := fun q : Blk => q.1 != n) (by simpa using h)]
  rfl
theorem drops_drop {n : Int} {l : List Blk} {i : Nat} {q : Blk} (hq : l[i]? = some q) (h : q.1 = n) : drops n (l.take (i + 1)) = drops n (l.take i) := by
  unfold drops
  rw [at_take hq, List.filter_append, List.filter_cons_of_neg (p := fun q : Blk => q.1 != n) (by simp [h])]
  simp

noncomputable def tabDd : Tab := tabOf [e_drop1_ok, e_indexFuncD_ok]
theorem tabDd_ok : TabOk Try.prog tabDd := tabOf_ok _
@[go_sem] theorem tabDd_drop1_ok (args : List AV) : tabDd 60 args = (e_drop1_ok).e args := rfl
@[go_sem] theorem tabDd_indexFuncD_ok (args : List AV) : tabDd 63 args = (e_indexFuncD_ok).e args := rfl

abbrev Delst (l : List Blk) (n : Int) := { q : Nat × List Blk // q.1 ≤ l.length ∧ (drops n (l.take q.1)).length < q.1 ∧ q.2.length = l.length ∧ q.2.take (drops n (l.take q.1)).length = drops n (l.take q.1) ∧ q.2.drop q.1 = l.drop q.1 }

theorem deleteFunc_ok (l : List Blk) (n : Int) (hl : l.length ≤ 300) : ACall Try.prog 58 2 [.osl 1 3 l.length 0 l.length, .fn (.func 60) [] [.vp 0 0]] [(1, .arr 3 (l.map blkD)), (0, .var [.d (.int .i64 n)])]
    (fun r h' => ∃ X i, r = .osl 1 3 l.length 0 i ∧ h' = [(1, .arr 3 X), (0, .var [.d (.int .i64 n)])] ∧ X.length = l.length ∧ i ≤ l.length ∧ X.take i = (drops n l).map blkD) := by
  refine acall_of_body Try.func58 rfl (enters Try.func58 (by kernel_rfl) rfl) Try.ntmps58 (by simp) (fun base => ?_)
  rcases findFrom_spec n l 0 with h | ⟨j, q, h, hq, hm⟩
  · repeat' (first
    | ((first | refine aw_seq_regionT tabDd (tabDd_ok) (fun K hK => ?_) | refine aw_regionT tabDd (tabDd_ok) ?_ | refine aw_seq_region_drawF tabDd (tabDd_ok) (show (cxOf Try.prog 0 0 0).P.follows .mixedOrders = true by kernel_rfl) (fun K hK => ?_) | refine aw_region_drawF tabDd (tabDd_ok) (show (cxOf Try.prog 0 0 0).P.follows .mixedOrders = true by kernel_rfl) ?_ | refine aw_skip ?_ | refine aw_exit ?_ | refine aw_ret ?_); simp only [go_sem, ↓reduceIte, Nat.reduceAdd, Nat.reduceMul, Nat.reduceSub, Nat.reduceLT, Nat.reduceLeDiff, Nat.reduceEqDiff, Nat.reduceBEq, Int.reduceToNat, Int.reduceLT, Int.reduceLE, Int.reduceAdd, Int.reduceSub, Int.reduceMul, Int.reduceNeg, Int.reduceEq, h, Try.results58])
    | refine aw_seq (fun K hK => ?_)
    | refine aw_block ?_
    | refine aw_cond_t rfl ?_
    | refine aw_cond_f rfl ?_
    | refine aw_cond rfl (fun hc => ?_) (fun hc => ?_)
    | (first | (refine hK _ ?_; clear hK K) | (clear hK K; refine hK _ ?_; clear hK K) | (clear hK K; clear hK K; refine hK _ ?_; clear hK K) | (clear hK K; clear hK K; clear hK K; refine hK _ ?_; clear hK K) | (clear hK K; clear hK K; clear hK K; clear hK K; refine hK _ ?_; clear hK K))
    | ((first | refine (show AS.le _ _ from ?_) | refine (show leH _ _ from ?_) | refine (show inH _ _ from ?_)); simp only [AS.le, leT, leH, RoundK, AsgK, AV.le, AV.leL, AObj.le, inH, idsT, idsH, AV.ids, AV.idsL, AV.idsR, AObj.ids, lk, hget, go_sem, ↓reduceIte, Nat.reduceAdd, Nat.reduceMul, Nat.reduceSub, Nat.reduceLT, Nat.reduceLeDiff, Nat.reduceEqDiff, Nat.reduceBEq, Int.reduceToNat, Int.reduceLT, Int.reduceLE, Int.reduceAdd, Int.reduceSub, Int.reduceMul, Int.reduceNeg, Int.reduceEq, h])
    | refine fun (r2 : Rnd _) => ?_
    | refine fun (nb : Bool) (hnb : nb = true → _) => ?_
    | with_reducible refine And.intro ?_ ?_
    | exact ‹_ <+: _›
    | (refine (show drawOkF _ _ = true from ?_); kernel_rfl)
    | omega
    | refine fun (hg : (_ : Bool) = (_ : Bool)) => ?_)
    exact ⟨_, _, rfl, rfl, by simp, Nat.le_refl _, by rw [drops, find_none n l 0 h]; exact List.take_of_length_le (by simp)⟩
  · rw [Nat.zero_add] at h
    have hj := (List.getElem?_eq_some_iff.1 hq).1
    have hne : ((j : Int) == -1) = false := by rw [beq_eq_false_iff_ne]; omega
    have hwj := wrap_suc (i := j) (by omega)
    have hft := find_take n l 0 j (by rw [h]; simp)
    have hd0 : drops n (l.take (j + 1)) = l.take j := by
      rw [drops, at_take hq, List.filter_append, hft, List.filter_cons_of_neg (by simp [hm])]
      simp
    have hd0l : (l.take j).length = j := by rw [List.length_take]; omega
    repeat' (first
    | ((first | refine aw_seq_regionT tabDd (tabDd_ok) (fun K hK => ?_) | refine aw_regionT tabDd (tabDd_ok) ?_ | refine aw_seq_region_drawF tabDd (tabDd_ok) (show (cxOf Try.prog 0 0 0).P.follows .mixedOrders = true by kernel_rfl) (fun K hK => ?_) | refine aw_region_drawF tabDd (tabDd_ok) (show (cxOf Try.prog 0 0 0).P.follows .mixedOrders = true by kernel_rfl) ?_ | refine aw_skip ?_ | refine aw_exit ?_ | refine aw_ret ?_); simp only [go_sem, ↓reduceIte, Nat.reduceAdd, Nat.reduceMul, Nat.reduceSub, Nat.reduceLT, Nat.reduceLeDiff, Nat.reduceEqDiff, Nat.reduceBEq, Int.reduceToNat, Int.reduceLT, Int.reduceLE, Int.reduceAdd, Int.reduceSub, Int.reduceMul, Int.reduceNeg, Int.reduceEq, h, hne, hwj, Try.results58])
    | refine aw_seq (fun K hK => ?_)
    | refine aw_block ?_
    | refine aw_cond_t rfl ?_
    | refine aw_cond_f rfl ?_
    | refine aw_cond rfl (fun hc => ?_) (fun hc => ?_)
    | (first | (refine hK _ ?_; clear hK K) | (clear hK K; refine hK _ ?_; clear hK K) | (clear hK K; clear hK K; refine hK _ ?_; clear hK K) | (clear hK K; clear hK K; clear hK K; refine hK _ ?_; clear hK K) | (clear hK K; clear hK K; clear hK K; clear hK K; refine hK _ ?_; clear hK K))
    | ((first | refine (show AS.le _ _ from ?_) | refine (show leH _ _ from ?_) | refine (show inH _ _ from ?_)); simp only [AS.le, leT, leH, RoundK, AsgK, AV.le, AV.leL, AObj.le, inH, idsT, idsH, AV.ids, AV.idsL, AV.idsR, AObj.ids, lk, hget, go_sem, ↓reduceIte, Nat.reduceAdd, Nat.reduceMul, Nat.reduceSub, Nat.reduceLT, Nat.reduceLeDiff, Nat.reduceEqDiff, Nat.reduceBEq, Int.reduceToNat, Int.reduceLT, Int.reduceLE, Int.reduceAdd, Int.reduceSub, Int.reduceMul, Int.reduceNeg, Int.reduceEq, h, hne, hwj])
    | refine fun (r2 : Rnd _) => ?_
    | refine fun (nb : Bool) (hnb : nb = true → _) => ?_
    | with_reducible refine And.intro ?_ ?_
    | exact ‹_ <+: _›
    | (refine (show drawOkF _ _ = true from ?_); kernel_rfl)
    | omega
    | refine fun (hg : (_ : Bool) = (_ : Bool)) => ?_)
    refine aw_loop (fun q : Delst l n => ⟨[(0, true, .osl 1 3 l.length 0 l.length), (1, true, .fn (.func 60) [] [.vp 0 0]), (5, true, .d (.int .i64 (drops n (l.take q.1.1)).length)), (6, true, .d (.int .i64 q.1.1))], [(1, .arr 3 (q.1.2.map blkD)), (0, .var [.d (.int .i64 n)])], some []⟩) (fun q => l.length - q.1.1) ⟨(j + 1, l), by omega, by simp only [hd0, hd0l]; omega, rfl, by rw [hd0, hd0l], rfl⟩ (by simp only [AS.le, leT, leH, RoundK, AsgK, AV.le, AV.leL, AObj.le, inH, idsT, idsH, AV.ids, AV.idsL, AV.idsR, AObj.ids, lk, hget, go_sem, ↓reduceIte, Nat.reduceAdd, Nat.reduceMul, Nat.reduceSub, Nat.reduceLT, Nat.reduceLeDiff, Nat.reduceEqDiff, Nat.reduceBEq, Int.reduceToNat, Int.reduceLT, Int.reduceLE, Int.reduceAdd, Int.reduceSub, Int.reduceMul, Int.reduceNeg, Int.reduceEq, hd0, hd0l]) (fun q => ?_)
    obtain ⟨⟨i, R⟩, hi, hci, hRl, hRt, hRd⟩ := q
    simp only at hi hci hRl hRt hRd ⊢
    obtain ⟨c, hcc⟩ : ∃ c, c = (drops n (l.take i)).length := ⟨_, rfl⟩
    rw [← hcc] at hci hRt ⊢
    rcases at_cases blkD l i hi with ⟨⟨m, d, b⟩, hq, hlt, hcmp, hrow, hdr, htk⟩ | ⟨hend, hcmp⟩
    · have hRq : R[i]? = some (m, d, b) := by
        have : (R.drop i)[0]? = some (m, d, b) := by rw [hRd, hdr]; rfl
        simpa using this
      have hrow := at_row (g := blkD) hRq
      simp only [blkD] at hrow
      obtain ⟨⟨m', d', b'⟩, hRc⟩ := at_some (l := R) (i := c) (by omega)
      have hrowc := at_row (g := blkD) hRc
      simp only [blkD] at hrowc
      have hwc := wrap_suc (i := c) (by omega)
      have hwi := wrap_suc (i := i) (by omega)
      repeat' (first
    | ((first | refine aw_seq_regionT tabDd (tabDd_ok) (fun K hK => ?_) | refine aw_regionT tabDd (tabDd_ok) ?_ | refine aw_seq_region_drawF tabDd (tabDd_ok) (show (cxOf Try.prog 0 0 0).P.follows .mixedOrders = true by kernel_rfl) (fun K hK => ?_) | refine aw_region_drawF tabDd (tabDd_ok) (show (cxOf Try.prog 0 0 0).P.follows .mixedOrders = true by kernel_rfl) ?_ | refine aw_skip ?_ | refine aw_exit ?_ | refine aw_ret ?_); simp only [go_sem, ↓reduceIte, Nat.reduceAdd, Nat.reduceMul, Nat.reduceSub, Nat.reduceLT, Nat.reduceLeDiff, Nat.reduceEqDiff, Nat.reduceBEq, Int.reduceToNat, Int.reduceLT, Int.reduceLE, Int.reduceAdd, Int.reduceSub, Int.reduceMul, Int.reduceNeg, Int.reduceEq, hcmp, hrow, hrowc, putL, hRl, hwc, Try.results58])
    | refine aw_seq (fun K hK => ?_)
    | refine aw_block ?_
    | refine aw_cond_t rfl ?_
    | refine aw_cond_f rfl ?_
    | refine aw_cond rfl (fun hc => ?_) (fun hc => ?_)
    | (first | (refine hK _ ?_; clear hK K) | (clear hK K; refine hK _ ?_; clear hK K) | (clear hK K; clear hK K; refine hK _ ?_; clear hK K) | (clear hK K; clear hK K; clear hK K; refine hK _ ?_; clear hK K) | (clear hK K; clear hK K; clear hK K; clear hK K; refine hK _ ?_; clear hK K))
    | ((first | refine (show AS.le _ _ from ?_) | refine (show leH _ _ from ?_) | refine (show inH _ _ from ?_)); simp only [AS.le, leT, leH, RoundK, AsgK, AV.le, AV.leL, AObj.le, inH, idsT, idsH, AV.ids, AV.idsL, AV.idsR, AObj.ids, lk, hget, go_sem, ↓reduceIte, Nat.reduceAdd, Nat.reduceMul, Nat.reduceSub, Nat.reduceLT, Nat.reduceLeDiff, Nat.reduceEqDiff, Nat.reduceBEq, Int.reduceToNat, Int.reduceLT, Int.reduceLE, Int.reduceAdd, Int.reduceSub, Int.reduceMul, Int.reduceNeg, Int.reduceEq, hcmp, hrow, hrowc, putL, hRl, hwc])
    | refine fun (r2 : Rnd _) => ?_
    | refine fun (nb : Bool) (hnb : nb = true → _) => ?_
    | with_reducible refine And.intro ?_ ?_
    | exact ‹_ <+: _›
    | (refine (show drawOkF _ _ = true from ?_); kernel_rfl)
    | omega
    | refine fun (hg : (_ : Bool) = (_ : Bool)) => ?_)
      · have hmn : m ≠ n := by simpa using hc
        have hk := drops_keep hq hmn
        have hs : ((R.map blkD).set c [D.int .i64 m, D.str d, D.bool b]) = (R.set c (m, d, b)).map blkD := by rw [List.map_set]; rfl
        refine ⟨⟨(i + 1, R.set c (m, d, b)), by omega, by rw [hk]; simp; omega, by simpa using hRl, ?_, ?_⟩, by simp only [AS.le, leT, leH, RoundK, AsgK, AV.le, AV.leL, AObj.le, inH, idsT, idsH, AV.ids, AV.idsL, AV.idsR, AObj.ids, lk, hget, go_sem, ↓reduceIte, Nat.reduceAdd, Nat.reduceMul, Nat.reduceSub, Nat.reduceLT, Nat.reduceLeDiff, Nat.reduceEqDiff, Nat.reduceBEq, Int.reduceToNat, Int.reduceLT, Int.reduceLE, Int.reduceAdd, Int.reduceSub, Int.reduceMul, Int.reduceNeg, Int.reduceEq, hwi, hk, hs, ← hcc, List.length_append], by simp; omega⟩
        · have e1 : (drops n (l.take i) ++ [(m, d, b)]).length = c + 1 := by simp [hcc]
          simp only [hk, e1]
          rw [List.take_add_one, List.take_set_of_le (Nat.le_refl c), List.getElem?_set_self (by omega), hRt]
          rfl
        · simp only
          rw [List.drop_set_of_lt (by omega), ← List.tail_drop, ← List.tail_drop, hRd]
      · have hmn : m = n := by simpa using hc
        have hk := drops_drop hq hmn
        exact ⟨⟨(i + 1, R), by omega, by simp only [hk]; omega, hRl, by simp only [hk]; rw [← hcc]; exact hRt, by simp only; rw [← List.tail_drop, ← List.tail_drop, hRd]⟩, by simp only [AS.le, leT, leH, RoundK, AsgK, AV.le, AV.leL, AObj.le, inH, idsT, idsH, AV.ids, AV.idsL, AV.idsR, AObj.ids, lk, hget, go_sem, ↓reduceIte, Nat.reduceAdd, Nat.reduceMul, Nat.reduceSub, Nat.reduceLT, Nat.reduceLeDiff, Nat.reduceEqDiff, Nat.reduceBEq, Int.reduceToNat, Int.reduceLT, Int.reduceLE, Int.reduceAdd, Int.reduceSub, Int.reduceMul, Int.reduceNeg, Int.reduceEq, hwi, hk, ← hcc], by simp; omega⟩
    · have hXl : (rput (R.map blkD) c (List.replicate (l.length - c) [D.int .i64 0, D.str [], D.bool false])).length = l.length := by
        unfold rput; simp; omega
      repeat' (first
    | ((first | refine aw_seq_regionT tabDd (tabDd_ok) (fun K hK => ?_) | refine aw_regionT tabDd (tabDd_ok) ?_ | refine aw_seq_region_drawF tabDd (tabDd_ok) (show (cxOf Try.prog 0 0 0).P.follows .mixedOrders = true by kernel_rfl) (fun K hK => ?_) | refine aw_region_drawF tabDd (tabDd_ok) (show (cxOf Try.prog 0 0 0).P.follows .mixedOrders = true by kernel_rfl) ?_ | refine aw_skip ?_ | refine aw_exit ?_ | refine aw_ret ?_); simp only [go_sem, ↓reduceIte, Nat.reduceAdd, Nat.reduceMul, Nat.reduceSub, Nat.reduceLT, Nat.reduceLeDiff, Nat.reduceEqDiff, Nat.reduceBEq, Int.reduceToNat, Int.reduceLT, Int.reduceLE, Int.reduceAdd, Int.reduceSub, Int.reduceMul, Int.reduceNeg, Int.reduceEq, hcmp, hRl, hXl, Try.results58])
    | refine aw_seq (fun K hK => ?_)
    | refine aw_block ?_
    | refine aw_cond_t rfl ?_
    | refine aw_cond_f rfl ?_
    | refine aw_cond rfl (fun hc => ?_) (fun hc => ?_)
    | (first | (refine hK _ ?_; clear hK K) | (clear hK K; refine hK _ ?_; clear hK K) | (clear hK K; clear hK K; refine hK _ ?_; clear hK K) | (clear hK K; clear hK K; clear hK K; refine hK _ ?_; clear hK K) | (clear hK K; clear hK K; clear hK K; clear hK K; refine hK _ ?_; clear hK K))
    | ((first | refine (show AS.le _ _ from ?_) | refine (show leH _ _ from ?_) | refine (show inH _ _ from ?_)); simp only [AS.le, leT, leH, RoundK, AsgK, AV.le, AV.leL, AObj.le, inH, idsT, idsH, AV.ids, AV.idsL, AV.idsR, AObj.ids, lk, hget, go_sem, ↓reduceIte, Nat.reduceAdd, Nat.reduceMul, Nat.reduceSub, Nat.reduceLT, Nat.reduceLeDiff, Nat.reduceEqDiff, Nat.reduceBEq, Int.reduceToNat, Int.reduceLT, Int.reduceLE, Int.reduceAdd, Int.reduceSub, Int.reduceMul, Int.reduceNeg, Int.reduceEq, hcmp, hRl, hXl])
    | refine fun (r2 : Rnd _) => ?_
    | refine fun (nb : Bool) (hnb : nb = true → _) => ?_
    | with_reducible refine And.intro ?_ ?_
    | exact ‹_ <+: _›
    | (refine (show drawOkF _ _ = true from ?_); kernel_rfl)
    | omega
    | refine fun (hg : (_ : Bool) = (_ : Bool)) => ?_)
      refine ⟨_, c, by simp, rfl, hXl, by omega, ?_⟩
      unfold rput
      rw [List.append_assoc, List.take_append_of_le_length (by simp; omega), List.take_take, Nat.min_self, ← List.map_take, hRt, hend, take_all]

theorem cdrop_ok (l : List Blk) (n : Int) (hl : l.length ≤ 300) : ACall Try.prog 39 0 [.d (.sl 3 (l.map blkD)), .d (.int .i64 n)] [] (fun r _ => r = .d (.sl 3 ((drops n l).map blkD))) := by
  refine acall_frz ?_
  refine acall_of_body Try.func39 rfl (enters Try.func39 (by kernel_rfl) rfl) Try.ntmps39 (by simp) (fun base => ?_)
  repeat' (first
    | ((first | refine aw_seq_regionT noTab (noTab_ok _) (fun K hK => ?_) | refine aw_regionT noTab (noTab_ok _) ?_ | refine aw_seq_region_drawF noTab (noTab_ok _) (show (cxOf Try.prog 0 0 0).P.follows .mixedOrders = true by kernel_rfl) (fun K hK => ?_) | refine aw_region_drawF noTab (noTab_ok _) (show (cxOf Try.prog 0 0 0).P.follows .mixedOrders = true by kernel_rfl) ?_ | refine aw_skip ?_ | refine aw_exit ?_ | refine aw_ret ?_); simp only [go_sem, ↓reduceIte, Nat.reduceAdd, Nat.reduceMul, Nat.reduceSub, Nat.reduceLT, Nat.reduceLeDiff, Nat.reduceEqDiff, Nat.reduceBEq, Int.reduceToNat, Int.reduceLT, Int.reduceLE, Int.reduceAdd, Int.reduceSub, Int.reduceMul, Int.reduceNeg, Int.reduceEq, Try.results39])
    | refine aw_seq (fun K hK => ?_)
    | refine aw_block ?_
    | refine aw_cond_t rfl ?_
    | refine aw_cond_f rfl ?_
    | refine aw_cond rfl (fun hc => ?_) (fun hc => ?_)
    | (first | (refine hK _ ?_; clear hK K) | (clear hK K; refine hK _ ?_; clear hK K) | (clear hK K; clear hK K; refine hK _ ?_; clear hK K) | (clear hK K; clear hK K; clear hK K; refine hK _ ?_; clear hK K) | (clear hK K; clear hK K; clear hK K; clear hK K; refine hK _ ?_; clear hK K))
    | ((first | refine (show AS.le _ _ from ?_) | refine (show leH _ _ from ?_) | refine (show inH _ _ from ?_)); simp only [AS.le, leT, leH, RoundK, AsgK, AV.le, AV.leL, AObj.le, inH, idsT, idsH, AV.ids, AV.idsL, AV.idsR, AObj.ids, lk, hget, go_sem, ↓reduceIte, Nat.reduceAdd, Nat.reduceMul, Nat.reduceSub, Nat.reduceLT, Nat.reduceLeDiff, Nat.reduceEqDiff, Nat.reduceBEq, Int.reduceToNat, Int.reduceLT, Int.reduceLE, Int.reduceAdd, Int.reduceSub, Int.reduceMul, Int.reduceNeg, Int.reduceEq])
    | refine fun (r2 : Rnd _) => ?_
    | refine fun (nb : Bool) (hnb : nb = true → _) => ?_
    | with_reducible refine And.intro ?_ ?_
    | exact ‹_ <+: _›
    | (refine (show drawOkF _ _ = true from ?_); kernel_rfl)
    | omega
    | refine fun (hg : (_ : Bool) = (_ : Bool)) => ?_)
  refine ((cloneOwn_ok l 1 (by omega)).own rfl rfl (Nat.zero_le _) (by rintro r h' ⟨_, rfl⟩; rfl)).mono ?_
  rintro r h' ⟨h1, ⟨rfl, rfl⟩, rfl⟩
  simp only [go_sem, ↓reduceIte, Nat.reduceAdd, Nat.reduceMul, Nat.reduceSub, Nat.reduceLT, Nat.reduceLeDiff, Nat.reduceEqDiff, Nat.reduceBEq, Int.reduceToNat, Int.reduceLT, Int.reduceLE, Int.reduceAdd, Int.reduceSub, Int.reduceMul, Int.reduceNeg, Int.reduceEq]
  refine ((deleteFunc_ok l n hl).whole (hfl_of rfl) (Nat.zero_le _) (by rintro r h' ⟨X, i, _, rfl, _⟩ j hj; simp only [hget] at hj ⊢; split <;> simp_all)).mono ?_
  rintro r h' ⟨X, i, rfl, rfl, hX, hi, hXi⟩
  have hil : 0 + i ≤ l.length := by omega
  repeat' (first
    | ((first | refine aw_seq_regionT noTab (noTab_ok _) (fun K hK => ?_) | refine aw_regionT noTab (noTab_ok _) ?_ | refine aw_seq_region_drawF noTab (noTab_ok _) (show (cxOf Try.prog 0 0 0).P.follows .mixedOrders = true by kernel_rfl) (fun K hK => ?_) | refine aw_region_drawF noTab (noTab_ok _) (show (cxOf Try.prog 0 0 0).P.follows .mixedOrders = true by kernel_rfl) ?_ | refine aw_skip ?_ | refine aw_exit ?_ | refine aw_ret ?_); simp only [go_sem, ↓reduceIte, Nat.reduceAdd, Nat.reduceMul, Nat.reduceSub, Nat.reduceLT, Nat.reduceLeDiff, Nat.reduceEqDiff, Nat.reduceBEq, Int.reduceToNat, Int.reduceLT, Int.reduceLE, Int.reduceAdd, Int.reduceSub, Int.reduceMul, Int.reduceNeg, Int.reduceEq, hX, hXi, hi, Try.results39])
    | refine aw_seq (fun K hK => ?_)
    | refine aw_block ?_
    | refine aw_cond_t rfl ?_
    | refine aw_cond_f rfl ?_
    | refine aw_cond rfl (fun hc => ?_) (fun hc => ?_)
    | (first | (refine hK _ ?_; clear hK K) | (clear hK K; refine hK _ ?_; clear hK K) | (clear hK K; clear hK K; refine hK _ ?_; clear hK K) | (clear hK K; clear hK K; clear hK K; refine hK _ ?_; clear hK K) | (clear hK K; clear hK K; clear hK K; clear hK K; refine hK _ ?_; clear hK K))
    | ((first | refine (show AS.le _ _ from ?_) | refine (show leH _ _ from ?_) | refine (show inH _ _ from ?_)); simp only [AS.le, leT, leH, RoundK, AsgK, AV.le, AV.leL, AObj.le, inH, idsT, idsH, AV.ids, AV.idsL, AV.idsR, AObj.ids, lk, hget, go_sem, ↓reduceIte, Nat.reduceAdd, Nat.reduceMul, Nat.reduceSub, Nat.reduceLT, Nat.reduceLeDiff, Nat.reduceEqDiff, Nat.reduceBEq, Int.reduceToNat, Int.reduceLT, Int.reduceLE, Int.reduceAdd, Int.reduceSub, Int.reduceMul, Int.reduceNeg, Int.reduceEq, hX, hXi, hi])
    | refine fun (r2 : Rnd _) => ?_
    | refine fun (nb : Bool) (hnb : nb = true → _) => ?_
    | with_reducible refine And.intro ?_ ?_
    | exact ‹_ <+: _›
    | (refine (show drawOkF _ _ = true from ?_); kernel_rfl)
    | omega
    | refine fun (hg : (_ : Bool) = (_ : Bool)) => ?_)
noncomputable def e_cdrop_ok : Ent Try.prog := Ent.of 39 (fun x : (List Blk) × (Int) => (fun (l : List Blk) (n : Int) => ([.d (.sl 3 (l.map blkD)), .d (.int .i64 n)] : List AV)) x.1 x.2) (fun x : (List Blk) × (Int) => (fun (l : List Blk) (n : Int) => ((l.length ≤ 300) : Prop)) x.1 x.2) (fun x : (List Blk) × (Int) => (fun (l : List Blk) (n : Int) => (.d (.sl 3 ((drops n l).map blkD)) : AV)) x.1 x.2) (fun x hp => ⟨rfl, cdrop_ok x.1 x.2 hp⟩)
theorem i_cdrop_ok : ∀ x y : (List Blk) × (Int), (fun x : (List Blk) × (Int) => (fun (l : List Blk) (n : Int) => ([.d (.sl 3 (l.map blkD)), .d (.int .i64 n)] : List AV)) x.1 x.2) x = (fun x : (List Blk) × (Int) => (fun (l : List Blk) (n : Int) => ([.d (.sl 3 (l.map blkD)), .d (.int .i64 n)] : List AV)) x.1 x.2) y → x = y := by
  intro x y h
  obtain ⟨_, _⟩ := x
  obtain ⟨_, _⟩ := y
  simpa only [List.cons.injEq, AV.d.injEq, AV.agg.injEq, AV.dp.injEq, AV.fn.injEq, AV.tup.injEq, AV.asl.injEq, Int.natCast_inj, D.int.injEq, D.str.injEq, D.bool.injEq, D.sl.injEq, Prod.mk.injEq, and_true, true_and, and_assoc, map_inj blkD_inj, map_inj intD_inj, map_inj strD_inj, map_inj boolD_inj] using h
@[go_sem] theorem a0_cdrop_ok (l : List Blk) (n : Int) : (e_cdrop_ok).e [.d (.sl 3 (l.map blkD)), .d (.int .i64 n)] = some ((l.length ≤ 300), .d (.sl 3 ((drops n l).map blkD))) := Ent.of_app i_cdrop_ok (l, n)
@[go_sem] theorem a1_cdrop_ok (n : Int) : (e_cdrop_ok).e [.d (.sl 3 []), .d (.int .i64 n)] = some ((([] : List Blk).length ≤ 300), .d (.sl 3 ((drops n ([] : List Blk)).map blkD))) := Ent.of_app i_cdrop_ok (([] : List Blk), n)

theorem dropRef_ok (l : List Blk) (n : Int) (hl : l.length ≤ 300) : ACall Try.prog 40 0 [.d (.sl 3 (l.map blkD)), .d (.int .i64 n)] [] (fun r _ => r = .d (.sl 3 ((withoutFrom (findFrom n l 0) l 0).map blkD))) := by
  refine acall_of_body Try.func40 rfl (enters Try.func40 (by kernel_rfl) rfl) Try.ntmps40 (by simp) (fun base => ?_)
  repeat' (first
    | ((first | refine aw_seq_regionT tabJ (tabJ_ok) (fun K hK => ?_) | refine aw_regionT tabJ (tabJ_ok) ?_ | refine aw_seq_region_drawF tabJ (tabJ_ok) (show (cxOf Try.prog 0 0 0).P.follows .mixedOrders = true by kernel_rfl) (fun K hK => ?_) | refine aw_region_drawF tabJ (tabJ_ok) (show (cxOf Try.prog 0 0 0).P.follows .mixedOrders = true by kernel_rfl) ?_ | refine aw_skip ?_ | refine aw_exit ?_ | refine aw_ret ?_); simp only [go_sem, ↓reduceIte, Nat.reduceAdd, Nat.reduceMul, Nat.reduceSub, Nat.reduceLT, Nat.reduceLeDiff, Nat.reduceEqDiff, Nat.reduceBEq, Int.reduceToNat, Int.reduceLT, Int.reduceLE, Int.reduceAdd, Int.reduceSub, Int.reduceMul, Int.reduceNeg, Int.reduceEq, Try.results40])
    | refine aw_seq (fun K hK => ?_)
    | refine aw_block ?_
    | refine aw_cond_t rfl ?_
    | refine aw_cond_f rfl ?_
    | refine aw_cond rfl (fun hc => ?_) (fun hc => ?_)
    | (first | (refine hK _ ?_; clear hK K) | (clear hK K; refine hK _ ?_; clear hK K) | (clear hK K; clear hK K; refine hK _ ?_; clear hK K) | (clear hK K; clear hK K; clear hK K; refine hK _ ?_; clear hK K) | (clear hK K; clear hK K; clear hK K; clear hK K; refine hK _ ?_; clear hK K))
    | ((first | refine (show AS.le _ _ from ?_) | refine (show leH _ _ from ?_) | refine (show inH _ _ from ?_)); simp only [AS.le, leT, leH, RoundK, AsgK, AV.le, AV.leL, AObj.le, inH, idsT, idsH, AV.ids, AV.idsL, AV.idsR, AObj.ids, lk, hget, go_sem, ↓reduceIte, Nat.reduceAdd, Nat.reduceMul, Nat.reduceSub, Nat.reduceLT, Nat.reduceLeDiff, Nat.reduceEqDiff, Nat.reduceBEq, Int.reduceToNat, Int.reduceLT, Int.reduceLE, Int.reduceAdd, Int.reduceSub, Int.reduceMul, Int.reduceNeg, Int.reduceEq])
    | refine fun (r2 : Rnd _) => ?_
    | refine fun (nb : Bool) (hnb : nb = true → _) => ?_
    | with_reducible refine And.intro ?_ ?_
    | exact ‹_ <+: _›
    | (refine (show drawOkF _ _ = true from ?_); kernel_rfl)
    | omega
    | refine fun (hg : (_ : Bool) = (_ : Bool)) => ?_)
noncomputable def e_dropRef_ok : Ent Try.prog := Ent.of 40 (fun x : (List Blk) × (Int) => (fun (l : List Blk) (n : Int) => ([.d (.sl 3 (l.map blkD)), .d (.int .i64 n)] : List AV)) x.1 x.2) (fun x : (List Blk) × (Int) => (fun (l : List Blk) (n : Int) => ((l.length ≤ 300) : Prop)) x.1 x.2) (fun x : (List Blk) × (Int) => (fun (l : List Blk) (n : Int) => (.d (.sl 3 ((withoutFrom (findFrom n l 0) l 0).map blkD)) : AV)) x.1 x.2) (fun x hp => ⟨rfl, dropRef_ok x.1 x.2 hp⟩)
theorem i_dropRef_ok : ∀ x y : (List Blk) × (Int), (fun x : (List Blk) × (Int) => (fun (l : List Blk) (n : Int) => ([.d (.sl 3 (l.map blkD)), .d (.int .i64 n)] : List AV)) x.1 x.2) x = (fun x : (List Blk) × (Int) => (fun (l : List Blk) (n : Int) => ([.d (.sl 3 (l.map blkD)), .d (.int .i64 n)] : List AV)) x.1 x.2) y → x = y := by
  intro x y h
  obtain ⟨_, _⟩ := x
  obtain ⟨_, _⟩ := y
  simpa only [List.cons.injEq, AV.d.injEq, AV.agg.injEq, AV.dp.injEq, AV.fn.injEq, AV.tup.injEq, AV.asl.injEq, Int.natCast_inj, D.int.injEq, D.str.injEq, D.bool.injEq, D.sl.injEq, Prod.mk.injEq, and_true, true_and, and_assoc, map_inj blkD_inj, map_inj intD_inj, map_inj strD_inj, map_inj boolD_inj] using h
@[go_sem] theorem a0_dropRef_ok (l : List Blk) (n : Int) : (e_dropRef_ok).e [.d (.sl 3 (l.map blkD)), .d (.int .i64 n)] = some ((l.length ≤ 300), .d (.sl 3 ((withoutFrom (findFrom n l 0) l 0).map blkD))) := Ent.of_app i_dropRef_ok (l, n)
@[go_sem] theorem a1_dropRef_ok (n : Int) : (e_dropRef_ok).e [.d (.sl 3 []), .d (.int .i64 n)] = some ((([] : List Blk).length ≤ 300), .d (.sl 3 ((withoutFrom (findFrom n ([] : List Blk) 0) ([] : List Blk) 0).map blkD))) := Ent.of_app i_dropRef_ok (([] : List Blk), n)

/-! ### Clean -/
def clean (l : List Blk) : List Blk := l.map fun q => (q.1, q.2.1, false)

theorem cclean_ok (l : List Blk) (hl : l.length ≤ 300) : ACall Try.prog 42 0 [.d (.sl 3 (l.map blkD))] [] (fun r _ => r = .d (.sl 3 ((clean l).map blkD))) := by
  refine acall_frz ?_
  refine acall_of_body Try.func42 rfl (enters Try.func42 (by kernel_rfl) rfl) Try.ntmps42 (by simp) (fun base => ?_)
  repeat' (first
    | ((first | refine aw_seq_regionT noTab (noTab_ok _) (fun K hK => ?_) | refine aw_regionT noTab (noTab_ok _) ?_ | refine aw_seq_region_drawF noTab (noTab_ok _) (show (cxOf Try.prog 0 0 0).P.follows .mixedOrders = true by kernel_rfl) (fun K hK => ?_) | refine aw_region_drawF noTab (noTab_ok _) (show (cxOf Try.prog 0 0 0).P.follows .mixedOrders = true by kernel_rfl) ?_ | refine aw_skip ?_ | refine aw_exit ?_ | refine aw_ret ?_); simp only [go_sem, ↓reduceIte, Nat.reduceAdd, Nat.reduceMul, Nat.reduceSub, Nat.reduceLT, Nat.reduceLeDiff, Nat.reduceEqDiff, Nat.reduceBEq, Int.reduceToNat, Int.reduceLT, Int.reduceLE, Int.reduceAdd, Int.reduceSub, Int.reduceMul, Int.reduceNeg, Int.reduceEq, Try.results42])
    | refine aw_seq (fun K hK => ?_)
    | refine aw_block ?_
    | refine aw_cond_t rfl ?_
    | refine aw_cond_f rfl ?_
    | refine aw_cond rfl (fun hc => ?_) (fun hc => ?_)
    | (first | (refine hK _ ?_; clear hK K) | (clear hK K; refine hK _ ?_; clear hK K) | (clear hK K; clear hK K; refine hK _ ?_; clear hK K) | (clear hK K; clear hK K; clear hK K; refine hK _ ?_; clear hK K) | (clear hK K; clear hK K; clear hK K; clear hK K; refine hK _ ?_; clear hK K))
    | ((first | refine (show AS.le _ _ from ?_) | refine (show leH _ _ from ?_) | refine (show inH _ _ from ?_)); simp only [AS.le, leT, leH, RoundK, AsgK, AV.le, AV.leL, AObj.le, inH, idsT, idsH, AV.ids, AV.idsL, AV.idsR, AObj.ids, lk, hget, go_sem, ↓reduceIte, Nat.reduceAdd, Nat.reduceMul, Nat.reduceSub, Nat.reduceLT, Nat.reduceLeDiff, Nat.reduceEqDiff, Nat.reduceBEq, Int.reduceToNat, Int.reduceLT, Int.reduceLE, Int.reduceAdd, Int.reduceSub, Int.reduceMul, Int.reduceNeg, Int.reduceEq])
    | refine fun (r2 : Rnd _) => ?_
    | refine fun (nb : Bool) (hnb : nb = true → _) => ?_
    | with_reducible refine And.intro ?_ ?_
    | exact ‹_ <+: _›
    | (refine (show drawOkF _ _ = true from ?_); kernel_rfl)
    | omega
    | refine fun (hg : (_ : Bool) = (_ : Bool)) => ?_)
  refine ((cloneOwn_ok l 0 (by omega)).own rfl rfl (Nat.zero_le _) (by rintro r h' ⟨_, rfl⟩; rfl)).mono ?_
  rintro r h' ⟨h1, ⟨rfl, rfl⟩, rfl⟩
  repeat' (first
    | ((first | refine aw_seq_regionT noTab (noTab_ok _) (fun K hK => ?_) | refine aw_regionT noTab (noTab_ok _) ?_ | refine aw_seq_region_drawF noTab (noTab_ok _) (show (cxOf Try.prog 0 0 0).P.follows .mixedOrders = true by kernel_rfl) (fun K hK => ?_) | refine aw_region_drawF noTab (noTab_ok _) (show (cxOf Try.prog 0 0 0).P.follows .mixedOrders = true by kernel_rfl) ?_ | refine aw_skip ?_ | refine aw_exit ?_ | refine aw_ret ?_); simp only [go_sem, ↓reduceIte, Nat.reduceAdd, Nat.reduceMul, Nat.reduceSub, Nat.reduceLT, Nat.reduceLeDiff, Nat.reduceEqDiff, Nat.reduceBEq, Int.reduceToNat, Int.reduceLT, Int.reduceLE, Int.reduceAdd, Int.reduceSub, Int.reduceMul, Int.reduceNeg, Int.reduceEq, Try.results42])
    | refine aw_seq (fun K hK => ?_)
    | refine aw_block ?_
    | refine aw_cond_t rfl ?_
    | refine aw_cond_f rfl ?_
    | refine aw_cond rfl (fun hc => ?_) (fun hc => ?_)
    | (first | (refine hK _ ?_; clear hK K) | (clear hK K; refine hK _ ?_; clear hK K) | (clear hK K; clear hK K; refine hK _ ?_; clear hK K) | (clear hK K; clear hK K; clear hK K; refine hK _ ?_; clear hK K) | (clear hK K; clear hK K; clear hK K; clear hK K; refine hK _ ?_; clear hK K))
    | ((first | refine (show AS.le _ _ from ?_) | refine (show leH _ _ from ?_) | refine (show inH _ _ from ?_)); simp only [AS.le, leT, leH, RoundK, AsgK, AV.le, AV.leL, AObj.le, inH, idsT, idsH, AV.ids, AV.idsL, AV.idsR, AObj.ids, lk, hget, go_sem, ↓reduceIte, Nat.reduceAdd, Nat.reduceMul, Nat.reduceSub, Nat.reduceLT, Nat.reduceLeDiff, Nat.reduceEqDiff, Nat.reduceBEq, Int.reduceToNat, Int.reduceLT, Int.reduceLE, Int.reduceAdd, Int.reduceSub, Int.reduceMul, Int.reduceNeg, Int.reduceEq])
    | refine fun (r2 : Rnd _) => ?_
    | refine fun (nb : Bool) (hnb : nb = true → _) => ?_
    | with_reducible refine And.intro ?_ ?_
    | exact ‹_ <+: _›
    | (refine (show drawOkF _ _ = true from ?_); kernel_rfl)
    | omega
    | refine fun (hg : (_ : Bool) = (_ : Bool)) => ?_)
  refine aw_loop (fun q : {i : Nat // i ≤ l.length} => ⟨[(0, true, .osl 0 3 l.length 0 l.length), (7, true, .d (.int .i64 l.length)), (8, true, .d (.int .i64 q.1))], [(0, .arr 3 ((clean (l.take q.1) ++ l.drop q.1).map blkD))], some []⟩) (fun q => l.length - q.1) ⟨0, Nat.zero_le _⟩ (by simp only [AS.le, leT, leH, RoundK, AsgK, AV.le, AV.leL, AObj.le, inH, idsT, idsH, AV.ids, AV.idsL, AV.idsR, AObj.ids, lk, hget, go_sem, ↓reduceIte, Nat.reduceAdd, Nat.reduceMul, Nat.reduceSub, Nat.reduceLT, Nat.reduceLeDiff, Nat.reduceEqDiff, Nat.reduceBEq, Int.reduceToNat, Int.reduceLT, Int.reduceLE, Int.reduceAdd, Int.reduceSub, Int.reduceMul, Int.reduceNeg, Int.reduceEq]; exact ⟨rfl, rfl⟩) (fun q => ?_)
  obtain ⟨i, hi⟩ := q
  simp only at hi ⊢
  have hcl : (clean (l.take i)).length = i := by simp [clean]; omega
  rcases at_cases blkD l i hi with ⟨⟨m, d, b⟩, hq, hlt, hcmp, hrow, hdr, htk⟩ | ⟨hend, hcmp⟩
  · have hRq : (clean (l.take i) ++ l.drop i)[i]? = some (m, d, b) := by
      rw [List.getElem?_append_right (by omega), hcl, Nat.sub_self, hdr]; rfl
    have hrow := at_row (g := blkD) hRq
    simp only [blkD] at hrow
    have hRl : (clean (l.take i) ++ l.drop i).length = l.length := by simp [clean]; omega
    have hwi := wrap_suc (i := i) (by omega)
    have hs : ((clean (l.take i) ++ l.drop i).map blkD).set i [D.int .i64 m, D.str d, D.bool false] = (clean (l.take (i + 1)) ++ l.drop (i + 1)).map blkD := by
      have e : [D.int .i64 m, D.str d, D.bool false] = blkD (m, d, false) := rfl
      rw [e, ← List.map_set, List.set_append_right _ _ (by omega), hcl, Nat.sub_self, hdr, htk]
      simp [clean]
    repeat' (first
    | ((first | refine aw_seq_regionT noTab (noTab_ok _) (fun K hK => ?_) | refine aw_regionT noTab (noTab_ok _) ?_ | refine aw_seq_region_drawF noTab (noTab_ok _) (show (cxOf Try.prog 0 0 0).P.follows .mixedOrders = true by kernel_rfl) (fun K hK => ?_) | refine aw_region_drawF noTab (noTab_ok _) (show (cxOf Try.prog 0 0 0).P.follows .mixedOrders = true by kernel_rfl) ?_ | refine aw_skip ?_ | refine aw_exit ?_ | refine aw_ret ?_); simp only [go_sem, ↓reduceIte, Nat.reduceAdd, Nat.reduceMul, Nat.reduceSub, Nat.reduceLT, Nat.reduceLeDiff, Nat.reduceEqDiff, Nat.reduceBEq, Int.reduceToNat, Int.reduceLT, Int.reduceLE, Int.reduceAdd, Int.reduceSub, Int.reduceMul, Int.reduceNeg, Int.reduceEq, hcmp, hrow, putL, hRl, Try.results42])
    | refine aw_seq (fun K hK => ?_)
    | refine aw_block ?_
    | refine aw_cond_t rfl ?_
    | refine aw_cond_f rfl ?_
    | refine aw_cond rfl (fun hc => ?_) (fun hc => ?_)
    | (first | (refine hK _ ?_; clear hK K) | (clear hK K; refine hK _ ?_; clear hK K) | (clear hK K; clear hK K; refine hK _ ?_; clear hK K) | (clear hK K; clear hK K; clear hK K; refine hK _ ?_; clear hK K) | (clear hK K; clear hK K; clear hK K; clear hK K; refine hK _ ?_; clear hK K))
    | ((first | refine (show AS.le _ _ from ?_) | refine (show leH _ _ from ?_) | refine (show inH _ _ from ?_)); simp only [AS.le, leT, leH, RoundK, AsgK, AV.le, AV.leL, AObj.le, inH, idsT, idsH, AV.ids, AV.idsL, AV.idsR, AObj.ids, lk, hget, go_sem, ↓reduceIte, Nat.reduceAdd, Nat.reduceMul, Nat.reduceSub, Nat.reduceLT, Nat.reduceLeDiff, Nat.reduceEqDiff, Nat.reduceBEq, Int.reduceToNat, Int.reduceLT, Int.reduceLE, Int.reduceAdd, Int.reduceSub, Int.reduceMul, Int.reduceNeg, Int.reduceEq, hcmp, hrow, putL, hRl])
    | refine fun (r2 : Rnd _) => ?_
    | refine fun (nb : Bool) (hnb : nb = true → _) => ?_
    | with_reducible refine And.intro ?_ ?_
    | exact ‹_ <+: _›
    | (refine (show drawOkF _ _ = true from ?_); kernel_rfl)
    | omega
    | refine fun (hg : (_ : Bool) = (_ : Bool)) => ?_)
    exact ⟨⟨i + 1, by omega⟩, by simp only [AS.le, leT, leH, RoundK, AsgK, AV.le, AV.leL, AObj.le, inH, idsT, idsH, AV.ids, AV.idsL, AV.idsR, AObj.ids, lk, hget, go_sem, ↓reduceIte, Nat.reduceAdd, Nat.reduceMul, Nat.reduceSub, Nat.reduceLT, Nat.reduceLeDiff, Nat.reduceEqDiff, Nat.reduceBEq, Int.reduceToNat, Int.reduceLT, Int.reduceLE, Int.reduceAdd, Int.reduceSub, Int.reduceMul, Int.reduceNeg, Int.reduceEq, hwi, hs], by simp; omega⟩
  · repeat' (first
    | ((first | refine aw_seq_regionT noTab (noTab_ok _) (fun K hK => ?_) | refine aw_regionT noTab (noTab_ok _) ?_ | refine aw_seq_region_drawF noTab (noTab_ok _) (show (cxOf Try.prog 0 0 0).P.follows .mixedOrders = true by kernel_rfl) (fun K hK => ?_) | refine aw_region_drawF noTab (noTab_ok _) (show (cxOf Try.prog 0 0 0).P.follows .mixedOrders = true by kernel_rfl) ?_ | refine aw_skip ?_ | refine aw_exit ?_ | refine aw_ret ?_); simp only [go_sem, ↓reduceIte, Nat.reduceAdd, Nat.reduceMul, Nat.reduceSub, Nat.reduceLT, Nat.reduceLeDiff, Nat.reduceEqDiff, Nat.reduceBEq, Int.reduceToNat, Int.reduceLT, Int.reduceLE, Int.reduceAdd, Int.reduceSub, Int.reduceMul, Int.reduceNeg, Int.reduceEq, hcmp, Try.results42])
    | refine aw_seq (fun K hK => ?_)
    | refine aw_block ?_
    | refine aw_cond_t rfl ?_
    | refine aw_cond_f rfl ?_
    | refine aw_cond rfl (fun hc => ?_) (fun hc => ?_)
    | (first | (refine hK _ ?_; clear hK K) | (clear hK K; refine hK _ ?_; clear hK K) | (clear hK K; clear hK K; refine hK _ ?_; clear hK K) | (clear hK K; clear hK K; clear hK K; refine hK _ ?_; clear hK K) | (clear hK K; clear hK K; clear hK K; clear hK K; refine hK _ ?_; clear hK K))
    | ((first | refine (show AS.le _ _ from ?_) | refine (show leH _ _ from ?_) | refine (show inH _ _ from ?_)); simp only [AS.le, leT, leH, RoundK, AsgK, AV.le, AV.leL, AObj.le, inH, idsT, idsH, AV.ids, AV.idsL, AV.idsR, AObj.ids, lk, hget, go_sem, ↓reduceIte, Nat.reduceAdd, Nat.reduceMul, Nat.reduceSub, Nat.reduceLT, Nat.reduceLeDiff, Nat.reduceEqDiff, Nat.reduceBEq, Int.reduceToNat, Int.reduceLT, Int.reduceLE, Int.reduceAdd, Int.reduceSub, Int.reduceMul, Int.reduceNeg, Int.reduceEq, hcmp])
    | refine fun (r2 : Rnd _) => ?_
    | refine fun (nb : Bool) (hnb : nb = true → _) => ?_
    | with_reducible refine And.intro ?_ ?_
    | exact ‹_ <+: _›
    | (refine (show drawOkF _ _ = true from ?_); kernel_rfl)
    | omega
    | refine fun (hg : (_ : Bool) = (_ : Bool)) => ?_)
    rw [hend, take_all, List.drop_length, List.append_nil, if_pos (by simp [clean]), List.take_of_length_le (by simp [clean])]
noncomputable def e_cclean_ok : Ent Try.prog := Ent.of 42 (fun x : (List Blk) => (fun (l : List Blk) => ([.d (.sl 3 (l.map blkD))] : List AV)) x) (fun x : (List Blk) => (fun (l : List Blk) => ((l.length ≤ 300) : Prop)) x) (fun x : (List Blk) => (fun (l : List Blk) => (.d (.sl 3 ((clean l).map blkD)) : AV)) x) (fun x hp => ⟨rfl, cclean_ok x hp⟩)
theorem i_cclean_ok : ∀ x y : (List Blk), (fun x : (List Blk) => (fun (l : List Blk) => ([.d (.sl 3 (l.map blkD))] : List AV)) x) x = (fun x : (List Blk) => (fun (l : List Blk) => ([.d (.sl 3 (l.map blkD))] : List AV)) x) y → x = y := by
  intro x y h
  skip
  simpa only [List.cons.injEq, AV.d.injEq, AV.agg.injEq, AV.dp.injEq, AV.fn.injEq, AV.tup.injEq, AV.asl.injEq, Int.natCast_inj, D.int.injEq, D.str.injEq, D.bool.injEq, D.sl.injEq, Prod.mk.injEq, and_true, true_and, and_assoc, map_inj blkD_inj, map_inj intD_inj, map_inj strD_inj, map_inj boolD_inj] using h
@[go_sem] theorem a0_cclean_ok (l : List Blk) : (e_cclean_ok).e [.d (.sl 3 (l.map blkD))] = some ((l.length ≤ 300), .d (.sl 3 ((clean l).map blkD))) := Ent.of_app i_cclean_ok (l)
@[go_sem] theorem a1_cclean_ok  : (e_cclean_ok).e [.d (.sl 3 [])] = some ((([] : List Blk).length ≤ 300), .d (.sl 3 ((clean ([] : List Blk)).map blkD))) := Ent.of_app i_cclean_ok (([] : List Blk))

theorem cleanRef_ok (l : List Blk) (hl : l.length ≤ 300) : ACall Try.prog 43 0 [.d (.sl 3 (l.map blkD))] [] (fun r _ => r = .d (.sl 3 ((clean l).map blkD))) := by
  refine acall_frz ?_
  refine acall_of_body Try.func43 rfl (enters Try.func43 (by kernel_rfl) rfl) Try.ntmps43 (by simp) (fun base => ?_)
  repeat' (first
    | ((first | refine aw_seq_regionT noTab (noTab_ok _) (fun K hK => ?_) | refine aw_regionT noTab (noTab_ok _) ?_ | refine aw_seq_region_drawF noTab (noTab_ok _) (show (cxOf Try.prog 0 0 0).P.follows .mixedOrders = true by kernel_rfl) (fun K hK => ?_) | refine aw_region_drawF noTab (noTab_ok _) (show (cxOf Try.prog 0 0 0).P.follows .mixedOrders = true by kernel_rfl) ?_ | refine aw_skip ?_ | refine aw_exit ?_ | refine aw_ret ?_); simp only [go_sem, ↓reduceIte, Nat.reduceAdd, Nat.reduceMul, Nat.reduceSub, Nat.reduceLT, Nat.reduceLeDiff, Nat.reduceEqDiff, Nat.reduceBEq, Int.reduceToNat, Int.reduceLT, Int.reduceLE, Int.reduceAdd, Int.reduceSub, Int.reduceMul, Int.reduceNeg, Int.reduceEq, Try.results43])
    | refine aw_seq (fun K hK => ?_)
    | refine aw_block ?_
    | refine aw_cond_t rfl ?_
    | refine aw_cond_f rfl ?_
    | refine aw_cond rfl (fun hc => ?_) (fun hc => ?_)
    | (first | (refine hK _ ?_; clear hK K) | (clear hK K; refine hK _ ?_; clear hK K) | (clear hK K; clear hK K; refine hK _ ?_; clear hK K) | (clear hK K; clear hK K; clear hK K; refine hK _ ?_; clear hK K) | (clear hK K; clear hK K; clear hK K; clear hK K; refine hK _ ?_; clear hK K))
    | ((first | refine (show AS.le _ _ from ?_) | refine (show leH _ _ from ?_) | refine (show inH _ _ from ?_)); simp only [AS.le, leT, leH, RoundK, AsgK, AV.le, AV.leL, AObj.le, inH, idsT, idsH, AV.ids, AV.idsL, AV.idsR, AObj.ids, lk, hget, go_sem, ↓reduceIte, Nat.reduceAdd, Nat.reduceMul, Nat.reduceSub, Nat.reduceLT, Nat.reduceLeDiff, Nat.reduceEqDiff, Nat.reduceBEq, Int.reduceToNat, Int.reduceLT, Int.reduceLE, Int.reduceAdd, Int.reduceSub, Int.reduceMul, Int.reduceNeg, Int.reduceEq])
    | refine fun (r2 : Rnd _) => ?_
    | refine fun (nb : Bool) (hnb : nb = true → _) => ?_
    | with_reducible refine And.intro ?_ ?_
    | exact ‹_ <+: _›
    | (refine (show drawOkF _ _ = true from ?_); kernel_rfl)
    | omega
    | refine fun (hg : (_ : Bool) = (_ : Bool)) => ?_)
  refine aw_adopt 3 3 rfl ?_
  refine aw_loop (fun q : {i : Nat // i ≤ l.length} => ⟨[(0, true, .d (.sl 3 (l.map blkD))), (3, true, .osl 0 3 q.1 0 q.1), (4, true, .d (.int .i64 q.1))], [(0, .arr 3 ((clean (l.take q.1)).map blkD))], some []⟩) (fun q => l.length - q.1) ⟨0, Nat.zero_le _⟩ (by simp only [AS.le, leT, leH, RoundK, AsgK, AV.le, AV.leL, AObj.le, inH, idsT, idsH, AV.ids, AV.idsL, AV.idsR, AObj.ids, lk, hget, go_sem, ↓reduceIte, Nat.reduceAdd, Nat.reduceMul, Nat.reduceSub, Nat.reduceLT, Nat.reduceLeDiff, Nat.reduceEqDiff, Nat.reduceBEq, Int.reduceToNat, Int.reduceLT, Int.reduceLE, Int.reduceAdd, Int.reduceSub, Int.reduceMul, Int.reduceNeg, Int.reduceEq]; exact ⟨rfl, rfl⟩) (fun q => ?_)
  obtain ⟨i, hi⟩ := q
  simp only at hi ⊢
  have hcl : (clean (l.take i)).length = i := by simp [clean]; omega
  rcases at_cases blkD l i hi with ⟨⟨m, d, b⟩, hq, hlt, hcmp, hrow, hdr, htk⟩ | ⟨hend, hcmp⟩
  · simp only [blkD] at hrow
    have hwi := wrap_suc (i := i) (by omega)
    have hs : (clean (l.take i)).map blkD ++ [[D.int .i64 m, D.str d, D.bool false]] = (clean (l.take (i + 1))).map blkD := by
      rw [htk]; simp [clean, blkD]
    repeat' (first
    | ((first | refine aw_seq_regionT noTab (noTab_ok _) (fun K hK => ?_) | refine aw_regionT noTab (noTab_ok _) ?_ | refine aw_seq_region_drawF noTab (noTab_ok _) (show (cxOf Try.prog 0 0 0).P.follows .mixedOrders = true by kernel_rfl) (fun K hK => ?_) | refine aw_region_drawF noTab (noTab_ok _) (show (cxOf Try.prog 0 0 0).P.follows .mixedOrders = true by kernel_rfl) ?_ | refine aw_skip ?_ | refine aw_exit ?_ | refine aw_ret ?_); simp only [go_sem, ↓reduceIte, Nat.reduceAdd, Nat.reduceMul, Nat.reduceSub, Nat.reduceLT, Nat.reduceLeDiff, Nat.reduceEqDiff, Nat.reduceBEq, Int.reduceToNat, Int.reduceLT, Int.reduceLE, Int.reduceAdd, Int.reduceSub, Int.reduceMul, Int.reduceNeg, Int.reduceEq, hcmp, hrow, hcl, putL, Try.results43])
    | refine aw_seq (fun K hK => ?_)
    | refine aw_block ?_
    | refine aw_cond_t rfl ?_
    | refine aw_cond_f rfl ?_
    | refine aw_cond rfl (fun hc => ?_) (fun hc => ?_)
    | (first | (refine hK _ ?_; clear hK K) | (clear hK K; refine hK _ ?_; clear hK K) | (clear hK K; clear hK K; refine hK _ ?_; clear hK K) | (clear hK K; clear hK K; clear hK K; refine hK _ ?_; clear hK K) | (clear hK K; clear hK K; clear hK K; clear hK K; refine hK _ ?_; clear hK K))
    | ((first | refine (show AS.le _ _ from ?_) | refine (show leH _ _ from ?_) | refine (show inH _ _ from ?_)); simp only [AS.le, leT, leH, RoundK, AsgK, AV.le, AV.leL, AObj.le, inH, idsT, idsH, AV.ids, AV.idsL, AV.idsR, AObj.ids, lk, hget, go_sem, ↓reduceIte, Nat.reduceAdd, Nat.reduceMul, Nat.reduceSub, Nat.reduceLT, Nat.reduceLeDiff, Nat.reduceEqDiff, Nat.reduceBEq, Int.reduceToNat, Int.reduceLT, Int.reduceLE, Int.reduceAdd, Int.reduceSub, Int.reduceMul, Int.reduceNeg, Int.reduceEq, hcmp, hrow, hcl, putL])
    | refine fun (r2 : Rnd _) => ?_
    | refine fun (nb : Bool) (hnb : nb = true → _) => ?_
    | with_reducible refine And.intro ?_ ?_
    | exact ‹_ <+: _›
    | (refine (show drawOkF _ _ = true from ?_); kernel_rfl)
    | omega
    | refine fun (hg : (_ : Bool) = (_ : Bool)) => ?_)
    exact ⟨⟨i + 1, by omega⟩, by simp only [AS.le, leT, leH, RoundK, AsgK, AV.le, AV.leL, AObj.le, inH, idsT, idsH, AV.ids, AV.idsL, AV.idsR, AObj.ids, lk, hget, go_sem, ↓reduceIte, Nat.reduceAdd, Nat.reduceMul, Nat.reduceSub, Nat.reduceLT, Nat.reduceLeDiff, Nat.reduceEqDiff, Nat.reduceBEq, Int.reduceToNat, Int.reduceLT, Int.reduceLE, Int.reduceAdd, Int.reduceSub, Int.reduceMul, Int.reduceNeg, Int.reduceEq, hwi, hs], by simp; omega⟩
  · repeat' (first
    | ((first | refine aw_seq_regionT noTab (noTab_ok _) (fun K hK => ?_) | refine aw_regionT noTab (noTab_ok _) ?_ | refine aw_seq_region_drawF noTab (noTab_ok _) (show (cxOf Try.prog 0 0 0).P.follows .mixedOrders = true by kernel_rfl) (fun K hK => ?_) | refine aw_region_drawF noTab (noTab_ok _) (show (cxOf Try.prog 0 0 0).P.follows .mixedOrders = true by kernel_rfl) ?_ | refine aw_skip ?_ | refine aw_exit ?_ | refine aw_ret ?_); simp only [go_sem, ↓reduceIte, Nat.reduceAdd, Nat.reduceMul, Nat.reduceSub, Nat.reduceLT, Nat.reduceLeDiff, Nat.reduceEqDiff, Nat.reduceBEq, Int.reduceToNat, Int.reduceLT, Int.reduceLE, Int.reduceAdd, Int.reduceSub, Int.reduceMul, Int.reduceNeg, Int.reduceEq, hcmp, hcl, Try.results43])
    | refine aw_seq (fun K hK => ?_)
    | refine aw_block ?_
    | refine aw_cond_t rfl ?_
    | refine aw_cond_f rfl ?_
    | refine aw_cond rfl (fun hc => ?_) (fun hc => ?_)
    | (first | (refine hK _ ?_; clear hK K) | (clear hK K; refine hK _ ?_; clear hK K) | (clear hK K; clear hK K; refine hK _ ?_; clear hK K) | (clear hK K; clear hK K; clear hK K; refine hK _ ?_; clear hK K) | (clear hK K; clear hK K; clear hK K; clear hK K; refine hK _ ?_; clear hK K))
    | ((first | refine (show AS.le _ _ from ?_) | refine (show leH _ _ from ?_) | refine (show inH _ _ from ?_)); simp only [AS.le, leT, leH, RoundK, AsgK, AV.le, AV.leL, AObj.le, inH, idsT, idsH, AV.ids, AV.idsL, AV.idsR, AObj.ids, lk, hget, go_sem, ↓reduceIte, Nat.reduceAdd, Nat.reduceMul, Nat.reduceSub, Nat.reduceLT, Nat.reduceLeDiff, Nat.reduceEqDiff, Nat.reduceBEq, Int.reduceToNat, Int.reduceLT, Int.reduceLE, Int.reduceAdd, Int.reduceSub, Int.reduceMul, Int.reduceNeg, Int.reduceEq, hcmp, hcl])
    | refine fun (r2 : Rnd _) => ?_
    | refine fun (nb : Bool) (hnb : nb = true → _) => ?_
    | with_reducible refine And.intro ?_ ?_
    | exact ‹_ <+: _›
    | (refine (show drawOkF _ _ = true from ?_); kernel_rfl)
    | omega
    | refine fun (hg : (_ : Bool) = (_ : Bool)) => ?_)
    rw [hend, take_all, List.take_of_length_le (by simp [clean])]
noncomputable def e_cleanRef_ok : Ent Try.prog := Ent.of 43 (fun x : (List Blk) => (fun (l : List Blk) => ([.d (.sl 3 (l.map blkD))] : List AV)) x) (fun x : (List Blk) => (fun (l : List Blk) => ((l.length ≤ 300) : Prop)) x) (fun x : (List Blk) => (fun (l : List Blk) => (.d (.sl 3 ((clean l).map blkD)) : AV)) x) (fun x hp => ⟨rfl, cleanRef_ok x hp⟩)
theorem i_cleanRef_ok : ∀ x y : (List Blk), (fun x : (List Blk) => (fun (l : List Blk) => ([.d (.sl 3 (l.map blkD))] : List AV)) x) x = (fun x : (List Blk) => (fun (l : List Blk) => ([.d (.sl 3 (l.map blkD))] : List AV)) x) y → x = y := by
  intro x y h
  skip
  simpa only [List.cons.injEq, AV.d.injEq, AV.agg.injEq, AV.dp.injEq, AV.fn.injEq, AV.tup.injEq, AV.asl.injEq, Int.natCast_inj, D.int.injEq, D.str.injEq, D.bool.injEq, D.sl.injEq, Prod.mk.injEq, and_true, true_and, and_assoc, map_inj blkD_inj, map_inj intD_inj, map_inj strD_inj, map_inj boolD_inj] using h
@[go_sem] theorem a0_cleanRef_ok (l : List Blk) : (e_cleanRef_ok).e [.d (.sl 3 (l.map blkD))] = some ((l.length ≤ 300), .d (.sl 3 ((clean l).map blkD))) := Ent.of_app i_cleanRef_ok (l)
@[go_sem] theorem a1_cleanRef_ok  : (e_cleanRef_ok).e [.d (.sl 3 [])] = some ((([] : List Blk).length ≤ 300), .d (.sl 3 ((clean ([] : List Blk)).map blkD))) := Ent.of_app i_cleanRef_ok (([] : List Blk))
end Go.Aw
