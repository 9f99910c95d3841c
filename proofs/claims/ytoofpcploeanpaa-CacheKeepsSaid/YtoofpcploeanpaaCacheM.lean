/-
  The law CacheDoes.
-/
import Derived.Test.YtoofpcploeanpaaCacheJ
--new
namespace Go.Aw
set_option maxRecDepth 100000
set_option linter.unusedSimpArgs false
set_option linter.unusedVariables false
open Go Go.Proofs

noncomputable def tabDo : Tab := tabOf [e_fitRef_ok, e_awake_ok, e_get_ok, e_getRef_ok, e_put_ok, e_putRef_ok, e_row_ok, e_cdrop_ok, e_dropRef_ok, e_cdirty_ok, e_dirtyRef_ok, e_cclean_ok, e_cleanRef_ok]
theorem tabDo_ok : TabOk Try.prog tabDo := tabOf_ok _
@[go_sem] theorem tabDo_fitRef_ok (args : List AV) : tabDo 21 args = (e_fitRef_ok).e args := rfl
@[go_sem] theorem tabDo_awake_ok (args : List AV) : tabDo 23 args = (e_awake_ok).e args := rfl
@[go_sem] theorem tabDo_get_ok (args : List AV) : tabDo 35 args = (e_get_ok).e args := rfl
@[go_sem] theorem tabDo_getRef_ok (args : List AV) : tabDo 37 args = (e_getRef_ok).e args := rfl
@[go_sem] theorem tabDo_put_ok (args : List AV) : tabDo 24 args = (e_put_ok).e args := rfl
@[go_sem] theorem tabDo_putRef_ok (args : List AV) : tabDo 38 args = (e_putRef_ok).e args := rfl
@[go_sem] theorem tabDo_row_ok (args : List AV) : tabDo 34 args = (e_row_ok).e args := rfl
@[go_sem] theorem tabDo_cdrop_ok (args : List AV) : tabDo 39 args = (e_cdrop_ok).e args := rfl
@[go_sem] theorem tabDo_dropRef_ok (args : List AV) : tabDo 40 args = (e_dropRef_ok).e args := rfl
@[go_sem] theorem tabDo_cdirty_ok (args : List AV) : tabDo 36 args = (e_cdirty_ok).e args := rfl
@[go_sem] theorem tabDo_dirtyRef_ok (args : List AV) : tabDo 41 args = (e_dirtyRef_ok).e args := rfl
@[go_sem] theorem tabDo_cclean_ok (args : List AV) : tabDo 42 args = (e_cclean_ok).e args := rfl
@[go_sem] theorem tabDo_cleanRef_ok (args : List AV) : tabDo 43 args = (e_cleanRef_ok).e args := rfl

theorem getS_len (l : List Blk) (n : Int) (hl : l.length ≤ 8) : (getS l n).1.length ≤ 400 := by
  unfold getS
  split
  · split
    · simp; omega
    · have := withoutFrom_len (findFrom n l 0) l 0
      simp; omega
  · simp; omega
theorem putS_len (l : List Blk) (q : Blk) (hl : l.length ≤ 8) : (putS l q).1.length ≤ 400 ∧ (putS l q).2.1.length ≤ 400 := by
  have h1 := withoutFrom_len (findFrom q.1 l 0) l 0
  have h2 : (putAll l q).length ≤ 9 := by unfold putAll; simp; omega
  unfold putS
  split
  · simp; omega
  · split
    · simp; omega
    · have h3 : (dirties ((putAll l q).drop 8)).length ≤ ((putAll l q).drop 8).length := List.length_filter_le _ _
      simp at h3 ⊢; omega

theorem cacheDoes_law (l : List Blk) (n : Int) (d : List UInt8) (b : Bool) (at_ : Int) (hn : l.length ≤ 9223372036854775807) : ACall Try.prog 15 0 [.d (.sl 3 (l.map blkD)), .agg [.d (.int .i64 n), .d (.str d), .d (.bool b)], .d (.int .i64 at_)] [] (fun r _ => r = .d (.bool true)) := by
  refine acall_of_body Try.func15 rfl (enters Try.func15 (by kernel_rfl) rfl) Try.ntmps15 (by simp) (fun base => ?_)
  cases hF : (fitR l l 0 && decide (l.length ≤ 8)) with
  | false => repeat' (first
    | ((first | refine aw_seq_regionT tabDo (tabDo_ok) (fun K hK => ?_) | refine aw_regionT tabDo (tabDo_ok) ?_ | refine aw_seq_region_drawF tabDo (tabDo_ok) (show (cxOf Try.prog 0 0 0).P.follows .mixedOrders = true by kernel_rfl) (fun K hK => ?_) | refine aw_region_drawF tabDo (tabDo_ok) (show (cxOf Try.prog 0 0 0).P.follows .mixedOrders = true by kernel_rfl) ?_ | refine aw_skip ?_ | refine aw_exit ?_ | refine aw_ret ?_); simp only [go_sem, ↓reduceIte, Nat.reduceAdd, Nat.reduceMul, Nat.reduceSub, Nat.reduceLT, Nat.reduceLeDiff, Nat.reduceEqDiff, Nat.reduceBEq, Int.reduceToNat, Int.reduceLT, Int.reduceLE, Int.reduceAdd, Int.reduceSub, Int.reduceMul, Int.reduceNeg, Int.reduceEq, hF, Try.results15])
    | refine aw_seq (fun K hK => ?_)
    | refine aw_block ?_
    | refine aw_cond_t rfl ?_
    | refine aw_cond_f rfl ?_
    | refine aw_cond rfl (fun hc => ?_) (fun hc => ?_)
    | (first | (refine hK _ ?_; clear hK K) | (clear hK K; refine hK _ ?_; clear hK K) | (clear hK K; clear hK K; refine hK _ ?_; clear hK K) | (clear hK K; clear hK K; clear hK K; refine hK _ ?_; clear hK K) | (clear hK K; clear hK K; clear hK K; clear hK K; refine hK _ ?_; clear hK K))
    | ((first | refine (show AS.le _ _ from ?_) | refine (show leH _ _ from ?_) | refine (show inH _ _ from ?_)); simp only [AS.le, leT, leH, RoundK, AsgK, AV.le, AV.leL, AObj.le, inH, idsT, idsH, AV.ids, AV.idsL, AV.idsR, AObj.ids, lk, hget, go_sem, ↓reduceIte, Nat.reduceAdd, Nat.reduceMul, Nat.reduceSub, Nat.reduceLT, Nat.reduceLeDiff, Nat.reduceEqDiff, Nat.reduceBEq, Int.reduceToNat, Int.reduceLT, Int.reduceLE, Int.reduceAdd, Int.reduceSub, Int.reduceMul, Int.reduceNeg, Int.reduceEq, hF])
    | refine fun (r2 : Rnd _) => ?_
    | refine fun (nb : Bool) (hnb : nb = true → _) => ?_
    | with_reducible refine And.intro ?_ ?_
    | exact ‹_ <+: _›
    | (refine (show drawOkF _ _ = true from ?_); kernel_rfl)
    | omega
    | refine fun (hg : (_ : Bool) = (_ : Bool)) => ?_)
  | true =>
    have hF2 := hF
    simp only [Bool.and_eq_true, decide_eq_true_eq] at hF2
    obtain ⟨hF1, hl8⟩ := hF2
    have hfm : fitM l [] = true := by
      have := fit_both l []
      simp only [List.map_nil, List.nil_append, List.length_nil] at this
      rw [this, hF1]
    obtain ⟨_, hnd, _⟩ := (fitM_iff _ _).1 hfm
    have hdr : withoutFrom (findFrom at_ l 0) l 0 = drops at_ l := without_filter at_ l 0 hnd
    have hg := getS_len l at_ hl8
    obtain ⟨hp1, hp2⟩ := putS_len l (n, d, b) hl8
    have hdl : (drops at_ l).length ≤ 400 := Nat.le_trans (List.length_filter_le _ _) (by omega)
    have hsl : (srt [] (dirties l)).length ≤ 400 := by
      rw [srt_len]
      have : (dirties l).length ≤ l.length := List.length_filter_le _ _
      simp; omega
    have hcl : (clean l).length ≤ 400 := by simp [clean]; omega
    repeat' (first
    | ((first | refine aw_seq_regionT tabDo (tabDo_ok) (fun K hK => ?_) | refine aw_regionT tabDo (tabDo_ok) ?_ | refine aw_seq_region_drawF tabDo (tabDo_ok) (show (cxOf Try.prog 0 0 0).P.follows .mixedOrders = true by kernel_rfl) (fun K hK => ?_) | refine aw_region_drawF tabDo (tabDo_ok) (show (cxOf Try.prog 0 0 0).P.follows .mixedOrders = true by kernel_rfl) ?_ | refine aw_skip ?_ | refine aw_exit ?_ | refine aw_ret ?_); simp only [go_sem, ↓reduceIte, Nat.reduceAdd, Nat.reduceMul, Nat.reduceSub, Nat.reduceLT, Nat.reduceLeDiff, Nat.reduceEqDiff, Nat.reduceBEq, Int.reduceToNat, Int.reduceLT, Int.reduceLE, Int.reduceAdd, Int.reduceSub, Int.reduceMul, Int.reduceNeg, Int.reduceEq, hF, hdr, Try.results15])
    | refine aw_seq (fun K hK => ?_)
    | refine aw_block ?_
    | refine aw_cond_t rfl ?_
    | refine aw_cond_f rfl ?_
    | refine aw_cond rfl (fun hc => ?_) (fun hc => ?_)
    | (first | (refine hK _ ?_; clear hK K) | (clear hK K; refine hK _ ?_; clear hK K) | (clear hK K; clear hK K; refine hK _ ?_; clear hK K) | (clear hK K; clear hK K; clear hK K; refine hK _ ?_; clear hK K) | (clear hK K; clear hK K; clear hK K; clear hK K; refine hK _ ?_; clear hK K))
    | ((first | refine (show AS.le _ _ from ?_) | refine (show leH _ _ from ?_) | refine (show inH _ _ from ?_)); simp only [AS.le, leT, leH, RoundK, AsgK, AV.le, AV.leL, AObj.le, inH, idsT, idsH, AV.ids, AV.idsL, AV.idsR, AObj.ids, lk, hget, go_sem, ↓reduceIte, Nat.reduceAdd, Nat.reduceMul, Nat.reduceSub, Nat.reduceLT, Nat.reduceLeDiff, Nat.reduceEqDiff, Nat.reduceBEq, Int.reduceToNat, Int.reduceLT, Int.reduceLE, Int.reduceAdd, Int.reduceSub, Int.reduceMul, Int.reduceNeg, Int.reduceEq, hF, hdr])
    | refine fun (r2 : Rnd _) => ?_
    | refine fun (nb : Bool) (hnb : nb = true → _) => ?_
    | with_reducible refine And.intro ?_ ?_
    | exact ‹_ <+: _›
    | (refine (show drawOkF _ _ = true from ?_); kernel_rfl)
    | omega
    | refine fun (hg : (_ : Bool) = (_ : Bool)) => ?_)
end Go.Aw
