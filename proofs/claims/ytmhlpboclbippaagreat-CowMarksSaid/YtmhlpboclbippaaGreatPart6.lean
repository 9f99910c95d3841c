/-
  Parts of the proof: PlanB, PlanC, PlanD, PlanE, PlanF, PlanG, TxnA, TxnB, TxnC, TxnD, TxnE, JourA, JourB, JourC, RefcA, RefcB (short names; the readable texts lie in the repo, under wip).
-/
import Derived.Test.YtmhlpboclbippaaGreatPart5
import Derived.Test.YtmhlpboclbippaaGreatPart4
set_option maxRecDepth 100000
set_option maxHeartbeats 2000000
set_option linter.unusedSimpArgs false
set_option linter.unusedVariables false
namespace Go.Aw
open Go Go.Proofs
noncomputable def tab5d : Tab := tabOf [zdj]
theorem zf8 : TabOk Tryz.prog tab5d := zA _
@[go_sem] theorem znj (args : List AV) : tab5d 46 args = (zdj).e args := rfl
theorem zrf (d : Disk) (p : Plan) (hd : DiskOk d) (hp : PlanOk p) (hl : p.targets.length = p.texts.length) : ACall Tryz.prog 79 0 [diskA d, planA p] [] (fun r _ => r = .tup [diskA (play d p).1, .d (.int .i64 (play d p).2)]) := by
 refine zz ?_
 refine zk Tryz.func79 rfl (zv Tryz.func79 (by kernel_rfl) rfl) Tryz.ntmps79 (by simp) (fun base => ?_)
 have h1 := hp.targets
 have h2 := hp.texts
 repeat' (first | ((first | refine za noTab (zb _) (fun K hK => ?_) | refine zc noTab (zb _) ?_ | refine ze noTab (zb _) mx (fun K hK => ?_) | refine zj noTab (zb _) mx ?_ | refine zh ?_ | refine zi ?_ | refine zn ?_); simp only [go_sem, aeq, aeq.aeqF, simprocAttr, Tryz.results79]) | refine zq (fun K hK => ?_) | refine zp ?_ | refine zf rfl ?_ | refine zg rfl ?_ | refine zo rfl (fun hc => ?_) (fun hc => ?_) | (refine hK _ ?_; clear hK K) | with_reducible refine And.intro ?_ ?_ | (refine (show zt _ _ = true from ?_); kernel_rfl) | omega | assumption | refine fun (hg : (_ : Bool) = (_ : Bool)) => ?_ | clear hK K)
 refine zO (fun q : { q : Nat × Disk // q.1 ≤ p.targets.length ∧ DiskOk q.2 ∧ play d p = layL q.2 ((p.targets.zip p.texts).drop q.1) } => ⟨[(2, true, .vp 0 0), (3, true, .vp 1 0), (4, true, .vp 2 0), (6, true, .d (.int .i64 q.1.1))], [(2, .var [.d (.str []), .nils 2, .d (.int .i64 0), .d (.bool false), .nils 1]), (1, .var [.d (.sl 1 (p.targets.map intD)), .d (.sl 1 (p.texts.map strD))]), (0, (.var [.d (.str q.1.2.data), .d (.sl 2 (q.1.2.cache.map putD)), .d (.int .i64 q.1.2.fuse), .d (.bool q.1.2.off), .d (.sl 1 (q.1.2.bad.map intD))]))], some []⟩) (fun q => p.targets.length - q.1.1) ⟨(0, d), Nat.zero_le _, hd, rfl⟩ (by simp only [AS.le, leT, leH, zr, AsgK, AV.le, AV.leL, AObj.le, inH, idsT, idsH, AV.ids, AV.idsL, AV.idsR, AObj.ids, lk, hget, go_sem, aeq, aeq.aeqF, simprocAttr] <;> and_intros <;> rfl) (fun q => ?_)
 obtain ⟨⟨i, x⟩, hi, hx, hf⟩ := q
 simp only at hi hx hf ⊢
 rcases zaw intD p.targets i hi with ⟨m, hq, hlt, hcmp, hrow, hdr, htk⟩ | ⟨hend, hcmp⟩
 ·obtain ⟨s, hq'⟩ := zau (l := p.texts) (i := i) (by omega)
  have hrow' := zbT (g := strD) hq'
  simp only [intD] at hrow
  simp only [strD] at hrow'
  have hwi := zV (i := i) (by omega)
  have hcmp' : decide ((i : Int) < (p.texts.length : Int)) = true := by rw [← hl]; exact hcmp
  have hz : (p.targets.zip p.texts)[i]? = some (m, s) := List.getElem?_zip_eq_some.2 ⟨hq, hq'⟩
  rw [zd6 hz, layL] at hf
  have hxo := zgH hx m s
  repeat' (first | ((first | refine za tab5d (zf8) (fun K hK => ?_) | refine zc tab5d (zf8) ?_ | refine ze tab5d (zf8) mx (fun K hK => ?_) | refine zj tab5d (zf8) mx ?_ | refine zh ?_ | refine zi ?_ | refine zn ?_); simp only [go_sem, aeq, aeq.aeqF, simprocAttr, hcmp, hcmp', hrow, hrow', Tryz.results79]) | refine zq (fun K hK => ?_) | refine zp ?_ | refine zf rfl ?_ | refine zg rfl ?_ | refine zo rfl (fun hc => ?_) (fun hc => ?_) | (refine hK _ ?_; clear hK K) | with_reducible refine And.intro ?_ ?_ | (refine (show zt _ _ = true from ?_); kernel_rfl) | omega | assumption | refine fun (hg : (_ : Bool) = (_ : Bool)) => ?_ | clear hK K)
  ·have hc : (zP x m s).2 ≠ 0 := by simpa using hc
   rw [hf, if_pos hc]
  ·have hc : ¬ (zP x m s).2 ≠ 0 := by simpa using hc
   rw [if_neg hc] at hf
   exact ⟨⟨(i + 1, (zP x m s).1), by omega, hxo, hf⟩, by simp only [AS.le, leT, leH, zr, AsgK, AV.le, AV.leL, AObj.le, inH, idsT, idsH, AV.ids, AV.idsL, AV.idsR, AObj.ids, lk, hget, go_sem, aeq, aeq.aeqF, simprocAttr, hwi], by simp; omega⟩
 ·repeat' (first | ((first | refine za noTab (zb _) (fun K hK => ?_) | refine zc noTab (zb _) ?_ | refine ze noTab (zb _) mx (fun K hK => ?_) | refine zj noTab (zb _) mx ?_ | refine zh ?_ | refine zi ?_ | refine zn ?_); simp only [go_sem, aeq, aeq.aeqF, simprocAttr, hcmp, Tryz.results79]) | refine zq (fun K hK => ?_) | refine zp ?_ | refine zf rfl ?_ | refine zg rfl ?_ | refine zo rfl (fun hc => ?_) (fun hc => ?_) | (refine hK _ ?_; clear hK K) | with_reducible refine And.intro ?_ ?_ | (refine (show zt _ _ = true from ?_); kernel_rfl) | omega | assumption | refine fun (hg : (_ : Bool) = (_ : Bool)) => ?_ | clear hK K)
  rw [hf, List.drop_of_length_le (by rw [List.length_zip]; omega)]
  rfl
noncomputable def zfi : Ent Tryz.prog := .ofL 79 (consL zN (consL zT nilL)) (fun (d, p, _) => (DiskOk d) ∧ (PlanOk p) ∧ (p.targets.length = p.texts.length)) (fun (d, p, _) => .tup [diskA (play d p).1, .d (.int .i64 (play d p).2)]) (fun (d, p, _) hp => ⟨rfl, zrf d p hp.1 hp.2.1 hp.2.2⟩)
attribute [go_sem] zfi
open Go Go.Proofs
theorem zkc (at_ : Int) : ACall Tryz.prog 203 0 [.d (.int .i64 at_)] [] (fun r _ => r = .d (.bool (!secOk at_))) := by
 refine zk Tryz.func203 rfl (zv Tryz.func203 (by kernel_rfl) rfl) Tryz.ntmps203 (by simp) (fun base => ?_)
 repeat' (first | ((first | refine za noTab (zb _) (fun K hK => ?_) | refine zc noTab (zb _) ?_ | refine zh ?_ | refine zi ?_ | refine zn ?_); simp only [go_sem, aeq, aeq.aeqF, simprocAttr, Tryz.results203]) | refine zq (fun K hK => ?_) | (refine hK _ ?_; clear hK K) | with_reducible refine And.intro ?_ ?_ | omega | assumption | refine fun (hg : (_ : Bool) = (_ : Bool)) => ?_ | clear hK K)
 congr 2
 rw [secOk, Bool.not_and]
 congr 1
 ·by_cases h : at_ < 0
  ·rw [decide_eq_true h, decide_eq_false (by omega)]; rfl
  ·rw [decide_eq_false h, decide_eq_true (by omega)]; rfl
 ·by_cases h : at_ < 1024
  ·rw [decide_eq_true h, decide_eq_false (by omega)]; rfl
  ·rw [decide_eq_false h, decide_eq_true (by omega)]; rfl
noncomputable def zbh : Ent Tryz.prog := .ofL 203 (consL (intT .i64) nilL) (fun (at_, _) => True) (fun (at_, _) => .d (.bool (!secOk at_))) (fun (at_, _) hp => ⟨rfl, zkc at_⟩)
attribute [go_sem] zbh
theorem zlk (l : List Int) (x : Int) (k : Nat) : idxP (fun q => x == q) l k = idxP (fun q => q == x) l k := by
 have : (fun q : Int => x == q) = (fun q => q == x) := by funext q; exact BEq.comm
 rw [this]
noncomputable def tab5e : Tab := tabOf [zaF, zaT]
theorem zf9 : TabOk Tryz.prog tab5e := zA _
@[go_sem] theorem zmi (args : List AV) : tab5e 138 args = (zaF).e args := rfl
@[go_sem] theorem znk (args : List AV) : tab5e 32 args = (zaT).e args := rfl
theorem zrg (d : Disk) (p : Plan) (at_ : Int) (hd : DiskOk d) (hp : PlanOk p) (hl : p.targets.length = p.texts.length) : ACall Tryz.prog 130 0 [diskA d, planA p, .d (.int .i64 at_)] [] (fun r _ => r = .tup [.d (.str (plook d p at_).1), .d (.int .i64 (plook d p at_).2)]) := by
 refine zk Tryz.func130 rfl (zv Tryz.func130 (by kernel_rfl) rfl) Tryz.ntmps130 (by simp) (fun base => ?_)
 have ht := hp.targets
 have hsw := zlk p.targets at_ 0
 rcases zbs p.targets at_ with hk | ⟨k, hk, hkl⟩
 ·have hk' := hk
  unfold pfind at hk'
  repeat' (first | ((first | refine za tab5e (zf9) (fun K hK => ?_) | refine zc tab5e (zf9) ?_ | refine zh ?_ | refine zi ?_ | refine zn ?_); simp only [go_sem, aeq, aeq.aeqF, simprocAttr, hsw, hk', Tryz.results130]) | refine zq (fun K hK => ?_) | refine zf rfl ?_ | refine zg rfl ?_ | refine zo rfl (fun hc => ?_) (fun hc => ?_) | (refine hK _ ?_; clear hK K) | with_reducible refine And.intro ?_ ?_ | omega | assumption | clear hK K)
  rw [plook, hk, if_neg (by omega)]
 ·have hk' := hk
  unfold pfind at hk'
  obtain ⟨s, hq⟩ := zau (l := p.texts) (i := k) (by omega)
  have hrow := zbT (g := strD) hq
  simp only [strD] at hrow
  have h1 : decide ((0 : Int) ≤ (k : Int)) = true := decide_eq_true (by omega)
  repeat' (first | ((first | refine za tab5e (zf9) (fun K hK => ?_) | refine zc tab5e (zf9) ?_ | refine zh ?_ | refine zi ?_ | refine zn ?_); simp only [go_sem, aeq, aeq.aeqF, simprocAttr, hsw, hk', hrow, Int.toNat_natCast, h1, Tryz.results130]) | refine zq (fun K hK => ?_) | refine zf rfl ?_ | refine zg rfl ?_ | refine zo rfl (fun hc => ?_) (fun hc => ?_) | (refine hK _ ?_; clear hK K) | with_reducible refine And.intro ?_ ?_ | omega | assumption | clear hK K)
  rw [plook, hk, if_pos (by omega), Int.toNat_natCast, List.getD_eq_getElem?_getD, hq]
  rfl
noncomputable def zaC : Ent Tryz.prog := .ofL 130 (consL zN (consL zT (consL (intT .i64) nilL))) (fun (d, p, at_, _) => (DiskOk d) ∧ (PlanOk p) ∧ (p.targets.length = p.texts.length)) (fun (d, p, at_, _) => .tup [.d (.str (plook d p at_).1), .d (.int .i64 (plook d p at_).2)]) (fun (d, p, at_, _) hp => ⟨rfl, zrg d p at_ hp.1 hp.2.1 hp.2.2⟩)
attribute [go_sem] zaC
open Go Go.Proofs
theorem zhh (l : List Int) (fl : Nat) (hl : l.length ≤ 5000) : ACall Tryz.prog 223 fl [.d (.sl 1 (l.map intD))] [] (fun r h' => r = .osl fl 1 l.length 0 l.length ∧ h' = [(fl, .arr 1 (l.map intD))]) := by
 refine zk Tryz.func223 rfl (zv Tryz.func223 (by kernel_rfl) rfl) Tryz.ntmps223 (by simp) (fun base => ?_)
 repeat' ((fail_if_success refine hds 2 (by rfl) ?_); first | ((first | refine za noTab (zb _) (fun K hK => ?_) | refine zc noTab (zb _) ?_ | refine zh ?_ | refine zi ?_ | refine zn ?_); simp only [go_sem, aeq, aeq.aeqF, simprocAttr, Tryz.results223]) | refine zq (fun K hK => ?_) | refine zf rfl ?_ | refine zg rfl ?_ | refine zo rfl (fun hc => ?_) (fun hc => ?_) | (refine hK _ ?_; clear hK K) | refine fun (nb : Bool) (hnb : nb = true → _) => ?_ | with_reducible refine And.intro ?_ ?_ | omega | assumption | clear hK K)
 ·refine za noTab (zb _) (fun K hK => ?_); simp only [go_sem, aeq, aeq.aeqF, simprocAttr]
  (first | (refine hK _ ?_; clear hK K) | (clear hK K; refine hK _ ?_; clear hK K) | (clear hK K; clear hK K; refine hK _ ?_; clear hK K) | (clear hK K; clear hK K; clear hK K; refine hK _ ?_; clear hK K) | (clear hK K; clear hK K; clear hK K; clear hK K; refine hK _ ?_; clear hK K))
  refine zfZ 2 1 rfl ?_
  have h0 : l = [] := List.map_eq_nil_iff.1 (hnb hc)
  subst h0
  repeat' (first | ((first | refine za noTab (zb _) (fun K hK => ?_) | refine zc noTab (zb _) ?_ | refine zh ?_ | refine zi ?_ | refine zn ?_); simp only [go_sem, aeq, aeq.aeqF, simprocAttr, Tryz.results223]) | refine zq (fun K hK => ?_) | refine zf rfl ?_ | refine zg rfl ?_ | refine zo rfl (fun hc => ?_) (fun hc => ?_) | (refine hK _ ?_; clear hK K) | refine fun (nb : Bool) (hnb : nb = true → _) => ?_ | with_reducible refine And.intro ?_ ?_ | omega | assumption | clear hK K)
  all_goals rfl
theorem zhi (l : List Txt) (fl : Nat) (hl : l.length ≤ 5000) : ACall Tryz.prog 224 fl [.d (.sl 1 (l.map strD))] [] (fun r h' => r = .osl fl 1 l.length 0 l.length ∧ h' = [(fl, .arr 1 (l.map strD))]) := by
 refine zk Tryz.func224 rfl (zv Tryz.func224 (by kernel_rfl) rfl) Tryz.ntmps224 (by simp) (fun base => ?_)
 repeat' ((fail_if_success refine hds 2 (by rfl) ?_); first | ((first | refine za noTab (zb _) (fun K hK => ?_) | refine zc noTab (zb _) ?_ | refine zh ?_ | refine zi ?_ | refine zn ?_); simp only [go_sem, aeq, aeq.aeqF, simprocAttr, Tryz.results224]) | refine zq (fun K hK => ?_) | refine zf rfl ?_ | refine zg rfl ?_ | refine zo rfl (fun hc => ?_) (fun hc => ?_) | (refine hK _ ?_; clear hK K) | refine fun (nb : Bool) (hnb : nb = true → _) => ?_ | with_reducible refine And.intro ?_ ?_ | omega | assumption | clear hK K)
 ·refine za noTab (zb _) (fun K hK => ?_); simp only [go_sem, aeq, aeq.aeqF, simprocAttr]
  (first | (refine hK _ ?_; clear hK K) | (clear hK K; refine hK _ ?_; clear hK K) | (clear hK K; clear hK K; refine hK _ ?_; clear hK K) | (clear hK K; clear hK K; clear hK K; refine hK _ ?_; clear hK K) | (clear hK K; clear hK K; clear hK K; clear hK K; refine hK _ ?_; clear hK K))
  refine zfZ 2 1 rfl ?_
  have h0 : l = [] := List.map_eq_nil_iff.1 (hnb hc)
  subst h0
  repeat' (first | ((first | refine za noTab (zb _) (fun K hK => ?_) | refine zc noTab (zb _) ?_ | refine zh ?_ | refine zi ?_ | refine zn ?_); simp only [go_sem, aeq, aeq.aeqF, simprocAttr, Tryz.results224]) | refine zq (fun K hK => ?_) | refine zf rfl ?_ | refine zg rfl ?_ | refine zo rfl (fun hc => ?_) (fun hc => ?_) | (refine hK _ ?_; clear hK K) | refine fun (nb : Bool) (hnb : nb = true → _) => ?_ | with_reducible refine And.intro ?_ ?_ | omega | assumption | clear hK K)
  all_goals rfl
noncomputable def tab5f : Tab := tabOf [zbh, zaF]
theorem zay : TabOk Tryz.prog tab5f := zA _
@[go_sem] theorem zmn (args : List AV) : tab5f 203 args = (zbh).e args := rfl
@[go_sem] theorem zmo (args : List AV) : tab5f 138 args = (zaF).e args := rfl
theorem zsL (l : List Int) (h : l.length ≤ 5000) (fl : Nat) : ACall Tryz.prog 223 fl [.d (.sl 1 (l.map intD))] [] (fun r h' => r = .osl fl 1 (l.map intD).length 0 (l.map intD).length ∧ h' = [(fl, .arr 1 (l.map intD))]) := by
 rw [List.length_map]; exact zhh l fl h
theorem zsM (l : List Txt) (h : l.length ≤ 5000) (fl : Nat) : ACall Tryz.prog 224 fl [.d (.sl 1 (l.map strD))] [] (fun r h' => r = .osl fl 1 (l.map strD).length 0 (l.map strD).length ∧ h' = [(fl, .arr 1 (l.map strD))]) := by
 rw [List.length_map]; exact zhi l fl h
theorem ztp (p : Plan) (at_ : Int) (s : Txt) (hp : PlanOk p) (hl : p.targets.length = p.texts.length) (h24 : p.targets.length ≤ 24) : ACall Tryz.prog 210 0 [planA p, .d (.int .i64 at_), .d (.str s)] [] (fun r _ => r = .tup [planA (pset p at_ s).1, .d (.int .i64 (pset p at_ s).2)]) := by
 refine zz ?_
 refine zk Tryz.func210 rfl (zv Tryz.func210 (by kernel_rfl) rfl) Tryz.ntmps210 (by simp) (fun base => ?_)
 have hsw := zlk p.targets at_ 0
 rcases zbs p.targets at_ with hk | ⟨k, hk, hkl⟩
 ·have hk' := hk
  unfold pfind at hk'
  repeat' (first | ((first | refine za tab5f (zay) (fun K hK => ?_) | refine zc tab5f (zay) ?_ | refine zE tab5f [223, 224] (zay) mx (fun K hK => ?_) | refine zF tab5f [223, 224] (zay) mx ?_ | refine zh ?_ | refine zi ?_ | refine zn ?_); simp only [go_sem, aeq, aeq.aeqF, simprocAttr, hsw, hk', Tryz.results210]) | refine zq (fun K hK => ?_) | refine zp ?_ | refine zf rfl ?_ | refine zg rfl ?_ | refine zo rfl (fun hc => ?_) (fun hc => ?_) | (refine hK _ ?_; clear hK K) | refine fun (nb : Bool) (hnb : nb = true → _) => ?_ | with_reducible refine And.intro ?_ ?_ | (refine (show zag _ _ = true from ?_); kernel_rfl) | omega | assumption | clear hK K)
  all_goals first | (simp_all [pset]; done) | skip
  refine ⟨_, _, zsL p.targets (by omega), _, _, zsM p.texts (by omega), by kernel_rfl, hK _ ?_⟩
  clear hK K
  simp only [List.length_map]
  repeat' (first | ((first | refine za tab5f (zay) (fun K hK => ?_) | refine zc tab5f (zay) ?_ | refine zE tab5f [] (zay) mx (fun K hK => ?_) | refine zF tab5f [] (zay) mx ?_ | refine zh ?_ | refine zi ?_ | refine zn ?_); simp only [go_sem, aeq, aeq.aeqF, simprocAttr, hsw, hk', Tryz.results210]) | refine zq (fun K hK => ?_) | refine zp ?_ | refine zf rfl ?_ | refine zg rfl ?_ | refine zo rfl (fun hc => ?_) (fun hc => ?_) | (refine hK _ ?_; clear hK K) | refine fun (nb : Bool) (hnb : nb = true → _) => ?_ | with_reducible refine And.intro ?_ ?_ | (refine (show zag _ _ = true from ?_); kernel_rfl) | omega | assumption | clear hK K)
  all_goals first | (simp_all [pset]; done) | skip
  rw [zdP intD p.targets at_ [D.int .i64 at_] rfl, zdP strD p.texts s [D.str s] rfl]
  by_cases h6 : 24 ≤ (p.targets.length : Int)
  ·exfalso; simp_all; omega
  ·simp_all [pset]
   simp only [if_neg (show ¬ (24 : Int) ≤ p.texts.length by omega)]
   simp
 ·have hk' := hk
  unfold pfind at hk'
  have h1 : decide ((0 : Int) ≤ (k : Int)) = true := decide_eq_true (by omega)
  repeat' (first | ((first | refine za tab5f (zay) (fun K hK => ?_) | refine zc tab5f (zay) ?_ | refine zE tab5f [223, 224] (zay) mx (fun K hK => ?_) | refine zF tab5f [223, 224] (zay) mx ?_ | refine zh ?_ | refine zi ?_ | refine zn ?_); simp only [go_sem, aeq, aeq.aeqF, simprocAttr, hsw, hk', Tryz.results210]) | refine zq (fun K hK => ?_) | refine zp ?_ | refine zf rfl ?_ | refine zg rfl ?_ | refine zo rfl (fun hc => ?_) (fun hc => ?_) | (refine hK _ ?_; clear hK K) | refine fun (nb : Bool) (hnb : nb = true → _) => ?_ | with_reducible refine And.intro ?_ ?_ | (refine (show zag _ _ = true from ?_); kernel_rfl) | omega | assumption | clear hK K)
  all_goals first | (simp_all [pset]; done) | skip
  refine ⟨_, _, zsL p.targets (by omega), _, _, zsM p.texts (by omega), by kernel_rfl, hK _ ?_⟩
  clear hK K
  simp only [List.length_map]
  repeat' (first | ((first | refine za tab5f (zay) (fun K hK => ?_) | refine zc tab5f (zay) ?_ | refine zE tab5f [] (zay) mx (fun K hK => ?_) | refine zF tab5f [] (zay) mx ?_ | refine zh ?_ | refine zi ?_ | refine zn ?_); simp only [go_sem, aeq, aeq.aeqF, simprocAttr, hsw, hk', h1, Int.toNat_natCast, Tryz.results210]) | refine zq (fun K hK => ?_) | refine zp ?_ | refine zf rfl ?_ | refine zg rfl ?_ | refine zo rfl (fun hc => ?_) (fun hc => ?_) | (refine hK _ ?_; clear hK K) | refine fun (nb : Bool) (hnb : nb = true → _) => ?_ | with_reducible refine And.intro ?_ ?_ | (refine (show zag _ _ = true from ?_); kernel_rfl) | omega | assumption | clear hK K)
  all_goals first | (simp_all [pset]; done) | skip
  rw [zoH (by omega), zli (by simp)]
  simp_all [pset]
noncomputable def zdt : Ent Tryz.prog := .ofL 210 (consL zT (consL (intT .i64) (consL strT nilL))) (fun (p, at_, s, _) => (PlanOk p) ∧ (p.targets.length = p.texts.length) ∧ (p.targets.length ≤ 24)) (fun (p, at_, s, _) => .tup [planA (pset p at_ s).1, .d (.int .i64 (pset p at_ s).2)]) (fun (p, at_, s, _) hp => ⟨rfl, ztp p at_ s hp.1 hp.2.1 hp.2.2⟩)
attribute [go_sem] zdt
open Go Go.Proofs
def pfitZ : List Int → List (Int × Txt) → Bool
 | _, [] => true
 | seen, q :: r => secOk q.1 && !seen.contains q.1 && ((q.2.length : Int) == 64) && pfitZ (seen ++ [q.1]) r
theorem zgN : ∀ (t : List Int) (s : List Txt) (seen : List Int), pfitL seen t s = pfitZ seen (t.zip s)
 | [], s, seen => by simp [pfitL, pfitZ]
 | t :: r, [], seen => by simp [pfitL, pfitZ]
 | t :: r, s :: q, seen => by simp only [pfitL, pfitZ, List.zip_cons_cons, zgN r q]
theorem zfl : ∀ (l : List (Int × Txt)) (seen : List Int) (q : Int × Txt), pfitZ seen (l ++ [q]) = (pfitZ seen l && (secOk q.1 && !(seen ++ l.map (·.1)).contains q.1 && ((q.2.length : Int) == 64)))
 | [], seen, q => by simp [pfitZ]
 | a :: l, seen, q => by
  rw [List.cons_append, pfitZ, pfitZ, zfl l, List.map_cons, List.append_assoc, List.singleton_append]
  simp only [Bool.and_assoc]
theorem zoO : ∀ (t : List Int) (s : List Txt) (k : Nat) (x : Txt) (y : Int), t[k]? = some y → t.zip (s.set k x) = (t.zip s).set k (y, x)
 | [], s, k, x, y, h => by simp at h
 | t :: r, [], k, x, y, h => by simp
 | t :: r, a :: s, 0, x, y, h => by
  have : t = y := by simpa using h
  subst this
  simp
 | t :: r, a :: s, k + 1, x, y, h => by
  simp only [List.set_cons_succ, List.zip_cons_cons]
  rw [zoO r s k x y (by simpa using h)]
theorem zjn : ∀ (l : List (Int × Txt)) (seen : List Int) (k : Nat) (y : Int) (x : Txt), (∃ z, l[k]? = some (y, z)) → (x.length : Int) = 64 → pfitZ seen l = true → pfitZ seen (l.set k (y, x)) = true
 | [], seen, k, y, x, h, hx, hf => by obtain ⟨z, h⟩ := h; simp at h
 | a :: l, seen, 0, y, x, h, hx, hf => by
  obtain ⟨z, h⟩ := h
  have : a = (y, z) := by simpa using h
  subst this
  simp only [List.set_cons_zero, pfitZ, Bool.and_eq_true] at hf ⊢
  exact ⟨⟨hf.1.1, by simpa using hx⟩, hf.2⟩
 | a :: l, seen, k + 1, y, x, h, hx, hf => by
  simp only [List.set_cons_succ, pfitZ, Bool.and_eq_true] at hf ⊢
  exact ⟨hf.1, zjn l _ k y x (by simpa using h) hx hf.2⟩
theorem pfit_iff {p : Plan} : pfit p = true ↔ p.targets.length = p.texts.length ∧ p.targets.length ≤ 24 ∧ pfitZ [] (p.targets.zip p.texts) = true := by
 simp only [pfit, Bool.and_eq_true, decide_eq_true_eq, zgN, and_assoc]
theorem zoP {l : List Int} {a : Int} (h : pfind l a = -1) : l.contains a = false := by
 have := zj4 (fun x => x == a) l 0
 unfold pfind at h
 rw [h] at this
 rw [← List.any_beq']
 simpa using this.symm
theorem zga {p : Plan} {at_ : Int} {s : Txt} (hp : pfit p = true) : pfit (pset p at_ s).1 = true := by
 obtain ⟨h1, h2, h3⟩ := pfit_iff.1 hp
 unfold pset
 split
 ·exact hp
 rename_i hs
 have hs : secOk at_ = true := by simpa using hs
 split
 ·exact hp
 rename_i hl
 have hl : (s.length : Int) = 64 := by simpa using hl
 rcases zbs p.targets at_ with hk | ⟨k, hk, hkl⟩
 ·rw [if_neg (by omega)]
  split
  ·exact hp
  ·rename_i h24
   refine pfit_iff.2 ⟨by simp [h1], by simp; omega, ?_⟩
   rw [List.zip_append h1]
   show pfitZ [] (p.targets.zip p.texts ++ [(at_, s)]) = true
   rw [zfl, h3, hs]
   have : (p.targets.zip p.texts).map (·.1) = p.targets := by rw [List.map_fst_zip (by omega)]
   rw [List.nil_append, this, zoP hk, hl]
   rfl
 ·rw [if_pos (by omega), hk, Int.toNat_natCast]
  obtain ⟨y, hy⟩ := zau hkl
  obtain ⟨z, hz⟩ := zau (l := p.texts) (i := k) (by omega)
  refine pfit_iff.2 ⟨by simp [h1], h2, ?_⟩
  show pfitZ [] (p.targets.zip (p.texts.set k s)) = true
  rw [zoO _ _ _ _ y hy]
  exact zjn _ _ _ _ _ ⟨z, List.getElem?_zip_eq_some.2 ⟨hy, hz⟩⟩ hl h3
theorem zhI {d : Disk} {p : Plan} {at_ off : Int} {s : Txt} (hp : pfit p = true) : pfit (zb8 d p at_ off s).1 = true := by
 unfold zb8
 split
 ·exact hp
 split
 ·exact hp
 ·exact zga hp
noncomputable def tab5g : Tab := tabOf [zaC, zdp, zdt]
theorem zln : TabOk Tryz.prog tab5g := zA _
@[go_sem] theorem zqd (args : List AV) : tab5g 130 args = (zaC).e args := rfl
@[go_sem] theorem zro (args : List AV) : tab5g 96 args = (zdp).e args := rfl
@[go_sem] theorem zrp (args : List AV) : tab5g 210 args = (zdt).e args := rfl
theorem zoQ (d : Disk) (p : Plan) (at_ : Int) (off : Int) (s : Txt) (hd : DiskOk d) (hf : d.cache.all (putOk d) = true) (hp : pfit p = true) (hs : s.length ≤ 9223372036854775807) : ACall Tryz.prog 186 0 [diskA d, planA p, .d (.int .i64 at_), .d (.int .i64 off), .d (.str s)] [] (fun r _ => r = .tup [planA (zb8 d p at_ off s).1, .d (.int .i64 (zb8 d p at_ off s).2)]) := by
 refine zz ?_
 refine zk Tryz.func186 rfl (zv Tryz.func186 (by kernel_rfl) rfl) Tryz.ntmps186 (by simp) (fun base => ?_)
 obtain ⟨hl, h24, h64⟩ := zaI hp
 have hpo : PlanOk p := ⟨by omega, by omega⟩
 have hb := zjd (at_ := at_) hf hp
 repeat' (first | ((first | refine za tab5g (zln) (fun K hK => ?_) | refine zc tab5g (zln) ?_ | refine zh ?_ | refine zi ?_ | refine zn ?_); simp only [go_sem, aeq, aeq.aeqF, simprocAttr, Tryz.results186]) | refine zq (fun K hK => ?_) | refine zf rfl ?_ | refine zg rfl ?_ | refine zo rfl (fun hc => ?_) (fun hc => ?_) | (refine hK _ ?_; clear hK K) | with_reducible refine And.intro ?_ ?_ | omega | assumption | clear hK K)
 all_goals first | (simp_all [zb8]; done) | skip
noncomputable def zbY : Ent Tryz.prog := .ofL 186 (consL zN (consL zT (consL (intT .i64) (consL (intT .i64) (consL strT nilL))))) (fun (d, p, at_, off, s, _) => (DiskOk d) ∧ (d.cache.all (putOk d) = true) ∧ (pfit p = true) ∧ (s.length ≤ 9223372036854775807)) (fun (d, p, at_, off, s, _) => .tup [planA (zb8 d p at_ off s).1, .d (.int .i64 (zb8 d p at_ off s).2)]) (fun (d, p, at_, off, s, _) hp => ⟨rfl, zoQ d p at_ off s hp.1 hp.2.1 hp.2.2.1 hp.2.2.2⟩)
attribute [go_sem] zbY
open Go Go.Proofs
theorem zkf (p : Plan) : ACall Tryz.prog 202 0 [planA p] [] (fun r _ => r = .fn (.func 218) [] [.dp (planC p)]) := by
 refine zz ?_
 refine zk Tryz.func202 rfl (zv Tryz.func202 (by kernel_rfl) rfl) Tryz.ntmps202 (by simp) (fun base => ?_)
 repeat' (first | ((first | refine za noTab (zb _) (fun K hK => ?_) | refine zc noTab (zb _) ?_ | refine zh ?_ | refine zi ?_ | refine zn ?_); simp only [go_sem, aeq, aeq.aeqF, simprocAttr, Tryz.results202]) | refine zq (fun K hK => ?_) | (refine hK _ ?_; clear hK K) | refine fun (nb : Bool) (hnb : nb = true → _) => ?_ | with_reducible refine And.intro ?_ ?_ | omega | assumption | clear hK K)
noncomputable def zbi : Ent Tryz.prog := .ofL 202 (consL zT nilL) (fun (p, _) => True) (fun (p, _) => .fn (.func 218) [] [.dp (planC p)]) (fun (p, _) hp => ⟨rfl, zkf p⟩)
attribute [go_sem] zbi
def zbj (q : Int × Txt) : List AV := [.d (.int .i64 q.1), .d (.str q.2)]
def unI : List AV → Int × Txt
 | [.d (.int _ n), .d (.str s)] => (n, s)
 | _ => (0, [])
theorem zcS (ys : List (Int × Txt)) : (ys.map zbj).map unI = ys := by
 rw [List.map_map]
 exact List.map_id'' (fun _ => rfl) ys
abbrev Sst (p : Plan) := { q : Nat × List (List AV) // q.1 ≤ p.targets.length ∧ q.2 ++ ((p.targets.zip p.texts).drop q.1).map zbj = (p.targets.zip p.texts).map zbj }
theorem zgO (p : Plan) (hp : PlanOk p) (hl : p.targets.length = p.texts.length) : AIter Tryz.prog 218 100 [] [.dp (planC p)] [] ((p.targets.zip p.texts).map zbj) (fun g h' => (∀ xs, g = some xs → xs = (p.targets.zip p.texts).map zbj) ∧ h' = []) := by
 refine zaE Tryz.func218 rfl (zv Tryz.func218 (by kernel_rfl) rfl) Tryz.ntmps218 rfl (by simp) (fun base y => ?_)
 repeat' (first | (refine zL (fun i => decide (i < 100)) (by simp only [inH, idsH, hsel, AV.ids, AV.idsL, AV.idsR, AObj.ids, hget, go_sem, aeq, aeq.aeqF, simprocAttr]) ?_; simp only [go_sem, aeq, aeq.aeqF, simprocAttr, hsel, keepT]; refine zn ?_; simp only [go_sem, aeq, aeq.aeqF, simprocAttr]) | ((first | refine zu noTab (zb _) (fun K hK => ?_) | refine zB noTab (zb _) ?_ | refine zh ?_ | refine zi ?_ | refine zn ?_); simp only [go_sem, aeq, aeq.aeqF, simprocAttr]) | refine zq (fun K hK => ?_) | refine zp ?_ | refine zf rfl ?_ | refine zg rfl ?_ | refine zo rfl (fun hc => ?_) (fun hc => ?_) | (refine hK _ ?_; clear hK K) | ((first | refine (show AS.le _ _ from ?_) | refine (show leH _ _ from ?_) | refine (show inH _ _ from ?_)); simp only [AS.le, leT, leH, zr, AsgK, AV.le, AV.leL, AObj.le, inH, idsT, idsH, AV.ids, AV.idsL, AV.idsR, AObj.ids, lk, hget, go_sem, aeq, aeq.aeqF, simprocAttr]) | refine fun (r2 : Rnd _) => ?_ | with_reducible refine And.intro ?_ ?_ | exact ‹_ <+: _› | omega | assumption | clear hK K)
 have h1 := hp.targets
 refine zO (fun q : Sst p => ⟨[(0, true, .fn (.yield y.yl) [] []), (1, true, .dp [.d (.sl 1 (p.targets.map intD)), .d (.sl 1 (p.texts.map strD))]), (6, true, .d (.sl 1 (p.targets.map intD))), (7, true, .d (.int .i64 p.targets.length)), (8, true, .d (.int .i64 q.1.1))], [], some q.1.2⟩) (fun q => p.targets.length - q.1.1) ⟨(0, []), Nat.zero_le _, rfl⟩ (by simp only [AS.le, leT, leH, zr, AsgK, AV.le, AV.leL, AObj.le, inH, idsT, idsH, AV.ids, AV.idsL, AV.idsR, AObj.ids, lk, hget, go_sem, aeq, aeq.aeqF, simprocAttr] <;> and_intros <;> rfl) (fun q => ?_)
 obtain ⟨⟨i, xs⟩, hi, hf⟩ := q
 simp only at hi hf ⊢
 rcases zaw intD p.targets i hi with ⟨m, hq, hlt, hcmp, hrow, hdr, htk⟩ | ⟨hend, hcmp⟩
 ·obtain ⟨s, hq'⟩ := zau (l := p.texts) (i := i) (by omega)
  have hrow' := zbT (g := strD) hq'
  simp only [intD] at hrow
  simp only [strD] at hrow'
  have hwi := zV (i := i) (by omega)
  have hcmp' : decide ((i : Int) < (p.texts.length : Int)) = true := by rw [← hl]; exact hcmp
  have hz : (p.targets.zip p.texts)[i]? = some (m, s) := List.getElem?_zip_eq_some.2 ⟨hq, hq'⟩
  rw [zd6 hz, List.map_cons] at hf
  have hpre : (xs ++ [zbj (m, s)]) <+: (p.targets.zip p.texts).map zbj := by rw [← hf]; simp
  simp only [zbj] at hpre
  repeat' (first | (refine zL (fun i => decide (i < 100)) (by simp only [inH, idsH, hsel, AV.ids, AV.idsL, AV.idsR, AObj.ids, hget, go_sem, aeq, aeq.aeqF, simprocAttr]) ?_; simp only [go_sem, aeq, aeq.aeqF, simprocAttr, hcmp, hcmp', hrow, hrow', Int.toNat_natCast, hsel, keepT]; refine zn ?_; simp only [go_sem, aeq, aeq.aeqF, simprocAttr, hcmp, hcmp', hrow, hrow', Int.toNat_natCast]) | ((first | refine zu noTab (zb _) (fun K hK => ?_) | refine zB noTab (zb _) ?_ | refine zh ?_ | refine zi ?_ | refine zn ?_); simp only [go_sem, aeq, aeq.aeqF, simprocAttr, hcmp, hcmp', hrow, hrow', Int.toNat_natCast]) | refine zq (fun K hK => ?_) | refine zp ?_ | refine zf rfl ?_ | refine zg rfl ?_ | refine zo rfl (fun hc => ?_) (fun hc => ?_) | (refine hK _ ?_; clear hK K) | ((first | refine (show AS.le _ _ from ?_) | refine (show leH _ _ from ?_) | refine (show inH _ _ from ?_)); simp only [AS.le, leT, leH, zr, AsgK, AV.le, AV.leL, AObj.le, inH, idsT, idsH, AV.ids, AV.idsL, AV.idsR, AObj.ids, lk, hget, go_sem, aeq, aeq.aeqF, simprocAttr, hcmp, hcmp', hrow, hrow', Int.toNat_natCast]) | refine fun (r2 : Rnd _) => ?_ | with_reducible refine And.intro ?_ ?_ | exact ‹_ <+: _› | omega | assumption | clear hK K)
  exact ⟨⟨(i + 1, xs ++ [zbj (m, s)]), by omega, by rw [← hf]; simp⟩, by simp only [AS.le, leT, leH, zr, AsgK, AV.le, AV.leL, AObj.le, inH, idsT, idsH, AV.ids, AV.idsL, AV.idsR, AObj.ids, lk, hget, go_sem, aeq, aeq.aeqF, simprocAttr, hwi, zbj], by simp; omega⟩
 ·repeat' (first | (refine zL (fun i => decide (i < 100)) (by simp only [inH, idsH, hsel, AV.ids, AV.idsL, AV.idsR, AObj.ids, hget, go_sem, aeq, aeq.aeqF, simprocAttr]) ?_; simp only [go_sem, aeq, aeq.aeqF, simprocAttr, hcmp, hsel, keepT]; refine zn ?_; simp only [go_sem, aeq, aeq.aeqF, simprocAttr, hcmp]) | ((first | refine zu noTab (zb _) (fun K hK => ?_) | refine zB noTab (zb _) ?_ | refine zh ?_ | refine zi ?_ | refine zn ?_); simp only [go_sem, aeq, aeq.aeqF, simprocAttr, hcmp]) | refine zq (fun K hK => ?_) | refine zp ?_ | refine zf rfl ?_ | refine zg rfl ?_ | refine zo rfl (fun hc => ?_) (fun hc => ?_) | (refine hK _ ?_; clear hK K) | ((first | refine (show AS.le _ _ from ?_) | refine (show leH _ _ from ?_) | refine (show inH _ _ from ?_)); simp only [AS.le, leT, leH, zr, AsgK, AV.le, AV.leL, AObj.le, inH, idsT, idsH, AV.ids, AV.idsL, AV.idsR, AObj.ids, lk, hget, go_sem, aeq, aeq.aeqF, simprocAttr, hcmp]) | refine fun (r2 : Rnd _) => ?_ | with_reducible refine And.intro ?_ ?_ | exact ‹_ <+: _› | omega | assumption | clear hK K)
  rintro zs rfl
  rw [← hf, List.drop_of_length_le (by rw [List.length_zip]; omega)]
  simp
def layF (d : Disk) (l : List (Int × Txt)) : Disk := l.foldl (fun d q => (zP d q.1 q.2).1) d
@[go_sem] theorem layF_nil (d : Disk) : layF d [] = d := rfl
theorem zoR : ∀ (l : List (Int × Txt)) {d : Disk}, DiskOk d → DiskOk (layF d l)
 | [], _, h => h
 | q :: l, d, h => zoR l (zgH h q.1 q.2)
theorem zoS (d : Disk) (l : List (Int × Txt)) (q : Int × Txt) : layF d (l ++ [q]) = (zP (layF d l) q.1 q.2).1 := by simp [layF]
theorem zgb : ∀ (l r : List (Int × Txt)) (d : Disk), (layL d l).2 = 0 → layL d (l ++ r) = layL (layF d l) r
 | [], r, d, _ => rfl
 | q :: l, r, d, h => by
  rw [layL] at h
  rw [List.cons_append, layL]
  split
  ·rename_i hq
   rw [if_pos hq] at h
   exact absurd h hq
  ·rename_i hq
   rw [if_neg hq] at h
   exact zgb l r _ h
noncomputable def tab5h : Tab := tabOf [zbi, zaG]
theorem zb9 : TabOk Tryz.prog tab5h := zA _
@[go_sem] theorem zmp (args : List AV) : tab5h 202 args = (zbi).e args := rfl
@[go_sem] theorem zmq (args : List AV) : tab5h 153 args = (zaG).e args := rfl
theorem ztq (d : Disk) (p : Plan) (hd : DiskOk d) (hp : PlanOk p) (hl : p.targets.length = p.texts.length) : ACall Tryz.prog 172 0 [diskA d, planA p] [] (fun r _ => r = .tup [diskA (play d p).1, .d (.int .i64 (play d p).2)]) := by
 refine zz ?_
 refine zk Tryz.func172 rfl (zv Tryz.func172 (by kernel_rfl) rfl) Tryz.ntmps172 (by simp) (fun base => ?_)
 repeat' (first | ((first | refine za tab5h (zb9) (fun K hK => ?_) | refine zc tab5h (zb9) ?_ | refine ze tab5h (zb9) mx (fun K hK => ?_) | refine zj tab5h (zb9) mx ?_ | refine zh ?_ | refine zi ?_ | refine zn ?_ | refine zaj ?_); simp only [go_sem, aeq, aeq.aeqF, simprocAttr, Tryz.results172]) | refine zq (fun K hK => ?_) | refine zp ?_ | refine zal ?_ | refine zf rfl ?_ | refine zg rfl ?_ | refine zo rfl (fun hc => ?_) (fun hc => ?_) | (refine hK _ ?_; clear hK K) | ((first | refine (show AS.le _ _ from ?_) | refine (show leH _ _ from ?_) | refine (show inH _ _ from ?_)); simp only [AS.le, leT, leH, zr, AsgK, AV.le, AV.leL, AObj.le, inH, idsT, idsH, AV.ids, AV.idsL, AV.idsR, AObj.ids, lk, hget, go_sem, aeq, aeq.aeqF, simprocAttr]) | refine fun (r2 : Rnd _) => ?_ | with_reducible refine And.intro ?_ ?_ | exact ‹_ <+: _› | (refine (show zt _ _ = true from ?_); kernel_rfl) | omega | assumption | clear hK K)
 obtain ⟨I, hI⟩ : ∃ I : List (List AV) → AHeap × Option (List (List AV)), I = fun xs => ([(3, .var [.d (.int .i64 0)]), (2, .var [.d (.str []), .nils 2, .d (.int .i64 0), .d (.bool false), .nils 1]), (1, .var [.d (.sl 1 (p.targets.map intD)), .d (.sl 1 (p.texts.map strD))]), (0, (.var [.d (.str (layF d (xs.map unI)).data), .d (.sl 2 ((layF d (xs.map unI)).cache.map putD)), .d (.int .i64 (layF d (xs.map unI)).fuse), .d (.bool (layF d (xs.map unI)).off), .d (.sl 1 ((layF d (xs.map unI)).bad.map intD))]))], some []) := ⟨_, rfl⟩
 obtain ⟨G, hG⟩ : ∃ G : List (List AV) → Prop, G = fun xs => (layL d (xs.map unI)).2 = 0 := ⟨_, rfl⟩
 obtain ⟨J, hJ⟩ : ∃ J : Code → AHeap → Option (List (List AV)) → Prop, J = fun c h g => c = .exit 0 ∧ g = some [] ∧ ∃ D e, play d p = (D, e) ∧ h = [(3, .var [.d (.int .i64 e)]), (2, .var [.d (.str []), .nils 2, .d (.int .i64 0), .d (.bool false), .nils 1]), (1, .var [.d (.sl 1 (p.targets.map intD)), .d (.sl 1 (p.texts.map strD))]), (0, (.var [.d (.str D.data), .d (.sl 2 (D.cache.map putD)), .d (.int .i64 D.fuse), .d (.bool D.off), .d (.sl 1 (D.bad.map intD))]))] := ⟨_, rfl⟩
 refine zaY 100 G I J (zgO p hp hl) (by simp only [go_sem, aeq, aeq.aeqF, simprocAttr]) rfl (zS rfl) (by simp [cxOf, cxY]) rfl (by rw [hG]; first | trivial | rfl | simp) (by rw [hI]; simp only [AS.le, leT, leH, zr, AsgK, AV.le, AV.leL, AObj.le, inH, idsT, idsH, AV.ids, AV.idsL, AV.idsR, AObj.ids, lk, hget, go_sem, aeq, aeq.aeqF, simprocAttr] <;> simp [AV.leL, AV.le]) (by rw [hI]; simp only [AS.le, leT, leH, zr, AsgK, AV.le, AV.leL, AObj.le, inH, idsT, idsH, AV.ids, AV.idsL, AV.idsR, AObj.ids, lk, hget, go_sem, aeq, aeq.aeqF, simprocAttr] <;> simp) (by rw [hI] <;> rfl) (by intro x hx; obtain ⟨q, _, rfl⟩ := List.mem_map.1 hx; rfl) (by intro t ht; simp at ht; first | (rcases ht with rfl | rfl <;> simp [cxOf, cxY] <;> done) | (subst ht; simp [cxOf, cxY])) ?_ ?_ ?_
 ·intro xs x hpre hgd l1 r1
  obtain ⟨ys, ⟨n, s⟩, zs, rfl, rfl, hzl⟩ := zcL hpre
  rw [hG] at hgd
  simp only [zcS] at hgd
  have hx := zoR ys hd
  have hall : play d p = layL (layF d ys) ((n, s) :: zs) := by rw [play, hzl, zgb _ _ _ hgd]
  rw [layL] at hall
  simp only [zbj]
  refine aw_le ⟨[(11, true, .d (.int .i64 n)), (12, true, .d (.str s)), (2, true, .vp 0 0), (3, true, .vp 1 0), (4, true, .vp 2 0), (6, true, .vp 3 0)], [(3, .var [.d (.int .i64 0)]), (2, .var [.d (.str []), .nils 2, .d (.int .i64 0), .d (.bool false), .nils 1]), (1, .var [.d (.sl 1 (p.targets.map intD)), .d (.sl 1 (p.texts.map strD))]), (0, (.var [.d (.str (layF d ys).data), .d (.sl 2 ((layF d ys).cache.map putD)), .d (.int .i64 (layF d ys).fuse), .d (.bool (layF d ys).off), .d (.sl 1 ((layF d ys).bad.map intD))]))], some []⟩ (by rw [hI]; simp only [zcS]; simp only [AS.le, leT, leH, zr, AsgK, AV.le, AV.leL, AObj.le, inH, idsT, idsH, AV.ids, AV.idsL, AV.idsR, AObj.ids, lk, hget, go_sem, aeq, aeq.aeqF, simprocAttr]) ?_
  have hsn : ((ys.map zbj ++ [[AV.d (.int .i64 n), AV.d (.str s)]]).map unI) = ys ++ [(n, s)] := by
   rw [List.map_append, zcS]; rfl
  have hsf : layF d (ys ++ [(n, s)]) = (zP (layF d ys) n s).1 := zoS _ _ _
  repeat' (first | ((first | refine za tab5h (zb9) (fun K hK => ?_) | refine zc tab5h (zb9) ?_ | refine ze tab5h (zb9) mx (fun K hK => ?_) | refine zj tab5h (zb9) mx ?_ | refine zh ?_ | refine zi ?_ | refine zn ?_ | refine zaj ?_); simp only [go_sem, aeq, aeq.aeqF, simprocAttr, hI, hsn, hsf, Tryz.results172]) | refine zq (fun K hK => ?_) | refine zp ?_ | refine zal ?_ | refine zf rfl ?_ | refine zg rfl ?_ | refine zo rfl (fun hc => ?_) (fun hc => ?_) | (refine hK _ ?_; clear hK K) | ((first | refine (show AS.le _ _ from ?_) | refine (show leH _ _ from ?_) | refine (show inH _ _ from ?_)); simp only [AS.le, leT, leH, zr, AsgK, AV.le, AV.leL, AObj.le, inH, idsT, idsH, AV.ids, AV.idsL, AV.idsR, AObj.ids, lk, hget, go_sem, aeq, aeq.aeqF, simprocAttr, hI, hsn, hsf]) | refine fun (r2 : Rnd _) => ?_ | with_reducible refine And.intro ?_ ?_ | exact ‹_ <+: _› | (refine (show zt _ _ = true from ?_); kernel_rfl) | omega | assumption | clear hK K)
  all_goals first | rfl | skip
  ·have hc : (zP (layF d ys) n s).2 ≠ 0 := by simpa using hc
   rw [hJ]
   exact ⟨rfl, rfl, _, _, by rw [hall, if_pos hc], rfl⟩
  ·have hc : (zP (layF d ys) n s).2 = 0 := by simpa using hc
   rw [hG]
   simp only [hsn]
   rw [zgb _ _ _ hgd, layL, if_neg (by simpa using hc)]
   rfl
  ·have hc : (zP (layF d ys) n s).2 = 0 := by simpa using hc
   rw [hc]
 ·intro hgd
  rw [hG] at hgd
  simp only [zcS] at hgd
  have hall : play d p = (layF d (p.targets.zip p.texts), 0) := by
   have := zgb (p.targets.zip p.texts) [] d hgd
   rw [List.append_nil] at this
   rw [play, this, layL]
  rw [hI]
  simp only [zcS]
  repeat' (first | ((first | refine za noTab (zb _) (fun K hK => ?_) | refine zc noTab (zb _) ?_ | refine ze noTab (zb _) mx (fun K hK => ?_) | refine zj noTab (zb _) mx ?_ | refine zh ?_ | refine zi ?_ | refine zn ?_ | refine zaj ?_); simp only [go_sem, aeq, aeq.aeqF, simprocAttr, Tryz.results172]) | refine zq (fun K hK => ?_) | refine zp ?_ | refine zal ?_ | refine zf rfl ?_ | refine zg rfl ?_ | refine zo rfl (fun hc => ?_) (fun hc => ?_) | (refine hK _ ?_; clear hK K) | ((first | refine (show AS.le _ _ from ?_) | refine (show leH _ _ from ?_) | refine (show inH _ _ from ?_)); simp only [AS.le, leT, leH, zr, AsgK, AV.le, AV.leL, AObj.le, inH, idsT, idsH, AV.ids, AV.idsL, AV.idsR, AObj.ids, lk, hget, go_sem, aeq, aeq.aeqF, simprocAttr]) | refine fun (r2 : Rnd _) => ?_ | with_reducible refine And.intro ?_ ?_ | exact ‹_ <+: _› | (refine (show zt _ _ = true from ?_); kernel_rfl) | omega | assumption | clear hK K)
  rw [hall]
 ·rw [hJ]
  rintro c h3 g3 ⟨rfl, rfl, D, e, hall, rfl⟩
  repeat' (first | ((first | refine za noTab (zb _) (fun K hK => ?_) | refine zc noTab (zb _) ?_ | refine ze noTab (zb _) mx (fun K hK => ?_) | refine zj noTab (zb _) mx ?_ | refine zh ?_ | refine zi ?_ | refine zn ?_ | refine zaj ?_); simp only [go_sem, aeq, aeq.aeqF, simprocAttr, Tryz.results172]) | refine zq (fun K hK => ?_) | refine zp ?_ | refine zal ?_ | refine zf rfl ?_ | refine zg rfl ?_ | refine zo rfl (fun hc => ?_) (fun hc => ?_) | (refine hK _ ?_; clear hK K) | ((first | refine (show AS.le _ _ from ?_) | refine (show leH _ _ from ?_) | refine (show inH _ _ from ?_)); simp only [AS.le, leT, leH, zr, AsgK, AV.le, AV.leL, AObj.le, inH, idsT, idsH, AV.ids, AV.idsL, AV.idsR, AObj.ids, lk, hget, go_sem, aeq, aeq.aeqF, simprocAttr]) | refine fun (r2 : Rnd _) => ?_ | with_reducible refine And.intro ?_ ?_ | exact ‹_ <+: _› | (refine (show zt _ _ = true from ?_); kernel_rfl) | omega | assumption | clear hK K)
  rw [hall]
noncomputable def zgP : Ent Tryz.prog := .ofL 172 (consL zN (consL zT nilL)) (fun (d, p, _) => (DiskOk d) ∧ (PlanOk p) ∧ (p.targets.length = p.texts.length)) (fun (d, p, _) => .tup [diskA (play d p).1, .d (.int .i64 (play d p).2)]) (fun (d, p, _) hp => ⟨rfl, ztq d p hp.1 hp.2.1 hp.2.2⟩)
attribute [go_sem] zgP
open Go Go.Proofs
def seenM (l : List Int) : List (D × D) := l.map fun n => (.int .i64 n, .bool true)
@[go_sem] theorem zuv : seenM [] = [] := rfl
theorem zmr (l : List Int) : ((seenM l).all fun p => alike (.int .i64) p.1) = true := by
 simp [seenM, alike]
theorem ztr (n m : Int) (v : D) (l : List (D × D)) : mat (.int .i64 n) ((.int .i64 m, v) :: l) = if n = m then some v else mat (.int .i64 n) l := by
 by_cases h : n = m <;> simp [mat, sameS, h]
theorem zrq (n m : Int) (w v : D) (l : List (D × D)) : mput (.int .i64 n) w ((.int .i64 m, v) :: l) = if n = m then (.int .i64 n, w) :: l else (.int .i64 m, v) :: mput (.int .i64 n) w l := by
 by_cases h : n = m <;> simp [mput, sameS, h]
theorem zlo (n : Int) : ∀ l : List Int, ((mat (.int .i64 n) (seenM l)).getD (.bool false)) = .bool (l.contains n)
 | [] => rfl
 | m :: l => by
  have ih := zlo n l
  have e : seenM (m :: l) = (.int .i64 m, .bool true) :: seenM l := rfl
  rw [e, ztr, List.contains_cons]
  by_cases h : n = m
  ·subst h; simp
  ·rw [if_neg h, ih]
   simp [h]
theorem zlp (n : Int) : ∀ l : List Int, l.contains n = false → mput (.int .i64 n) (.bool true) (seenM l) = seenM (l ++ [n])
 | [], _ => rfl
 | m :: l, h => by
  simp only [List.contains_cons, Bool.or_eq_false_iff] at h
  have ih := zlp n l h.2
  have e : seenM (m :: l) = (.int .i64 m, .bool true) :: seenM l := rfl
  rw [e, zrq, if_neg (by simpa using h.1), ih]
  rfl
theorem zjo : ∀ (l r : List (Int × Txt)) (seen : List Int), pfitZ seen (l ++ r) = (pfitZ seen l && pfitZ (seen ++ l.map (·.1)) r)
 | [], r, seen => by simp [pfitZ]
 | a :: l, r, seen => by
  rw [List.cons_append, pfitZ, pfitZ, zjo l, List.map_cons, List.append_assoc, List.singleton_append]
  simp only [Bool.and_assoc]
noncomputable def tab5i : Tab := tabOf [zbi, zbh]
theorem zgc : TabOk Tryz.prog tab5i := zA _
@[go_sem] theorem zms (args : List AV) : tab5i 202 args = (zbi).e args := rfl
@[go_sem] theorem zmt (args : List AV) : tab5i 203 args = (zbh).e args := rfl
theorem zts (p : Plan) (hp : PlanOk p) : ACall Tryz.prog 160 0 [planA p] [] (fun r _ => r = .d (.bool (pfit p))) := by
 refine zz ?_
 refine zk Tryz.func160 rfl (zv Tryz.func160 (by kernel_rfl) rfl) Tryz.ntmps160 (by simp) (fun base => ?_)
 have h1 := hp.targets
 have h2 := hp.texts
 repeat' (first | ((first | refine za tab5i (zgc) (fun K hK => ?_) | refine zc tab5i (zgc) ?_ | refine zh ?_ | refine zi ?_ | refine zn ?_); simp only [go_sem, aeq, aeq.aeqF, simprocAttr, Tryz.results160]) | refine zq (fun K hK => ?_) | refine zp ?_ | refine zf rfl ?_ | refine zg rfl ?_ | refine zo rfl (fun hc => ?_) (fun hc => ?_) | (refine hK _ ?_; clear hK K) | ((first | refine (show AS.le _ _ from ?_) | refine (show leH _ _ from ?_) | refine (show inH _ _ from ?_)); simp only [AS.le, leT, leH, zr, AsgK, AV.le, AV.leL, AObj.le, inH, idsT, idsH, AV.ids, AV.idsL, AV.idsR, AObj.ids, lk, hget, go_sem, aeq, aeq.aeqF, simprocAttr]) | refine fun (r2 : Rnd _) => ?_ | with_reducible refine And.intro ?_ ?_ | exact ‹_ <+: _› | omega | assumption | refine fun (hg : (_ : Bool) = (_ : Bool)) => ?_ | clear hK K)
 ·have : pfit p = false := by
   simp only [Bool.or_eq_true, bne_iff_ne, decide_eq_true_eq] at hc
   rw [pfit]
   rcases hc with hc | hc
   ·rw [decide_eq_false (p := p.targets.length = p.texts.length) (by omega)]; simp
   ·rw [decide_eq_false (p := p.targets.length ≤ 24) (by omega)]; simp
  rw [this]
 obtain ⟨hl, h24⟩ : p.targets.length = p.texts.length ∧ p.targets.length ≤ 24 := by
  simp only [Bool.or_eq_false_iff, bne_eq_false_iff_eq, decide_eq_false_iff_not] at hc
  omega
 have hfit : pfit p = pfitZ [] (p.targets.zip p.texts) := by
  rw [pfit, decide_eq_true hl, decide_eq_true h24, zgN]; simp
 obtain ⟨I, hI⟩ : ∃ I : List (List AV) → AHeap × Option (List (List AV)), I = fun xs => ([(3, .var [.map 2]), (2, .omap (seenM ((xs.map unI).map (·.1)))), (1, .var [.d (.bool false)]), (0, .var [.d (.sl 1 (p.targets.map intD)), .d (.sl 1 (p.texts.map strD))])], some []) := ⟨_, rfl⟩
 obtain ⟨G, hG⟩ : ∃ G : List (List AV) → Prop, G = fun xs => pfitZ [] (xs.map unI) = true := ⟨_, rfl⟩
 obtain ⟨J, hJ⟩ : ∃ J : Code → AHeap → Option (List (List AV)) → Prop, J = fun c h g => c = .ret ∧ g = some [] ∧ pfit p = false ∧ ∃ m, h = [(3, .var [.map 2]), (2, .omap m), (1, .var [.d (.bool false)]), (0, .var [.d (.sl 1 (p.targets.map intD)), .d (.sl 1 (p.texts.map strD))])] := ⟨_, rfl⟩
 refine zaY 100 G I J (zgO p hp hl) (by simp only [go_sem, aeq, aeq.aeqF, simprocAttr]) rfl (zS rfl) (by simp [cxOf, cxY]) rfl (by rw [hG]; first | trivial | rfl | simp) (by rw [hI]; simp only [AS.le, leT, leH, zr, AsgK, AV.le, AV.leL, AObj.le, inH, idsT, idsH, AV.ids, AV.idsL, AV.idsR, AObj.ids, lk, hget, go_sem, aeq, aeq.aeqF, simprocAttr] <;> simp [AV.leL, AV.le]) (by rw [hI]; simp only [AS.le, leT, leH, zr, AsgK, AV.le, AV.leL, AObj.le, inH, idsT, idsH, AV.ids, AV.idsL, AV.idsR, AObj.ids, lk, hget, go_sem, aeq, aeq.aeqF, simprocAttr] <;> simp) (by rw [hI] <;> rfl) (by intro x hx; obtain ⟨q, _, rfl⟩ := List.mem_map.1 hx; rfl) (by intro t ht; simp at ht; first | (rcases ht with rfl | rfl <;> simp [cxOf, cxY] <;> done) | (subst ht; simp [cxOf, cxY])) ?_ ?_ ?_
 ·intro xs x hpre hgd l1 r1
  obtain ⟨ys, ⟨n, s⟩, zs, rfl, rfl, hzl⟩ := zcL hpre
  rw [hG] at hgd
  simp only [zcS] at hgd
  have hall : pfit p = pfitZ (ys.map (·.1)) ((n, s) :: zs) := by
   rw [hfit, hzl, zjo, hgd]; rfl
  rw [pfitZ] at hall
  simp only [zbj]
  refine aw_le ⟨[(22, true, .d (.int .i64 n)), (23, true, .d (.str s)), (1, true, .vp 0 0), (2, true, .vp 1 0), (3, true, .vp 3 0)], [(3, .var [.map 2]), (2, .omap (seenM (ys.map (·.1)))), (1, .var [.d (.bool false)]), (0, .var [.d (.sl 1 (p.targets.map intD)), .d (.sl 1 (p.texts.map strD))])], some []⟩ (by rw [hI]; simp only [zcS]; simp only [AS.le, leT, leH, zr, AsgK, AV.le, AV.leL, AObj.le, inH, idsT, idsH, AV.ids, AV.idsL, AV.idsR, AObj.ids, lk, hget, go_sem, aeq, aeq.aeqF, simprocAttr]) ?_
  have hsm := zlo n (ys.map (·.1))
  have hsa := zmr (ys.map (·.1))
  have hsn : ((ys.map zbj ++ [[AV.d (.int .i64 n), AV.d (.str s)]]).map unI) = ys ++ [(n, s)] := by
   rw [List.map_append, zcS]; rfl
  repeat' (first | ((first | refine za tab5i (zgc) (fun K hK => ?_) | refine zc tab5i (zgc) ?_ | refine zh ?_ | refine zi ?_ | refine zn ?_); simp only [go_sem, aeq, aeq.aeqF, simprocAttr, hI, hsn, hsm, hsa, Tryz.results160]) | refine zq (fun K hK => ?_) | refine zp ?_ | refine zf rfl ?_ | refine zg rfl ?_ | refine zo rfl (fun hc => ?_) (fun hc => ?_) | (refine hK _ ?_; clear hK K) | ((first | refine (show AS.le _ _ from ?_) | refine (show leH _ _ from ?_) | refine (show inH _ _ from ?_)); simp only [AS.le, leT, leH, zr, AsgK, AV.le, AV.leL, AObj.le, inH, idsT, idsH, AV.ids, AV.idsL, AV.idsR, AObj.ids, lk, hget, go_sem, aeq, aeq.aeqF, simprocAttr, hI, hsn, hsm, hsa]) | refine fun (r2 : Rnd _) => ?_ | with_reducible refine And.intro ?_ ?_ | exact ‹_ <+: _› | omega | assumption | refine fun (hg : (_ : Bool) = (_ : Bool)) => ?_ | clear hK K)
  ·rw [hJ]
   refine ⟨rfl, rfl, ?_, _, rfl⟩
   have hh : (!secOk n || (ys.map (·.1)).contains n || ((s.length : Int) != 64)) = !(secOk n && !(ys.map (·.1)).contains n && ((s.length : Int) == 64)) := by
    rw [Bool.not_and, Bool.not_and, Bool.not_not]; rfl
   rw [hh] at hc
   simp only [Bool.not_eq_true'] at hc
   rw [hall, hc, Bool.false_and]
  ·rw [hG]
   simp only [hsn]
   simp only [Bool.or_eq_false_iff, Bool.not_eq_false', bne_eq_false_iff_eq] at hc
   rw [zfl, hgd, List.nil_append, hc.1.1, hc.1.2, hc.2]
   rfl
  ·simp only [Bool.or_eq_false_iff] at hc
   rw [zlp _ _ hc.1.2, List.map_append]
   rfl
 ·intro hgd
  rw [hG] at hgd
  simp only [zcS] at hgd
  rw [hI]
  repeat' (first | ((first | refine za noTab (zb _) (fun K hK => ?_) | refine zc noTab (zb _) ?_ | refine zh ?_ | refine zi ?_ | refine zn ?_); simp only [go_sem, aeq, aeq.aeqF, simprocAttr, Tryz.results160]) | refine zq (fun K hK => ?_) | refine zp ?_ | refine zf rfl ?_ | refine zg rfl ?_ | refine zo rfl (fun hc => ?_) (fun hc => ?_) | (refine hK _ ?_; clear hK K) | ((first | refine (show AS.le _ _ from ?_) | refine (show leH _ _ from ?_) | refine (show inH _ _ from ?_)); simp only [AS.le, leT, leH, zr, AsgK, AV.le, AV.leL, AObj.le, inH, idsT, idsH, AV.ids, AV.idsL, AV.idsR, AObj.ids, lk, hget, go_sem, aeq, aeq.aeqF, simprocAttr]) | refine fun (r2 : Rnd _) => ?_ | with_reducible refine And.intro ?_ ?_ | exact ‹_ <+: _› | omega | assumption | refine fun (hg : (_ : Bool) = (_ : Bool)) => ?_ | clear hK K)
  rw [hfit, hgd]
 ·rw [hJ]
  rintro c h3 g3 ⟨rfl, rfl, hno, m, rfl⟩
  repeat' (first | ((first | refine za noTab (zb _) (fun K hK => ?_) | refine zc noTab (zb _) ?_ | refine zh ?_ | refine zi ?_ | refine zn ?_); simp only [go_sem, aeq, aeq.aeqF, simprocAttr, Tryz.results160]) | refine zq (fun K hK => ?_) | refine zp ?_ | refine zf rfl ?_ | refine zg rfl ?_ | refine zo rfl (fun hc => ?_) (fun hc => ?_) | (refine hK _ ?_; clear hK K) | ((first | refine (show AS.le _ _ from ?_) | refine (show leH _ _ from ?_) | refine (show inH _ _ from ?_)); simp only [AS.le, leT, leH, zr, AsgK, AV.le, AV.leL, AObj.le, inH, idsT, idsH, AV.ids, AV.idsL, AV.idsR, AObj.ids, lk, hget, go_sem, aeq, aeq.aeqF, simprocAttr]) | refine fun (r2 : Rnd _) => ?_ | with_reducible refine And.intro ?_ ?_ | exact ‹_ <+: _› | omega | assumption | refine fun (hg : (_ : Bool) = (_ : Bool)) => ?_ | clear hK K)
  rw [hno]
noncomputable def zgQ : Ent Tryz.prog := .ofL 160 (consL zT nilL) (fun (p, _) => PlanOk p) (fun (p, _) => .d (.bool (pfit p))) (fun (p, _) hp => ⟨rfl, zts p hp⟩)
attribute [go_sem] zgQ
open Go Go.Proofs
structure DiskF (d : Disk) : Prop where
 ok : DiskOk d
 puts : d.cache.all (putOk d) = true
theorem zjr {d d' : Disk} (h : d'.data.length = d.data.length) : putOk d' = putOk d := by
 funext q
 unfold putOk there dsize
 rw [h]
theorem zfm (d : Disk) : (burnt d).data = d.data := by unfold burnt; split <;> rfl
theorem zgU (d : Disk) : (burnt d).cache = d.cache := by unfold burnt; split <;> rfl
theorem zkh (d : Disk) (a : Int) (s : Txt) : (zP d a s).1.data = d.data := by
 unfold zP
 repeat' split
 all_goals first | rfl | (rw [zfm])
theorem DiskF.write {d : Disk} (h : DiskF d) (a : Int) (s : Txt) : DiskF (zP d a s).1 := by
 refine ⟨zgH h.ok a s, ?_⟩
 have e := zjr (d := d) (d' := (zP d a s).1) (by rw [zkh])
 rw [e]
 unfold zP
 split
 ·exact h.puts
 split
 ·exact h.puts
 split
 ·exact h.puts
 split
 ·exact h.puts
 split
 ·exact h.puts
 split
 ·exact h.puts
 ·rename_i h1 h2 h3 h4 h5 h6
  rw [zgU, List.all_append, h.puts]
  have h3 : (s.length : Int) = 64 := by simpa using h3
  simp [putOk, h3]
  simpa using h2
theorem zmw {d : Disk} (h : d.cache.all (putOk d) = true) : (dflush d).1.data.length = d.data.length := by
 unfold dflush
 split
 ·rfl
 split
 ·rfl
 ·rw [zfm]; exact zl6 h
theorem DiskF.flush {d : Disk} (h : DiskF d) : DiskF (dflush d).1 := by
 have hl := zmw h.puts
 refine ⟨?_, ?_⟩
 ·revert hl
  unfold dflush
  split
  ·intro _; exact h.ok
  split
  ·intro _; exact ⟨h.ok.data, h.ok.cache, h.ok.bad, h.ok.fuse0, h.ok.fuse1⟩
  ·intro hl
   rw [zfm] at hl
   exact zk2 ⟨by rw [hl]; exact h.ok.data, by simp, h.ok.bad, h.ok.fuse0, h.ok.fuse1⟩
 ·rw [zjr hl]
  unfold dflush
  split
  ·exact h.puts
  split
  ·exact h.puts
  ·rw [zgU]; rfl
theorem DiskF.layL : ∀ (l : List (Int × Txt)) {d : Disk}, DiskF d → DiskF (layL d l).1
 | [], d, h => h
 | q :: l, d, h => by
  rw [Aw.layL]
  split
  ·exact h.write q.1 q.2
  ·exact DiskF.layL l (h.write q.1 q.2)
def encT (l : List Int) : Txt := l.flatMap (fun t => putN t.toNat 4)
def padR (s : Txt) : Txt := (padS s 64).1
def trows (l : List Int) : List Txt := if l.length ≤ 16 then [padR (encT l)] else [padR (encT (l.take 16)), padR (encT (l.drop 16))]
def tbody (p : Plan) : List Txt := trows p.targets ++ p.texts
def thead (seq : Int) (p : Plan) : Txt := putN seq.toNat 8 ++ putN p.targets.length 2
def tsum (c : Int) (l : List Txt) : Int := l.foldl sumOf c
def zsN : Txt := [67, 79, 70, 74]
def ttop (seq : Int) (p : Plan) : Txt := padR (zsN ++ thead seq p ++ putN (65535 - p.targets.length) 2 ++ zeH (tsum (sumOf 0 (thead seq p)) (tbody p)))
def zc7 (seq : Int) (p : Plan) : List Txt := ttop seq p :: tbody p
theorem zru {p : Plan} (hp : pfit p = true) : ∀ t ∈ p.targets, 0 ≤ t ∧ t < 1024 := by
 obtain ⟨h1, h2, h3⟩ := pfit_iff.1 hp
 have key : ∀ (l : List (Int × Txt)) (seen : List Int), pfitZ seen l = true → ∀ q ∈ l, 0 ≤ q.1 ∧ q.1 < 1024 := by
  intro l
  induction l with
  | nil => intro _ _ q hq; simp at hq
  | cons a l ih =>
   intro seen h q hq
   simp only [pfitZ, Bool.and_eq_true] at h
   rcases List.mem_cons.1 hq with rfl | hq
   ·have := h.1.1.1
    simpa [secOk] using this
   ·exact ih _ h.2 q hq
 intro t ht
 obtain ⟨i, hi, rfl⟩ := List.mem_iff_getElem.1 ht
 have hz : (p.targets.zip p.texts)[i]? = some (p.targets[i], p.texts[i]'(by omega)) := List.getElem?_zip_eq_some.2 ⟨by simp [hi], by simp⟩
 exact key _ _ h3 _ (List.mem_of_getElem? hz)
open Go Go.Proofs
structure Tx where
 seq : Int
 plan : Plan
 deriving DecidableEq
def txA (t : Tx) : AV := .agg [.d (.int .u64 t.seq), .d (.sl 1 (t.plan.targets.map intD)), .d (.sl 1 (t.plan.texts.map strD))]
attribute [go_sem] txA
theorem zuy (t : Tx) : Tx.mk t.seq t.plan = t := rfl
noncomputable def txA_T : PT Tx := aggT (consL (intT .u64) (consL (slT 1 intD zbJ) (consL (slT 1 strD zeA) nilL))) (fun p => ⟨p.1, ⟨p.2.1, p.2.2.1⟩⟩) (fun x => (x.seq, x.plan.targets, x.plan.texts, ())) (fun _ => rfl)
attribute [go_sem] txA_T
attribute [go_sem] zuy
theorem zo2 (l : List Int) (t : Int) : encT (l ++ [t]) = encT l ++ putN t.toNat 4 := by simp [encT]
theorem zeI (l : List Int) : (encT l).length = 4 * l.length := by
 induction l with
 | nil => rfl
 | cons a l ih => simp only [encT, List.flatMap_cons, List.length_append, zap, List.length_cons] at ih ⊢; omega
theorem zo3 (l : List Txt) (c : Int) (s : Txt) : tsum c (l ++ [s]) = sumOf (tsum c l) s := by simp [tsum]
theorem zgf {s : Txt} (h : s.length ≤ 64) : (padR s).length = 64 := by
 rw [padR, padS, if_neg (by omega)]
 simp; omega
theorem zo4 (l : List Int) (h : l.length ≤ 24) : ∀ s ∈ trows l, s.length = 64 := by
 intro s hs
 unfold trows at hs
 split at hs
 ·simp only [List.mem_singleton] at hs
  subst hs
  exact zgf (by rw [zeI]; omega)
 ·simp only [List.mem_cons, List.not_mem_nil, or_false] at hs
  rcases hs with rfl | rfl
  ·exact zgf (by rw [zeI, List.length_take]; omega)
  ·exact zgf (by rw [zeI, List.length_drop]; omega)
theorem zju {p : Plan} (hf : pfit p = true) : ∀ s ∈ tbody p, s.length = 64 := by
 obtain ⟨hl, h24, h64⟩ := zaI hf
 intro s hs
 rcases List.mem_append.1 hs with h | h
 ·exact zo4 _ h24 s h
 ·exact h64 s h
theorem zdQ (c : Int) : (zeH c).length = 4 := rfl
open Go Go.Proofs
noncomputable def tab6p : Tab := tabOf [zbK, zeC]
theorem zdU : TabOk Tryz.prog tab6p := zA _
@[go_sem] theorem zsP (args : List AV) : tab6p 184 args = (zbK).e args := rfl
@[go_sem] theorem zsQ (args : List AV) : tab6p 124 args = (zeC).e args := rfl
theorem ztE (n : Int) (size : Int) (h0 : 0 ≤ n) (h1 : n < 18446744073709551616) : ACall Tryz.prog 161 0 [.d (.int .u64 n), .d (.int .i64 size)] [] (fun r _ => r = .d (.str (putS8 n size))) := by
 refine zk Tryz.func161 rfl (zv Tryz.func161 (by kernel_rfl) rfl) Tryz.ntmps161 (by simp) (fun base => ?_)
 repeat' (first | ((first | refine za tab6p (zdU) (fun K hK => ?_) | refine zc tab6p (zdU) ?_ | refine zh ?_ | refine zi ?_ | refine zn ?_); simp only [go_sem, aeq, aeq.aeqF, simprocAttr, Tryz.results161]) | refine zq (fun K hK => ?_) | (refine hK _ ?_; clear hK K) | with_reducible refine And.intro ?_ ?_ | omega | assumption | clear hK K)
noncomputable def zg0 : Ent Tryz.prog := .ofL 161 (consL (intT .u64) (consL (intT .i64) nilL)) (fun (n, size, _) => (0 ≤ n) ∧ (n < 18446744073709551616)) (fun (n, size, _) => .d (.str (putS8 n size))) (fun (n, size, _) hp => ⟨rfl, ztE n size hp.1 hp.2⟩)
attribute [go_sem] zg0
theorem ztF (n : Int) (size : Int) (h0 : 0 ≤ n) (h1 : n < 9223372036854775808) : ACall Tryz.prog 162 0 [.d (.int .i64 n), .d (.int .i64 size)] [] (fun r _ => r = .d (.str (putS8 n size))) := by
 refine zk Tryz.func162 rfl (zv Tryz.func162 (by kernel_rfl) rfl) Tryz.ntmps162 (by simp) (fun base => ?_)
 have hw : IntKind.u64.wrap n = n := zaH (by omega) (by omega)
 repeat' (first | ((first | refine za tab6p (zdU) (fun K hK => ?_) | refine zc tab6p (zdU) ?_ | refine zh ?_ | refine zi ?_ | refine zn ?_); simp only [go_sem, aeq, aeq.aeqF, simprocAttr, hw, Tryz.results162]) | refine zq (fun K hK => ?_) | (refine hK _ ?_; clear hK K) | with_reducible refine And.intro ?_ ?_ | omega | assumption | clear hK K)
noncomputable def zdC : Ent Tryz.prog := .ofL 162 (consL (intT .i64) (consL (intT .i64) nilL)) (fun (n, size, _) => (0 ≤ n) ∧ (n < 9223372036854775808)) (fun (n, size, _) => .d (.str (putS8 n size))) (fun (n, size, _) hp => ⟨rfl, ztF n size hp.1 hp.2⟩)
attribute [go_sem] zdC
theorem ztG (s : Txt) (hs : s.length ≤ 9223372036854775807) : ACall Tryz.prog 165 0 [.d (.str s)] [] (fun r _ => r = .d (.str (padR s))) := by
 refine zk Tryz.func165 rfl (zv Tryz.func165 (by kernel_rfl) rfl) Tryz.ntmps165 (by simp) (fun base => ?_)
 repeat' (first | ((first | refine za tab6p (zdU) (fun K hK => ?_) | refine zc tab6p (zdU) ?_ | refine zh ?_ | refine zi ?_ | refine zn ?_); simp only [go_sem, aeq, aeq.aeqF, simprocAttr, Tryz.results165]) | refine zq (fun K hK => ?_) | (refine hK _ ?_; clear hK K) | with_reducible refine And.intro ?_ ?_ | omega | assumption | clear hK K)
 rfl
noncomputable def zdD : Ent Tryz.prog := .ofL 165 (consL strT nilL) (fun (s, _) => s.length ≤ 9223372036854775807) (fun (s, _) => .d (.str (padR s))) (fun (s, _) hp => ⟨rfl, ztG s hp⟩)
attribute [go_sem] zdD
def zbu (l : List Int) : List (List Int) := if l = [] then [] else if l.length ≤ 16 then [l] else [l.take 16, l.drop 16]
def zao (l : List Int) : List AV := [.d (.sl 1 (l.map intD))]
theorem zrT (l : List Int) : ACall Tryz.prog 205 0 [.d (.sl 1 (l.map intD)), .d (.int .i64 16)] [] (fun r _ => r = .fn (.func 219) [] [.dp [.d (.sl 1 (l.map intD))], .dp [.d (.int .i64 16)]]) := by
 refine zz ?_
 refine zk Tryz.func205 rfl (zv Tryz.func205 (by kernel_rfl) rfl) Tryz.ntmps205 (by simp) (fun base => ?_)
 repeat' (first | ((first | refine za noTab (zb _) (fun K hK => ?_) | refine zc noTab (zb _) ?_ | refine zh ?_ | refine zi ?_ | refine zn ?_); simp only [go_sem, aeq, aeq.aeqF, simprocAttr, Tryz.results205]) | refine zq (fun K hK => ?_) | refine zf rfl ?_ | refine zg rfl ?_ | refine zo rfl (fun hc => ?_) (fun hc => ?_) | (refine hK _ ?_; clear hK K) | refine fun (nb : Bool) (hnb : nb = true → _) => ?_ | with_reducible refine And.intro ?_ ?_ | omega | assumption | clear hK K)
noncomputable def zfw : Ent Tryz.prog := .ofL 205 (consL (slT 1 intD zbJ) (consL (zk0 (.d (.int .i64 16))) nilL)) (fun (l, _, _) => True) (fun (l, _, _) => .fn (.func 219) [] [.dp [.d (.sl 1 (l.map intD))], .dp [.d (.int .i64 16)]]) (fun (l, _, _) hp => ⟨rfl, zrT l⟩)
attribute [go_sem] zfw
abbrev Cst (l : List Int) := { q : Nat × List (List AV) // (q.1 = 0 ∧ q.2 = []) ∨ (q.1 = 16 ∧ 0 < l.length ∧ q.2 = [zao (l.take 16)]) ∨ (q.1 = 32 ∧ 16 < l.length ∧ q.2 = [zao (l.take 16), zao (l.drop 16)]) }
theorem zjE (l : List Int) (hl : l.length ≤ 24) (fl : Nat) : AIter Tryz.prog 219 fl [] [.dp [.d (.sl 1 (l.map intD))], .dp [.d (.int .i64 16)]] [] ((zbu l).map zao) (fun g h' => (∀ xs, g = some xs → xs = (zbu l).map zao) ∧ h' = []) := by
 refine zaE Tryz.func219 rfl (zv Tryz.func219 (by kernel_rfl) rfl) Tryz.ntmps219 rfl (by simp) (fun base y => ?_)
 repeat' (first | (refine zL (fun i => decide (i < fl)) (by simp only [inH, idsH, hsel, AV.ids, AV.idsL, AV.idsR, AObj.ids, hget, go_sem, aeq, aeq.aeqF, simprocAttr]) ?_; simp only [go_sem, aeq, aeq.aeqF, simprocAttr, hsel, keepT]; refine zn ?_; simp only [go_sem, aeq, aeq.aeqF, simprocAttr]) | ((first | refine zu noTab (zb _) (fun K hK => ?_) | refine zB noTab (zb _) ?_ | refine ze noTab (zb _) mx (fun K hK => ?_) | refine zj noTab (zb _) mx ?_ | refine zh ?_ | refine zi ?_ | refine zn ?_); simp only [go_sem, aeq, aeq.aeqF, simprocAttr]) | refine zq (fun K hK => ?_) | refine zp ?_ | refine zf rfl ?_ | refine zg rfl ?_ | refine zo rfl (fun hc => ?_) (fun hc => ?_) | (refine hK _ ?_; clear hK K) | ((first | refine (show AS.le _ _ from ?_) | refine (show leH _ _ from ?_) | refine (show inH _ _ from ?_)); simp only [AS.le, leT, leH, zr, AsgK, AV.le, AV.leL, AObj.le, inH, idsT, idsH, AV.ids, AV.idsL, AV.idsR, AObj.ids, lk, hget, go_sem, aeq, aeq.aeqF, simprocAttr]) | refine fun (r2 : Rnd _) => ?_ | with_reducible refine And.intro ?_ ?_ | exact ‹_ <+: _› | (refine (show zt _ _ = true from ?_); kernel_rfl) | omega | assumption | clear hK K)
 refine zO (fun q : Cst l => ⟨[(0, true, .fn (.yield y.yl) [] []), (1, true, .dp [.d (.sl 1 (l.map intD))]), (2, true, .dp [.d (.int .i64 16)]), (4, true, .d (.int .i64 q.1.1))], [], some q.1.2⟩) (fun q => 40 - q.1.1) ⟨(0, []), .inl ⟨rfl, rfl⟩⟩ (by simp only [AS.le, leT, leH, zr, AsgK, AV.le, AV.leL, AObj.le, inH, idsT, idsH, AV.ids, AV.idsL, AV.idsR, AObj.ids, lk, hget, go_sem, aeq, aeq.aeqF, simprocAttr] <;> and_intros <;> rfl) (fun q => ?_)
 obtain ⟨⟨i, xs⟩, hi⟩ := q
 simp only at hi ⊢
 rcases hi with ⟨rfl, rfl⟩ | ⟨rfl, h0, rfl⟩ | ⟨rfl, h16, rfl⟩
 ·by_cases h : l = []
  ·subst h
   repeat' (first | (refine zL (fun i => decide (i < fl)) (by simp only [inH, idsH, hsel, AV.ids, AV.idsL, AV.idsR, AObj.ids, hget, go_sem, aeq, aeq.aeqF, simprocAttr]) ?_; simp only [go_sem, aeq, aeq.aeqF, simprocAttr, hsel, keepT]; refine zn ?_; simp only [go_sem, aeq, aeq.aeqF, simprocAttr]) | ((first | refine zu noTab (zb _) (fun K hK => ?_) | refine zB noTab (zb _) ?_ | refine ze noTab (zb _) mx (fun K hK => ?_) | refine zj noTab (zb _) mx ?_ | refine zh ?_ | refine zi ?_ | refine zn ?_); simp only [go_sem, aeq, aeq.aeqF, simprocAttr]) | refine zq (fun K hK => ?_) | refine zp ?_ | refine zf rfl ?_ | refine zg rfl ?_ | refine zo rfl (fun hc => ?_) (fun hc => ?_) | (refine hK _ ?_; clear hK K) | ((first | refine (show AS.le _ _ from ?_) | refine (show leH _ _ from ?_) | refine (show inH _ _ from ?_)); simp only [AS.le, leT, leH, zr, AsgK, AV.le, AV.leL, AObj.le, inH, idsT, idsH, AV.ids, AV.idsL, AV.idsR, AObj.ids, lk, hget, go_sem, aeq, aeq.aeqF, simprocAttr]) | refine fun (r2 : Rnd _) => ?_ | with_reducible refine And.intro ?_ ?_ | exact ‹_ <+: _› | (refine (show zt _ _ = true from ?_); kernel_rfl) | omega | assumption | clear hK K)
   rintro zs rfl
   rfl
  ·have hpos : 0 < l.length := List.length_pos_iff.2 h
   have hcmp : decide ((0 : Int) < (l.length : Int)) = true := decide_eq_true (by omega)
   obtain ⟨n, hn⟩ : ∃ n, n = min 16 l.length := ⟨_, rfl⟩
   have hm : imin 16 (l.length : Int) = (n : Int) := by unfold imin; split <;> omega
   have hw : IntKind.i64.wrap (0 + (n : Int)) = n := by rw [Int.zero_add]; exact zD (by omega) (by omega)
   have ht : (l.map intD).take n = (l.take 16).map intD := by
    rw [← List.map_take]
    rcases Nat.le_total l.length 16 with h2 | h2
    ·rw [hn, Nat.min_eq_right h2, List.take_length, List.take_of_length_le h2]
    ·rw [hn, Nat.min_eq_left h2]
   have hc0 : ((0 : Nat) : Int) = 0 := rfl
   have hz : (Int.toNat 0) = 0 := rfl
   repeat' (first | (refine zL (fun i => decide (i < fl)) (by simp only [inH, idsH, hsel, AV.ids, AV.idsL, AV.idsR, AObj.ids, hget, go_sem, aeq, aeq.aeqF, simprocAttr]) ?_; simp only [go_sem, aeq, aeq.aeqF, simprocAttr, hc0, hcmp, hm, hw, hz, Int.toNat_natCast, List.drop_zero, ht, hsel, keepT]; refine zn ?_; simp only [go_sem, aeq, aeq.aeqF, simprocAttr, hc0, hcmp, hm, hw, hz, Int.toNat_natCast, List.drop_zero, ht]) | ((first | refine zu noTab (zb _) (fun K hK => ?_) | refine zB noTab (zb _) ?_ | refine ze noTab (zb _) mx (fun K hK => ?_) | refine zj noTab (zb _) mx ?_ | refine zh ?_ | refine zi ?_ | refine zn ?_); simp only [go_sem, aeq, aeq.aeqF, simprocAttr, hc0, hcmp, hm, hw, hz, Int.toNat_natCast, List.drop_zero, ht]) | refine zq (fun K hK => ?_) | refine zp ?_ | refine zf rfl ?_ | refine zg rfl ?_ | refine zo rfl (fun hc => ?_) (fun hc => ?_) | (refine hK _ ?_; clear hK K) | ((first | refine (show AS.le _ _ from ?_) | refine (show leH _ _ from ?_) | refine (show inH _ _ from ?_)); simp only [AS.le, leT, leH, zr, AsgK, AV.le, AV.leL, AObj.le, inH, idsT, idsH, AV.ids, AV.idsL, AV.idsR, AObj.ids, lk, hget, go_sem, aeq, aeq.aeqF, simprocAttr, hc0, hcmp, hm, hw, hz, Int.toNat_natCast, List.drop_zero, ht]) | refine fun (r2 : Rnd _) => ?_ | with_reducible refine And.intro ?_ ?_ | exact ‹_ <+: _› | (refine (show zt _ _ = true from ?_); kernel_rfl) | omega | assumption | clear hK K)
   ·unfold zbu
    rw [if_neg h]
    split
    ·rename_i h2
     rw [List.take_of_length_le h2]
     exact ⟨[], rfl⟩
    ·exact ⟨[zao (l.drop 16)], rfl⟩
   ·have hw16 : IntKind.i64.wrap 16 = 16 := by decide
    exact ⟨⟨(16, [zao (l.take 16)]), .inr (.inl ⟨rfl, hpos, rfl⟩)⟩, by simp only [AS.le, leT, leH, zr, AsgK, AV.le, AV.leL, AObj.le, inH, idsT, idsH, AV.ids, AV.idsL, AV.idsR, AObj.ids, lk, hget, go_sem, aeq, aeq.aeqF, simprocAttr, hw16, zao] <;> and_intros <;> rfl, by simp⟩
 ·rcases Nat.lt_or_ge 16 l.length with h16 | h16
  ·have hcmp : decide ((16 : Int) < (l.length : Int)) = true := decide_eq_true (by omega)
   obtain ⟨n, hn⟩ : ∃ n, n = l.length - 16 := ⟨_, rfl⟩
   have hdl : ((l.drop 16).length : Int) = (n : Int) := by simp [hn]
   have hm : imin 16 (n : Int) = (n : Int) := by unfold imin; split <;> omega
   have hw : IntKind.i64.wrap (16 + (n : Int)) = ((16 + n : Nat) : Int) := by rw [zD (by omega) (by omega)]; omega
   have ht : (l.map intD).take (16 + n) = l.map intD := List.take_of_length_le (by simp; omega)
   have hmd : (l.map intD).drop 16 = (l.drop 16).map intD := by rw [← List.map_drop]
   have hc0 : ((16 : Nat) : Int) = 16 := rfl
   have hz : (Int.toNat 16) = 16 := rfl
   repeat' (first | (refine zL (fun i => decide (i < fl)) (by simp only [inH, idsH, hsel, AV.ids, AV.idsL, AV.idsR, AObj.ids, hget, go_sem, aeq, aeq.aeqF, simprocAttr]) ?_; simp only [go_sem, aeq, aeq.aeqF, simprocAttr, hc0, hcmp, hm, hw, hz, hdl, Int.toNat_natCast, ht, hmd, hsel, keepT]; refine zn ?_; simp only [go_sem, aeq, aeq.aeqF, simprocAttr, hc0, hcmp, hm, hw, hz, hdl, Int.toNat_natCast, ht, hmd]) | ((first | refine zu noTab (zb _) (fun K hK => ?_) | refine zB noTab (zb _) ?_ | refine ze noTab (zb _) mx (fun K hK => ?_) | refine zj noTab (zb _) mx ?_ | refine zh ?_ | refine zi ?_ | refine zn ?_); simp only [go_sem, aeq, aeq.aeqF, simprocAttr, hc0, hcmp, hm, hw, hz, hdl, Int.toNat_natCast, ht, hmd]) | refine zq (fun K hK => ?_) | refine zp ?_ | refine zf rfl ?_ | refine zg rfl ?_ | refine zo rfl (fun hc => ?_) (fun hc => ?_) | (refine hK _ ?_; clear hK K) | ((first | refine (show AS.le _ _ from ?_) | refine (show leH _ _ from ?_) | refine (show inH _ _ from ?_)); simp only [AS.le, leT, leH, zr, AsgK, AV.le, AV.leL, AObj.le, inH, idsT, idsH, AV.ids, AV.idsL, AV.idsR, AObj.ids, lk, hget, go_sem, aeq, aeq.aeqF, simprocAttr, hc0, hcmp, hm, hw, hz, hdl, Int.toNat_natCast, ht, hmd]) | refine fun (r2 : Rnd _) => ?_ | with_reducible refine And.intro ?_ ?_ | exact ‹_ <+: _› | (refine (show zt _ _ = true from ?_); kernel_rfl) | omega | assumption | clear hK K)
   ·unfold zbu
    rw [if_neg (by intro e; rw [e] at h16; simp at h16), if_neg (by omega)]
    exact ⟨[], rfl⟩
   ·have hw32 : IntKind.i64.wrap 32 = 32 := by decide
    exact ⟨⟨(32, [zao (l.take 16), zao (l.drop 16)]), .inr (.inr ⟨rfl, h16, rfl⟩)⟩, by simp only [AS.le, leT, leH, zr, AsgK, AV.le, AV.leL, AObj.le, inH, idsT, idsH, AV.ids, AV.idsL, AV.idsR, AObj.ids, lk, hget, go_sem, aeq, aeq.aeqF, simprocAttr, hw32, zao] <;> and_intros <;> rfl, by simp⟩
  ·have hcmp : decide ((16 : Int) < (l.length : Int)) = false := decide_eq_false (by omega)
   have hc0 : ((16 : Nat) : Int) = 16 := rfl
   repeat' (first | (refine zL (fun i => decide (i < fl)) (by simp only [inH, idsH, hsel, AV.ids, AV.idsL, AV.idsR, AObj.ids, hget, go_sem, aeq, aeq.aeqF, simprocAttr]) ?_; simp only [go_sem, aeq, aeq.aeqF, simprocAttr, hc0, hcmp, hsel, keepT]; refine zn ?_; simp only [go_sem, aeq, aeq.aeqF, simprocAttr, hc0, hcmp]) | ((first | refine zu noTab (zb _) (fun K hK => ?_) | refine zB noTab (zb _) ?_ | refine ze noTab (zb _) mx (fun K hK => ?_) | refine zj noTab (zb _) mx ?_ | refine zh ?_ | refine zi ?_ | refine zn ?_); simp only [go_sem, aeq, aeq.aeqF, simprocAttr, hc0, hcmp]) | refine zq (fun K hK => ?_) | refine zp ?_ | refine zf rfl ?_ | refine zg rfl ?_ | refine zo rfl (fun hc => ?_) (fun hc => ?_) | (refine hK _ ?_; clear hK K) | ((first | refine (show AS.le _ _ from ?_) | refine (show leH _ _ from ?_) | refine (show inH _ _ from ?_)); simp only [AS.le, leT, leH, zr, AsgK, AV.le, AV.leL, AObj.le, inH, idsT, idsH, AV.ids, AV.idsL, AV.idsR, AObj.ids, lk, hget, go_sem, aeq, aeq.aeqF, simprocAttr, hc0, hcmp]) | refine fun (r2 : Rnd _) => ?_ | with_reducible refine And.intro ?_ ?_ | exact ‹_ <+: _› | (refine (show zt _ _ = true from ?_); kernel_rfl) | omega | assumption | clear hK K)
   rintro zs rfl
   unfold zbu
   rw [if_neg (by intro e; rw [e] at h0; simp at h0), if_pos h16, List.take_of_length_le h16]
   rfl
 ·have hcmp : decide ((32 : Int) < (l.length : Int)) = false := decide_eq_false (by omega)
  have hc0 : ((32 : Nat) : Int) = 32 := rfl
  repeat' (first | (refine zL (fun i => decide (i < fl)) (by simp only [inH, idsH, hsel, AV.ids, AV.idsL, AV.idsR, AObj.ids, hget, go_sem, aeq, aeq.aeqF, simprocAttr]) ?_; simp only [go_sem, aeq, aeq.aeqF, simprocAttr, hc0, hcmp, hsel, keepT]; refine zn ?_; simp only [go_sem, aeq, aeq.aeqF, simprocAttr, hc0, hcmp]) | ((first | refine zu noTab (zb _) (fun K hK => ?_) | refine zB noTab (zb _) ?_ | refine ze noTab (zb _) mx (fun K hK => ?_) | refine zj noTab (zb _) mx ?_ | refine zh ?_ | refine zi ?_ | refine zn ?_); simp only [go_sem, aeq, aeq.aeqF, simprocAttr, hc0, hcmp]) | refine zq (fun K hK => ?_) | refine zp ?_ | refine zf rfl ?_ | refine zg rfl ?_ | refine zo rfl (fun hc => ?_) (fun hc => ?_) | (refine hK _ ?_; clear hK K) | ((first | refine (show AS.le _ _ from ?_) | refine (show leH _ _ from ?_) | refine (show inH _ _ from ?_)); simp only [AS.le, leT, leH, zr, AsgK, AV.le, AV.leL, AObj.le, inH, idsT, idsH, AV.ids, AV.idsL, AV.idsR, AObj.ids, lk, hget, go_sem, aeq, aeq.aeqF, simprocAttr, hc0, hcmp]) | refine fun (r2 : Rnd _) => ?_ | with_reducible refine And.intro ?_ ?_ | exact ‹_ <+: _› | (refine (show zt _ _ = true from ?_); kernel_rfl) | omega | assumption | clear hK K)
  rintro zs rfl
  unfold zbu
  rw [if_neg (by intro e; rw [e] at h16; simp at h16), if_neg (by omega)]
  rfl
open Go Go.Proofs
def bItem (s : Txt) : List AV := [.d (.str s)]
def unC (x : List AV) : List AV :=
 match x with
 | [.d (.sl _ rows)] => bItem (padR (encT (rows.map fun r => match r with | [.int _ n] => n | _ => 0)))
 | _ => []
theorem zlF (c : List Int) : unC (zao c) = bItem (padR (encT c)) := by
 simp only [unC, zao, List.map_map]
 have : ((fun r : List D => match r with | [.int _ n] => n | _ => (0 : Int)) ∘ intD) = id := rfl
 rw [this, List.map_id]
theorem zkx (l : List (List Int)) : (l.map zao).map unC = l.map (fun c => bItem (padR (encT c))) := by
 rw [List.map_map]
 exact List.map_congr_left (fun c _ => zlF c)
theorem zky {l : List Int} (h : l ≠ []) : trows l = (zbu l).map (fun c => padR (encT c)) := by
 unfold trows zbu
 rw [if_neg h]
 split <;> rfl
theorem zg1 {p : Plan} (h : p.targets ≠ []) : (tbody p).map bItem = (zbu p.targets).map (fun c => bItem (padR (encT c))) ++ p.texts.map bItem := by
 rw [tbody, zky h, List.map_append, List.map_map]
 rfl
theorem zkz {l c : List Int} (h : c ∈ zbu l) (hl : l.length ≤ 24) : c.length ≤ 16 ∧ ∀ t ∈ c, t ∈ l := by
 unfold zbu at h
 split at h
 ·cases h
 split at h
 ·rename_i h1 h2
  obtain rfl : c = l := by simpa using h
  exact ⟨h2, fun t ht => ht⟩
 ·rcases List.mem_cons.1 h with rfl | h
  ·exact ⟨by simp; omega, fun t ht => List.mem_of_mem_take ht⟩
  ·obtain rfl : c = l.drop 16 := by simpa using h
   exact ⟨by simp; omega, fun t ht => List.mem_of_mem_drop ht⟩
theorem ztH : liesAt Tryz.prog Tryz.prog.depth 133 (2 / Tryz.prog.cellsOf 133) 0 133 1 = true := by kernel_rfl
noncomputable def tabCh : Tab := tabOf [zfw]
theorem zgg : TabOk Tryz.prog tabCh := zA _
@[go_sem] theorem zqj (args : List AV) : tabCh 205 args = (zfw).e args := rfl
noncomputable def tabNm : Tab := tabOf [zdC, zdD]
theorem zeS : TabOk Tryz.prog tabNm := zA _
@[go_sem] theorem zrU (args : List AV) : tabNm 162 args = (zdC).e args := rfl
@[go_sem] theorem zrV (args : List AV) : tabNm 165 args = (zdD).e args := rfl
theorem ziB (p : Plan) (hp : PlanOk p) (h24 : p.targets.length ≤ 24) (hne : p.targets ≠ []) (hr : ∀ t ∈ p.targets, 0 ≤ t ∧ t < 1024) : AIter Tryz.prog 204 100 [] [.dp [.d (.sl 1 (p.targets.map intD)), .d (.sl 1 (p.texts.map strD))]] [] ((tbody p).map bItem) (fun g h' => (∀ xs, g = some xs → xs = (tbody p).map bItem) ∧ h' = []) := by
 refine zaE Tryz.func204 rfl (zv Tryz.func204 (by kernel_rfl) rfl) Tryz.ntmps204 rfl (by simp) (fun base y => ?_)
 refine zgD ?_
 repeat' (first | (refine zL (fun i => decide (i < 100)) (by simp only [inH, idsH, hsel, AV.ids, AV.idsL, AV.idsR, AObj.ids, hget, go_sem, aeq, aeq.aeqF, simprocAttr]) ?_; simp only [go_sem, aeq, aeq.aeqF, simprocAttr, hsel, keepT]; refine zn ?_; simp only [go_sem, aeq, aeq.aeqF, simprocAttr]) | ((first | refine zu tabCh (zgg) (fun K hK => ?_) | refine zB tabCh (zgg) ?_ | refine ze tabCh (zgg) mx (fun K hK => ?_) | refine zj tabCh (zgg) mx ?_ | refine zh ?_ | refine zi ?_ | refine zn ?_); simp only [go_sem, aeq, aeq.aeqF, simprocAttr]) | refine zq (fun K hK => ?_) | refine zp ?_ | refine zf rfl ?_ | refine zg rfl ?_ | refine zo rfl (fun hc => ?_) (fun hc => ?_) | (refine hK _ ?_; clear hK K) | ((first | refine (show AS.le _ _ from ?_) | refine (show leH _ _ from ?_) | refine (show inH _ _ from ?_)); simp only [AS.le, leT, leH, zr, AsgK, AV.le, AV.leL, AObj.le, inH, idsT, idsH, AV.ids, AV.idsL, AV.idsR, AObj.ids, lk, hget, go_sem, aeq, aeq.aeqF, simprocAttr]) | refine fun (r2 : Rnd _) => ?_ | with_reducible refine And.intro ?_ ?_ | exact ‹_ <+: _› | (refine (show zt _ _ = true from ?_); kernel_rfl) | omega | assumption | clear hK K)
 obtain ⟨I, hI⟩ : ∃ I : List (List AV) → AHeap × Option (List (List AV)), I = fun xs => ([(100, .var [.fn (.yield y.yl) [] []])], some (xs.map unC)) := ⟨_, rfl⟩
 obtain ⟨G, hG⟩ : ∃ G : List (List AV) → Prop, G = fun _ => True := ⟨_, rfl⟩
 obtain ⟨J, hJ⟩ : ∃ J : Code → AHeap → Option (List (List AV)) → Prop, J = fun c h g => c = .ret ∧ h = [(100, .var [.fn (.yield y.yl) [] []])] ∧ g = none := ⟨_, rfl⟩
 refine zaY 200 G I J (zjE p.targets h24 200) (by simp only [go_sem, aeq, aeq.aeqF, simprocAttr]) rfl (zS rfl) (by simp [cxOf, cxY]) rfl (by rw [hG]; first | trivial | rfl | simp) (by rw [hI]; simp only [AS.le, leT, leH, zr, AsgK, AV.le, AV.leL, AObj.le, inH, idsT, idsH, AV.ids, AV.idsL, AV.idsR, AObj.ids, lk, hget, go_sem, aeq, aeq.aeqF, simprocAttr] <;> simp [AV.leL, AV.le]) (by rw [hI]; simp only [AS.le, leT, leH, zr, AsgK, AV.le, AV.leL, AObj.le, inH, idsT, idsH, AV.ids, AV.idsL, AV.idsR, AObj.ids, lk, hget, go_sem, aeq, aeq.aeqF, simprocAttr] <;> simp) (by rw [hI] <;> rfl) (by intro x hx; obtain ⟨q, _, rfl⟩ := List.mem_map.1 hx; rfl) (by intro t ht; simp at ht; first | (rcases ht with rfl | rfl <;> simp [cxOf, cxY] <;> done) | (subst ht; simp [cxOf, cxY])) ?_ ?_ ?_
 ·intro xs x hpre hgd l1 r1
  obtain ⟨ys, c, zs, rfl, rfl, hzl⟩ := zcL hpre
  have hcm : c ∈ zbu p.targets := by rw [hzl]; simp
  obtain ⟨hc16, hcr⟩ := zkz hcm h24
  have hit : (ys.map (fun c => bItem (padR (encT c))) ++ [bItem (padR (encT c))]) <+: (tbody p).map bItem := by
   rw [zg1 hne, hzl, List.map_append, List.map_cons]
   exact ⟨zs.map (fun c => bItem (padR (encT c))) ++ p.texts.map bItem, by simp⟩
  simp only [zao]
  refine aw_le ⟨[(12, true, .d (.sl 1 (c.map intD))), (2, true, .vp 100 0)], [(100, .var [.fn (.yield y.yl) [] []])], some (ys.map (fun c => bItem (padR (encT c))))⟩ (by rw [hI]; simp only [zkx]; simp only [AS.le, leT, leH, zr, AsgK, AV.le, AV.leL, AObj.le, inH, idsT, idsH, AV.ids, AV.idsL, AV.idsR, AObj.ids, lk, hget, go_sem, aeq, aeq.aeqF, simprocAttr]) ?_
  repeat' (first | (refine zL (fun i => decide (i < 200)) (by simp only [inH, idsH, hsel, AV.ids, AV.idsL, AV.idsR, AObj.ids, hget, go_sem, aeq, aeq.aeqF, simprocAttr]) ?_; simp only [go_sem, aeq, aeq.aeqF, simprocAttr, hI, hsel, keepT]; refine zn ?_; simp only [go_sem, aeq, aeq.aeqF, simprocAttr, hI]) | ((first | refine zu noTab (zb _) (fun K hK => ?_) | refine zB noTab (zb _) ?_ | refine ze noTab (zb _) mx (fun K hK => ?_) | refine zj noTab (zb _) mx ?_ | refine zh ?_ | refine zi ?_ | refine zn ?_); simp only [go_sem, aeq, aeq.aeqF, simprocAttr, hI]) | refine zq (fun K hK => ?_) | refine zp ?_ | refine zf rfl ?_ | refine zg rfl ?_ | refine zo rfl (fun hc => ?_) (fun hc => ?_) | (refine hK _ ?_; clear hK K) | ((first | refine (show AS.le _ _ from ?_) | refine (show leH _ _ from ?_) | refine (show inH _ _ from ?_)); simp only [AS.le, leT, leH, zr, AsgK, AV.le, AV.leL, AObj.le, inH, idsT, idsH, AV.ids, AV.idsL, AV.idsR, AObj.ids, lk, hget, go_sem, aeq, aeq.aeqF, simprocAttr, hI]) | refine fun (r2 : Rnd _) => ?_ | with_reducible refine And.intro ?_ ?_ | exact ‹_ <+: _› | (refine (show zt _ _ = true from ?_); kernel_rfl) | omega | assumption | clear hK K)
  refine zpw 200 1 rfl rfl ?_
  simp only [go_sem, aeq, aeq.aeqF, simprocAttr]
  refine zO (fun q : { i : Nat // i ≤ c.length } => ⟨[(2, true, .vp 100 0), (4, true, .tp 200 0), (13, true, .d (.sl 1 (c.map intD))), (14, true, .d (.int .i64 c.length)), (15, true, .d (.int .i64 q.1))], [(201, .buf 5 (encT (c.take q.1))), (200, .tvar 133 [if q.1 = 0 then .d .nilp else .tp 200 0, .bsl 201 (encT (c.take q.1)).length]), (100, .var [.fn (.yield y.yl) [] []])], some (ys.map (fun c => bItem (padR (encT c))))⟩) (fun q => c.length - q.1) ⟨0, Nat.zero_le _⟩ (by simp only [AS.le, leT, leH, zr, AsgK, AV.le, AV.leL, AObj.le, inH, idsT, idsH, AV.ids, AV.idsL, AV.idsR, AObj.ids, lk, hget, go_sem, aeq, aeq.aeqF, simprocAttr, if_true, List.take_zero] <;> and_intros <;> rfl) (fun q => ?_)
  obtain ⟨i, hi⟩ := q
  simp only at hi ⊢
  rcases zaw intD c i hi with ⟨t, hq, hlt, hcmp, hrow, hdr, htk⟩ | ⟨hend, hcmp⟩
  ·simp only [intD] at hrow
   have hwi := zV (i := i) (by omega)
   obtain ⟨ht0, ht1⟩ := hr t (hcr t (List.mem_of_getElem? hq))
   have hel : (encT (c.take i)).length ≤ 64 := by rw [zeI, List.length_take]; omega
   have hpl : putS8 t 4 = putN t.toNat 4 := rfl
   have hpn : (putN t.toNat 4).length = 4 := zap _ _
   have hsn : encT (c.take (i + 1)) = encT (c.take i) ++ putN t.toNat 4 := by rw [htk, zo2]
   have hnt : ∀ a, tabNm 84 a = none := fun a => rfl
   repeat' (first | (refine zL (fun i => decide (i < 200)) (by simp only [inH, idsH, hsel, AV.ids, AV.idsL, AV.idsR, AObj.ids, hget, go_sem, aeq, aeq.aeqF, simprocAttr]) ?_; simp only [go_sem, aeq, aeq.aeqF, simprocAttr, hcmp, hrow, hpl, hnt, hsel, keepT]; refine zn ?_; simp only [go_sem, aeq, aeq.aeqF, simprocAttr, hcmp, hrow, hpl, hnt]) | ((first | refine zu tabNm (zeS) (fun K hK => ?_) | refine zB tabNm (zeS) ?_ | refine ze tabNm (zeS) mx (fun K hK => ?_) | refine zj tabNm (zeS) mx ?_ | refine zh ?_ | refine zi ?_ | refine zn ?_); simp only [go_sem, aeq, aeq.aeqF, simprocAttr, hcmp, hrow, hpl, hnt]) | refine zq (fun K hK => ?_) | refine zp ?_ | refine zf rfl ?_ | refine zg rfl ?_ | refine zo rfl (fun hc => ?_) (fun hc => ?_) | (refine hK _ ?_; clear hK K) | ((first | refine (show AS.le _ _ from ?_) | refine (show leH _ _ from ?_) | refine (show inH _ _ from ?_)); simp only [AS.le, leT, leH, zr, AsgK, AV.le, AV.leL, AObj.le, inH, idsT, idsH, AV.ids, AV.idsL, AV.idsR, AObj.ids, lk, hget, go_sem, aeq, aeq.aeqF, simprocAttr, hcmp, hrow, hpl, hnt]) | refine fun (r2 : Rnd _) => ?_ | with_reducible refine And.intro ?_ ?_ | exact ‹_ <+: _› | (refine (show zt _ _ = true from ?_); kernel_rfl) | omega | assumption | clear hK K)
   refine (zrS (i := 200) (j := 201) (o := 0) (T := 133) (cs := [if i = 0 then .d .nilp else .tp 200 0, .bsl 201 (encT (c.take i)).length]) (xs := encT (c.take i)) rfl (by by_cases h0 : i = 0 <;> simp [h0]) rfl rfl rfl ztH (by omega)).mono ?_
   rintro r h' ⟨rfl, rfl⟩
   repeat' (first | (refine zL (fun i => decide (i < 200)) (by simp only [inH, idsH, hsel, AV.ids, AV.idsL, AV.idsR, AObj.ids, hget, go_sem, aeq, aeq.aeqF, simprocAttr]) ?_; simp only [go_sem, aeq, aeq.aeqF, simprocAttr, hsel, keepT]; refine zn ?_; simp only [go_sem, aeq, aeq.aeqF, simprocAttr]) | ((first | refine zu noTab (zb _) (fun K hK => ?_) | refine zB noTab (zb _) ?_ | refine ze noTab (zb _) mx (fun K hK => ?_) | refine zj noTab (zb _) mx ?_ | refine zh ?_ | refine zi ?_ | refine zn ?_); simp only [go_sem, aeq, aeq.aeqF, simprocAttr]) | refine zq (fun K hK => ?_) | refine zp ?_ | refine zf rfl ?_ | refine zg rfl ?_ | refine zo rfl (fun hc => ?_) (fun hc => ?_) | (refine hK _ ?_; clear hK K) | ((first | refine (show AS.le _ _ from ?_) | refine (show leH _ _ from ?_) | refine (show inH _ _ from ?_)); simp only [AS.le, leT, leH, zr, AsgK, AV.le, AV.leL, AObj.le, inH, idsT, idsH, AV.ids, AV.idsL, AV.idsR, AObj.ids, lk, hget, go_sem, aeq, aeq.aeqF, simprocAttr]) | refine fun (r2 : Rnd _) => ?_ | with_reducible refine And.intro ?_ ?_ | exact ‹_ <+: _› | (refine (show zt _ _ = true from ?_); kernel_rfl) | omega | assumption | clear hK K)
   have hif : (if i + 1 = 0 then AV.d .nilp else AV.tp 200 0) = .tp 200 0 := if_neg (by omega)
   exact ⟨⟨i + 1, by omega⟩, by simp only [AS.le, leT, leH, zr, AsgK, AV.le, AV.leL, AObj.le, inH, idsT, idsH, AV.ids, AV.idsL, AV.idsR, AObj.ids, lk, hget, go_sem, aeq, aeq.aeqF, simprocAttr, hwi, hsn, hif, List.length_append], by simp; omega⟩
  ·have htk : c.take i = c := by rw [hend, List.take_length]
   rw [htk]
   have hel : (encT c).length ≤ 64 := by rw [zeI]; omega
   obtain ⟨x0, hx0⟩ : ∃ x0, x0 = (if i = 0 then AV.d .nilp else AV.tp 200 0) := ⟨_, rfl⟩
   rw [← hx0]
   repeat' ((fail_if_success refine hds 9 (by rfl) ?_); first | (refine zL (fun i => decide (i < 200)) (by simp only [inH, idsH, hsel, AV.ids, AV.idsL, AV.idsR, AObj.ids, hget, go_sem, aeq, aeq.aeqF, simprocAttr]) ?_; simp only [go_sem, aeq, aeq.aeqF, simprocAttr, hcmp, hsel, keepT]; refine zn ?_; simp only [go_sem, aeq, aeq.aeqF, simprocAttr, hcmp]) | ((first | refine zu noTab (zb _) (fun K hK => ?_) | refine zB noTab (zb _) ?_ | refine ze noTab (zb _) mx (fun K hK => ?_) | refine zj noTab (zb _) mx ?_ | refine zh ?_ | refine zi ?_ | refine zn ?_); simp only [go_sem, aeq, aeq.aeqF, simprocAttr, hcmp]) | refine zq (fun K hK => ?_) | refine zp ?_ | refine zf rfl ?_ | refine zg rfl ?_ | refine zo rfl (fun hc => ?_) (fun hc => ?_) | (refine hK _ ?_; clear hK K) | ((first | refine (show AS.le _ _ from ?_) | refine (show leH _ _ from ?_) | refine (show inH _ _ from ?_)); simp only [AS.le, leT, leH, zr, AsgK, AV.le, AV.leL, AObj.le, inH, idsT, idsH, AV.ids, AV.idsL, AV.idsR, AObj.ids, lk, hget, go_sem, aeq, aeq.aeqF, simprocAttr, hcmp]) | refine fun (r2 : Rnd _) => ?_ | with_reducible refine And.intro ?_ ?_ | exact ‹_ <+: _› | (refine (show zt _ _ = true from ?_); kernel_rfl) | omega | assumption | clear hK K)
   have hh : HotOk Tryz.prog 200 (hotOf noHot 86 [.tp 200 0] [(201, .buf 5 (encT c)), (200, .tvar 133 [x0, .bsl 201 (encT c).length]), (100, .var [.fn (.yield y.yl) [] []])] (.d (.str (encT c))) [(201, .buf 5 gone), (200, .tvar 133 [x0, .bsl 201 (encT c).length]), (100, .var [.fn (.yield y.yl) [] []])]) :=
    zlD (zlC _ _) (fun K hK => (zpv (i := 200) (j := 201) (o := 0) (T := 133) (cs := [x0, .bsl 201 (encT c).length]) (xs := encT c) rfl rfl rfl rfl (by omega)).mono (by rintro r h' ⟨rfl, rfl⟩; exact hK))
   have hnt : ∀ a, tabNm 86 a = none := fun a => rfl
   refine zq (fun K2 hK2 => ziA tabNm _ zeS hh (by kernel_rfl) ?_)
   clear hh
   have hKT : ∀ s', s'.le ⟨[(27, true, .d (.bool false))], [(100, .var [.fn (.yield y.yl) [] []])], some (ys.map (fun c => bItem (padR (encT c))) ++ [[.d (.str (padR (encT c)))]])⟩ → K2 s' := fun s' hle => hK2 _ (aw_le _ hle (by
    repeat' (first | (refine zL (fun i => decide (i < 200)) (by simp only [inH, idsH, hsel, AV.ids, AV.idsL, AV.idsR, AObj.ids, hget, go_sem, aeq, aeq.aeqF, simprocAttr]) ?_; simp only [go_sem, aeq, aeq.aeqF, simprocAttr, hI, hsel, keepT]; refine zn ?_; simp only [go_sem, aeq, aeq.aeqF, simprocAttr, hI]) | ((first | refine zu noTab (zb _) (fun K hK => ?_) | refine zB noTab (zb _) ?_ | refine ze noTab (zb _) mx (fun K hK => ?_) | refine zj noTab (zb _) mx ?_ | refine zh ?_ | refine zi ?_ | refine zn ?_); simp only [go_sem, aeq, aeq.aeqF, simprocAttr, hI]) | refine zq (fun K hK => ?_) | refine zp ?_ | refine zf rfl ?_ | refine zg rfl ?_ | refine zo rfl (fun hc => ?_) (fun hc => ?_) | (refine hK _ ?_; clear hK K) | ((first | refine (show AS.le _ _ from ?_) | refine (show leH _ _ from ?_) | refine (show inH _ _ from ?_)); simp only [AS.le, leT, leH, zr, AsgK, AV.le, AV.leL, AObj.le, inH, idsT, idsH, AV.ids, AV.idsL, AV.idsR, AObj.ids, lk, hget, go_sem, aeq, aeq.aeqF, simprocAttr, hI]) | refine fun (r2 : Rnd _) => ?_ | with_reducible refine And.intro ?_ ?_ | exact ‹_ <+: _› | (refine (show zt _ _ = true from ?_); kernel_rfl) | omega | assumption | clear hK K)
    ·rw [hG]; trivial
    ·rw [List.map_append, zkx, List.map_singleton, show unC [AV.d (.sl 1 (c.map intD))] = [.d (.str (padR (encT c)))] from zlF c]))
   have hKF : ∀ s', s'.le ⟨[(27, true, .d (.bool true))], [(100, .var [.fn (.yield y.yl) [] []])], none⟩ → K2 s' := fun s' hle => hK2 _ (aw_le _ hle (by
    repeat' (first | (refine zL (fun i => decide (i < 200)) (by simp only [inH, idsH, hsel, AV.ids, AV.idsL, AV.idsR, AObj.ids, hget, go_sem, aeq, aeq.aeqF, simprocAttr]) ?_; simp only [go_sem, aeq, aeq.aeqF, simprocAttr, hI, hsel, keepT]; refine zn ?_; simp only [go_sem, aeq, aeq.aeqF, simprocAttr, hI]) | ((first | refine zu noTab (zb _) (fun K hK => ?_) | refine zB noTab (zb _) ?_ | refine ze noTab (zb _) mx (fun K hK => ?_) | refine zj noTab (zb _) mx ?_ | refine zh ?_ | refine zi ?_ | refine zn ?_); simp only [go_sem, aeq, aeq.aeqF, simprocAttr, hI]) | refine zq (fun K hK => ?_) | refine zp ?_ | refine zf rfl ?_ | refine zg rfl ?_ | refine zo rfl (fun hc => ?_) (fun hc => ?_) | (refine hK _ ?_; clear hK K) | ((first | refine (show AS.le _ _ from ?_) | refine (show leH _ _ from ?_) | refine (show inH _ _ from ?_)); simp only [AS.le, leT, leH, zr, AsgK, AV.le, AV.leL, AObj.le, inH, idsT, idsH, AV.ids, AV.idsL, AV.idsR, AObj.ids, lk, hget, go_sem, aeq, aeq.aeqF, simprocAttr, hI]) | refine fun (r2 : Rnd _) => ?_ | with_reducible refine And.intro ?_ ?_ | exact ‹_ <+: _› | (refine (show zt _ _ = true from ?_); kernel_rfl) | omega | assumption | clear hK K)
    ·rw [hJ]; exact ⟨rfl, rfl, rfl⟩))
   have hit' : (ys.map (fun c => bItem (padR (encT c))) ++ [[.d (.str (padR (encT c)))]]) <+: (tbody p).map bItem := hit
   clear hK2 hit
   simp only [go_sem, aeq, aeq.aeqF, simprocAttr]
   repeat' (with_reducible refine And.intro ?_ ?_)
   all_goals first | omega | exact hit' | (refine hKT _ ?_; (simp only [AS.le, leT, leH, zr, AsgK, AV.le, AV.leL, AObj.le, inH, idsT, idsH, AV.ids, AV.idsL, AV.idsR, AObj.ids, lk, hget, go_sem, aeq, aeq.aeqF, simprocAttr]); done) | (refine hKF _ ?_; (simp only [AS.le, leT, leH, zr, AsgK, AV.le, AV.leL, AObj.le, inH, idsT, idsH, AV.ids, AV.idsL, AV.idsR, AObj.ids, lk, hget, go_sem, aeq, aeq.aeqF, simprocAttr]); done)
 ·intro _
  rw [hI]
  simp only [zkx]
  obtain ⟨B, hB⟩ : ∃ B, B = (zbu p.targets).map (fun c => bItem (padR (encT c))) := ⟨_, rfl⟩
  have hall : (tbody p).map bItem = B ++ p.texts.map bItem := by rw [hB]; exact zg1 hne
  rw [← hB]
  repeat' (first | (refine zL (fun i => decide (i < 100)) (by simp only [inH, idsH, hsel, AV.ids, AV.idsL, AV.idsR, AObj.ids, hget, go_sem, aeq, aeq.aeqF, simprocAttr]) ?_; simp only [go_sem, aeq, aeq.aeqF, simprocAttr, hsel, keepT]; refine zn ?_; simp only [go_sem, aeq, aeq.aeqF, simprocAttr]) | ((first | refine zu noTab (zb _) (fun K hK => ?_) | refine zB noTab (zb _) ?_ | refine ze noTab (zb _) mx (fun K hK => ?_) | refine zj noTab (zb _) mx ?_ | refine zh ?_ | refine zi ?_ | refine zn ?_); simp only [go_sem, aeq, aeq.aeqF, simprocAttr]) | refine zq (fun K hK => ?_) | refine zp ?_ | refine zf rfl ?_ | refine zg rfl ?_ | refine zo rfl (fun hc => ?_) (fun hc => ?_) | (refine hK _ ?_; clear hK K) | ((first | refine (show AS.le _ _ from ?_) | refine (show leH _ _ from ?_) | refine (show inH _ _ from ?_)); simp only [AS.le, leT, leH, zr, AsgK, AV.le, AV.leL, AObj.le, inH, idsT, idsH, AV.ids, AV.idsL, AV.idsR, AObj.ids, lk, hget, go_sem, aeq, aeq.aeqF, simprocAttr]) | refine fun (r2 : Rnd _) => ?_ | with_reducible refine And.intro ?_ ?_ | exact ‹_ <+: _› | (refine (show zt _ _ = true from ?_); kernel_rfl) | omega | assumption | clear hK K)
  have htx := hp.texts
  refine zO (fun q : { i : Nat // i ≤ p.texts.length } => ⟨[(2, true, .vp 100 0), (29, true, .d (.sl 1 (p.texts.map strD))), (30, true, .d (.int .i64 p.texts.length)), (31, true, .d (.int .i64 q.1))], [(100, .var [.fn (.yield y.yl) [] []])], some (B ++ (p.texts.take q.1).map bItem)⟩) (fun q => p.texts.length - q.1) ⟨0, Nat.zero_le _⟩ (by simp only [AS.le, leT, leH, zr, AsgK, AV.le, AV.leL, AObj.le, inH, idsT, idsH, AV.ids, AV.idsL, AV.idsR, AObj.ids, lk, hget, go_sem, aeq, aeq.aeqF, simprocAttr] <;> simp) (fun q => ?_)
  obtain ⟨i, hi⟩ := q
  simp only at hi ⊢
  rcases zaw strD p.texts i hi with ⟨s, hq, hlt, hcmp, hrow, hdr, htk⟩ | ⟨hend, hcmp⟩
  ·simp only [strD] at hrow
   have hwi := zV (i := i) (by omega)
   have hpr : ((B ++ (p.texts.take i).map bItem) ++ [[.d (.str s)]]) <+: (tbody p).map bItem := by
    rw [hall]
    refine ⟨(p.texts.drop (i + 1)).map bItem, ?_⟩
    have h1 := List.take_append_drop i p.texts
    rw [hdr] at h1
    conv => rhs; rw [← h1]
    simp [bItem]
   repeat' (first | (refine zL (fun i => decide (i < 100)) (by simp only [inH, idsH, hsel, AV.ids, AV.idsL, AV.idsR, AObj.ids, hget, go_sem, aeq, aeq.aeqF, simprocAttr]) ?_; simp only [go_sem, aeq, aeq.aeqF, simprocAttr, hcmp, hrow, hsel, keepT]; refine zn ?_; simp only [go_sem, aeq, aeq.aeqF, simprocAttr, hcmp, hrow]) | ((first | refine zu noTab (zb _) (fun K hK => ?_) | refine zB noTab (zb _) ?_ | refine ze noTab (zb _) mx (fun K hK => ?_) | refine zj noTab (zb _) mx ?_ | refine zh ?_ | refine zi ?_ | refine zn ?_); simp only [go_sem, aeq, aeq.aeqF, simprocAttr, hcmp, hrow]) | refine zq (fun K hK => ?_) | refine zp ?_ | refine zf rfl ?_ | refine zg rfl ?_ | refine zo rfl (fun hc => ?_) (fun hc => ?_) | (refine hK _ ?_; clear hK K) | ((first | refine (show AS.le _ _ from ?_) | refine (show leH _ _ from ?_) | refine (show inH _ _ from ?_)); simp only [AS.le, leT, leH, zr, AsgK, AV.le, AV.leL, AObj.le, inH, idsT, idsH, AV.ids, AV.idsL, AV.idsR, AObj.ids, lk, hget, go_sem, aeq, aeq.aeqF, simprocAttr, hcmp, hrow]) | refine fun (r2 : Rnd _) => ?_ | with_reducible refine And.intro ?_ ?_ | exact ‹_ <+: _› | (refine (show zt _ _ = true from ?_); kernel_rfl) | omega | assumption | clear hK K)
   exact ⟨⟨i + 1, by omega⟩, by simp only [AS.le, leT, leH, zr, AsgK, AV.le, AV.leL, AObj.le, inH, idsT, idsH, AV.ids, AV.idsL, AV.idsR, AObj.ids, lk, hget, go_sem, aeq, aeq.aeqF, simprocAttr, hwi, htk, List.map_append, List.append_assoc, bItem, List.map_singleton], by simp; omega⟩
  ·repeat' (first | (refine zL (fun i => decide (i < 100)) (by simp only [inH, idsH, hsel, AV.ids, AV.idsL, AV.idsR, AObj.ids, hget, go_sem, aeq, aeq.aeqF, simprocAttr]) ?_; simp only [go_sem, aeq, aeq.aeqF, simprocAttr, hcmp, hsel, keepT]; refine zn ?_; simp only [go_sem, aeq, aeq.aeqF, simprocAttr, hcmp]) | ((first | refine zu noTab (zb _) (fun K hK => ?_) | refine zB noTab (zb _) ?_ | refine ze noTab (zb _) mx (fun K hK => ?_) | refine zj noTab (zb _) mx ?_ | refine zh ?_ | refine zi ?_ | refine zn ?_); simp only [go_sem, aeq, aeq.aeqF, simprocAttr, hcmp]) | refine zq (fun K hK => ?_) | refine zp ?_ | refine zf rfl ?_ | refine zg rfl ?_ | refine zo rfl (fun hc => ?_) (fun hc => ?_) | (refine hK _ ?_; clear hK K) | ((first | refine (show AS.le _ _ from ?_) | refine (show leH _ _ from ?_) | refine (show inH _ _ from ?_)); simp only [AS.le, leT, leH, zr, AsgK, AV.le, AV.leL, AObj.le, inH, idsT, idsH, AV.ids, AV.idsL, AV.idsR, AObj.ids, lk, hget, go_sem, aeq, aeq.aeqF, simprocAttr, hcmp]) | refine fun (r2 : Rnd _) => ?_ | with_reducible refine And.intro ?_ ?_ | exact ‹_ <+: _› | (refine (show zt _ _ = true from ?_); kernel_rfl) | omega | assumption | clear hK K)
   rintro zs rfl
   rw [hall, hend, List.take_length]
 ·rw [hJ]
  rintro c h3 g3 ⟨rfl, rfl, rfl⟩
  repeat' (first | (refine zL (fun i => decide (i < 100)) (by simp only [inH, idsH, hsel, AV.ids, AV.idsL, AV.idsR, AObj.ids, hget, go_sem, aeq, aeq.aeqF, simprocAttr]) ?_; simp only [go_sem, aeq, aeq.aeqF, simprocAttr, hsel, keepT]; refine zn ?_; simp only [go_sem, aeq, aeq.aeqF, simprocAttr]) | ((first | refine zu noTab (zb _) (fun K hK => ?_) | refine zB noTab (zb _) ?_ | refine ze noTab (zb _) mx (fun K hK => ?_) | refine zj noTab (zb _) mx ?_ | refine zh ?_ | refine zi ?_ | refine zn ?_); simp only [go_sem, aeq, aeq.aeqF, simprocAttr]) | refine zq (fun K hK => ?_) | refine zp ?_ | refine zf rfl ?_ | refine zg rfl ?_ | refine zo rfl (fun hc => ?_) (fun hc => ?_) | (refine hK _ ?_; clear hK K) | ((first | refine (show AS.le _ _ from ?_) | refine (show leH _ _ from ?_) | refine (show inH _ _ from ?_)); simp only [AS.le, leT, leH, zr, AsgK, AV.le, AV.leL, AObj.le, inH, idsT, idsH, AV.ids, AV.idsL, AV.idsR, AObj.ids, lk, hget, go_sem, aeq, aeq.aeqF, simprocAttr]) | refine fun (r2 : Rnd _) => ?_ | with_reducible refine And.intro ?_ ?_ | exact ‹_ <+: _› | (refine (show zt _ _ = true from ?_); kernel_rfl) | omega | assumption | clear hK K)
open Go Go.Proofs
theorem zpx (p : Plan) : ACall Tryz.prog 163 0 [planA p] [] (fun r _ => r = .fn (.func 204) [] [.dp [.d (.sl 1 (p.targets.map intD)), .d (.sl 1 (p.texts.map strD))]]) := by
 refine zz ?_
 refine zk Tryz.func163 rfl (zv Tryz.func163 (by kernel_rfl) rfl) Tryz.ntmps163 (by simp) (fun base => ?_)
 repeat' (first | ((first | refine za noTab (zb _) (fun K hK => ?_) | refine zc noTab (zb _) ?_ | refine zh ?_ | refine zi ?_ | refine zn ?_); simp only [go_sem, aeq, aeq.aeqF, simprocAttr, Tryz.results163]) | refine zq (fun K hK => ?_) | (refine hK _ ?_; clear hK K) | refine fun (nb : Bool) (hnb : nb = true → _) => ?_ | with_reducible refine And.intro ?_ ?_ | omega | assumption | clear hK K)
noncomputable def zeg : Ent Tryz.prog := .ofL 163 (consL zT nilL) (fun (p, _) => True) (fun (p, _) => .fn (.func 204) [] [.dp [.d (.sl 1 (p.targets.map intD)), .d (.sl 1 (p.texts.map strD))]]) (fun (p, _) hp => ⟨rfl, zpx p⟩)
attribute [go_sem] zeg
noncomputable def tab6q : Tab := tabOf [zgQ, zg0, zdC, zdD, zbt, zdu, zaJ, zeg]
theorem za2 : TabOk Tryz.prog tab6q := zA _
@[go_sem] theorem zrW (args : List AV) : tab6q 160 args = (zgQ).e args := rfl
@[go_sem] theorem zrX (args : List AV) : tab6q 161 args = (zg0).e args := rfl
@[go_sem] theorem zrY (args : List AV) : tab6q 162 args = (zdC).e args := rfl
@[go_sem] theorem zrZ (args : List AV) : tab6q 165 args = (zdD).e args := rfl
@[go_sem] theorem zqk (args : List AV) : tab6q 147 args = (zbt).e args := rfl
@[go_sem] theorem zno (args : List AV) : tab6q 164 args = (zdu).e args := rfl
@[go_sem] theorem zmU (args : List AV) : tab6q 146 args = (zaJ).e args := rfl
@[go_sem] theorem zpy (args : List AV) : tab6q 163 args = (zeg).e args := rfl
@[simp] theorem tsum_nil (c : Int) : tsum c [] = c := rfl
def unB (x : List AV) : Txt := match x with | [.d (.str s)] => s | _ => []
theorem zkA (l : List Txt) : (l.map bItem).map unB = l := by
 rw [List.map_map]
 conv => rhs; rw [← List.map_id l]
 exact List.map_congr_left (fun c _ => rfl)
theorem zkB (t : Tx) (hp : PlanOk t.plan) (hf : pfit t.plan = true) (hn : t.plan.targets.length ≠ 0) (h0 : 0 ≤ t.seq) (h1 : t.seq < 18446744073709551616) : ACall Tryz.prog 107 0 [txA t] [] (fun r _ => r = .tup [.d (.sl 1 ((zc7 t.seq t.plan).map strD)), .d (.int .i64 0)]) := by
 refine zz ?_
 refine zk Tryz.func107 rfl (zv Tryz.func107 (by kernel_rfl) rfl) Tryz.ntmps107 (by simp) (fun base => ?_)
 obtain ⟨hl, h24, h64⟩ := zaI hf
 have hrng := zru hf
 have hn0 : ((t.plan.targets.length : Int) == 0) = false := by rw [beq_eq_false_iff_ne]; omega
 have hne : t.plan.targets ≠ [] := by intro e; rw [e] at hn; exact hn rfl
 have hp8 : putS8 t.seq 8 = putN t.seq.toNat 8 := by rw [putS8, if_neg (by omega)]; rfl
 have hp2 : putS8 (t.plan.targets.length : Int) 2 = putN t.plan.targets.length 2 := by rw [putS8, if_neg (by omega)]; rfl
 have hw5 : IntKind.i64.wrap (65535 - (t.plan.targets.length : Int)) = ((65535 - t.plan.targets.length : Nat) : Int) := by rw [zD (by omega) (by omega)]; omega
 have hp5 : putS8 ((65535 - t.plan.targets.length : Nat) : Int) 2 = putN (65535 - t.plan.targets.length) 2 := by rw [putS8, if_neg (by omega)]; rfl
 have hl8 := zap t.seq.toNat 8
 have hl2 := zap t.plan.targets.length 2
 have hl5 := zap (65535 - t.plan.targets.length) 2
 repeat' (first | ((first | refine za tab6q (za2) (fun K hK => ?_) | refine zc tab6q (za2) ?_ | refine ze tab6q (za2) mx (fun K hK => ?_) | refine zj tab6q (za2) mx ?_ | refine zh ?_ | refine zi ?_ | refine zn ?_); simp only [go_sem, aeq, aeq.aeqF, simprocAttr, hf, hn0, hp8, hp2, hl8, hl2, List.length_append, Tryz.results107]) | refine zq (fun K hK => ?_) | refine zp ?_ | refine zf rfl ?_ | refine zg rfl ?_ | refine zo rfl (fun hc => ?_) (fun hc => ?_) | (refine hK _ ?_; clear hK K) | ((first | refine (show AS.le _ _ from ?_) | refine (show leH _ _ from ?_) | refine (show inH _ _ from ?_)); simp only [AS.le, leT, leH, zr, AsgK, AV.le, AV.leL, AObj.le, inH, idsT, idsH, AV.ids, AV.idsL, AV.idsR, AObj.ids, lk, hget, go_sem, aeq, aeq.aeqF, simprocAttr, hf, hn0, hp8, hp2, hl8, hl2, List.length_append]) | refine fun (r2 : Rnd _) => ?_ | refine fun (nb : Bool) (hnb : nb = true → _) => ?_ | with_reducible refine And.intro ?_ ?_ | exact ‹_ <+: _› | (refine (show zt _ _ = true from ?_); kernel_rfl) | omega | assumption | refine fun (hg : (_ : Bool) = (_ : Bool)) => ?_ | clear hK K)
 obtain ⟨H, hH⟩ : ∃ H, H = putN t.seq.toNat 8 ++ putN t.plan.targets.length 2 := ⟨_, rfl⟩
 have hHl : H.length = 10 := by rw [hH, List.length_append, hl8, hl2]
 rw [← hH]
 have hc0 : 0 ≤ sumOf 0 H ∧ sumOf 0 H ≤ 4294967295 := zo1 0 H (by omega) (by omega)
 obtain ⟨I, hI⟩ : ∃ I : List (List AV) → AHeap × Option (List (List AV)), I = fun xs => ([(3, .var [.d (.int .u32 (tsum (sumOf 0 H) (xs.map unB)))]), (2, .var [.osl 1 1 (xs.length + 1) 0 (xs.length + 1)]), (1, .arr 1 ([.str []] :: (xs.map unB).map strD)), (0, .var [.d (.int .u64 t.seq), .d (.sl 1 (t.plan.targets.map intD)), .d (.sl 1 (t.plan.texts.map strD))])], some []) := ⟨_, rfl⟩
 obtain ⟨G, hG⟩ : ∃ G : List (List AV) → Prop, G = fun _ => True := ⟨_, rfl⟩
 obtain ⟨J, hJ⟩ : ∃ J : Code → AHeap → Option (List (List AV)) → Prop, J = fun c h g => False := ⟨_, rfl⟩
 have hB64 : ∀ s ∈ tbody t.plan, s.length = 64 := zju hf
 have hBl : (tbody t.plan).length ≤ 26 := by
  have : (trows t.plan.targets).length ≤ 2 := by unfold trows; split <;> simp
  rw [tbody, List.length_append]
  omega
 refine zaY 100 G I J (ziB t.plan hp h24 hne hrng) (by simp only [go_sem, aeq, aeq.aeqF, simprocAttr]) rfl (zS rfl) (by simp [cxOf, cxY]) rfl (by rw [hG]; first | trivial | rfl | simp) (by rw [hI]; simp only [AS.le, leT, leH, zr, AsgK, AV.le, AV.leL, AObj.le, inH, idsT, idsH, AV.ids, AV.idsL, AV.idsR, AObj.ids, lk, hget, go_sem, aeq, aeq.aeqF, simprocAttr] <;> simp [AV.leL, AV.le]) (by rw [hI]; simp only [AS.le, leT, leH, zr, AsgK, AV.le, AV.leL, AObj.le, inH, idsT, idsH, AV.ids, AV.idsL, AV.idsR, AObj.ids, lk, hget, go_sem, aeq, aeq.aeqF, simprocAttr] <;> simp) (by rw [hI] <;> rfl) (by intro x hx; obtain ⟨q, _, rfl⟩ := List.mem_map.1 hx; rfl) (by intro t ht; simp at ht; first | (rcases ht with rfl | rfl <;> simp [cxOf, cxY] <;> done) | (subst ht; simp [cxOf, cxY])) ?_ ?_ ?_
 ·intro xs x hpre hgd l1 r1
  obtain ⟨ys, s, zs, rfl, rfl, hzl⟩ := zcL hpre
  have hs64 := hB64 s (by rw [hzl]; simp)
  have hyl : ys.length ≤ 26 := by rw [hzl, List.length_append] at hBl; omega
  simp only [bItem]
  refine aw_le ⟨[(33, true, .d (.str s)), (6, true, .vp 2 0), (7, true, .vp 3 0)], [(3, .var [.d (.int .u32 (tsum (sumOf 0 H) ys))]), (2, .var [.osl 1 1 (ys.length + 1) 0 (ys.length + 1)]), (1, .arr 1 ([.str []] :: ys.map strD)), (0, .var [.d (.int .u64 t.seq), .d (.sl 1 (t.plan.targets.map intD)), .d (.sl 1 (t.plan.texts.map strD))])], some []⟩ (by rw [hI]; simp only [zkA, List.length_map]; simp only [AS.le, leT, leH, zr, AsgK, AV.le, AV.leL, AObj.le, inH, idsT, idsH, AV.ids, AV.idsL, AV.idsR, AObj.ids, lk, hget, go_sem, aeq, aeq.aeqF, simprocAttr]) ?_
  have hsn : (ys.map bItem ++ [[AV.d (.str s)]]).map unB = ys ++ [s] := by rw [List.map_append, zkA]; rfl
  repeat' (first | ((first | refine za tab6q (za2) (fun K hK => ?_) | refine zc tab6q (za2) ?_ | refine zE tab6q [] (za2) mx (fun K hK => ?_) | refine zF tab6q [] (za2) mx ?_ | refine zh ?_ | refine zi ?_ | refine zn ?_); simp only [go_sem, aeq, aeq.aeqF, simprocAttr, hI, hsn, Tryz.results107]) | refine zq (fun K hK => ?_) | refine zp ?_ | refine zf rfl ?_ | refine zg rfl ?_ | refine zo rfl (fun hc => ?_) (fun hc => ?_) | (refine hK _ ?_; clear hK K) | ((first | refine (show AS.le _ _ from ?_) | refine (show leH _ _ from ?_) | refine (show inH _ _ from ?_)); simp only [AS.le, leT, leH, zr, AsgK, AV.le, AV.leL, AObj.le, inH, idsT, idsH, AV.ids, AV.idsL, AV.idsR, AObj.ids, lk, hget, go_sem, aeq, aeq.aeqF, simprocAttr, hI, hsn]) | refine fun (r2 : Rnd _) => ?_ | refine fun (nb : Bool) (hnb : nb = true → _) => ?_ | with_reducible refine And.intro ?_ ?_ | exact ‹_ <+: _› | (refine (show zag _ _ = true from ?_); kernel_rfl) | omega | assumption | refine fun (hg : (_ : Bool) = (_ : Bool)) => ?_ | clear hK K)
  ·rw [hG]; trivial
  ·rw [zo3]; rfl
  ·simp
  ·rw [List.map_append]; rfl
 ·intro _
  rw [hI]
  simp only [zkA, List.length_map]
  have hbl := zdQ (tsum (sumOf 0 H) (tbody t.plan))
  repeat' (first | ((first | refine za tab6q (za2) (fun K hK => ?_) | refine zc tab6q (za2) ?_ | refine ze tab6q (za2) mx (fun K hK => ?_) | refine zj tab6q (za2) mx ?_ | refine zh ?_ | refine zi ?_ | refine zn ?_); simp only [go_sem, aeq, aeq.aeqF, simprocAttr, hp5, hw5, hl5, Tryz.results107]) | refine zq (fun K hK => ?_) | refine zp ?_ | refine zf rfl ?_ | refine zg rfl ?_ | refine zo rfl (fun hc => ?_) (fun hc => ?_) | (refine hK _ ?_; clear hK K) | ((first | refine (show AS.le _ _ from ?_) | refine (show leH _ _ from ?_) | refine (show inH _ _ from ?_)); simp only [AS.le, leT, leH, zr, AsgK, AV.le, AV.leL, AObj.le, inH, idsT, idsH, AV.ids, AV.idsL, AV.idsR, AObj.ids, lk, hget, go_sem, aeq, aeq.aeqF, simprocAttr, hp5, hw5, hl5]) | refine fun (r2 : Rnd _) => ?_ | refine fun (nb : Bool) (hnb : nb = true → _) => ?_ | with_reducible refine And.intro ?_ ?_ | exact ‹_ <+: _› | (refine (show zt _ _ = true from ?_); kernel_rfl) | omega | assumption | refine fun (hg : (_ : Bool) = (_ : Bool)) => ?_ | clear hK K)
  ·simp only [List.length_append, hHl, hl5, hbl]; omega
  ·simp only [List.length_append, hHl, hl5, hbl]; omega
  ·rw [hH]
   simp [zc7, ttop, thead, zsN, strD]
 ·rw [hJ]
  rintro c h3 g3 h
  exact h.elim
noncomputable def zcW : Ent Tryz.prog := .ofL 107 (consL txA_T nilL) (fun (t, _) => (PlanOk t.plan) ∧ (pfit t.plan = true) ∧ (t.plan.targets.length ≠ 0) ∧ (0 ≤ t.seq) ∧ (t.seq < 18446744073709551616)) (fun (t, _) => .tup [.d (.sl 1 ((zc7 t.seq t.plan).map strD)), .d (.int .i64 0)]) (fun (t, _) hp => ⟨rfl, zkB t hp.1 hp.2.1 hp.2.2.1 hp.2.2.2.1 hp.2.2.2.2⟩)
attribute [go_sem] zcW
open Go Go.Proofs
structure Jour where
 seq : Int
 pos : Int
 deriving DecidableEq
def jourA (j : Jour) : AV := .agg [.d (.int .u64 j.seq), .d (.int .i64 j.pos)]
attribute [go_sem] jourA
theorem zrD (j : Jour) : Jour.mk j.seq j.pos = j := rfl
noncomputable def zkm : PT Jour := aggT (consL (intT .u64) (consL (intT .i64) nilL)) (fun p => ⟨p.1, p.2.1⟩) (fun x => (x.seq, x.pos, ())) (fun _ => rfl)
attribute [go_sem] zkm
attribute [go_sem] zrD
def jfit (j : Jour) : Bool := decide (1 ≤ j.seq) && decide (j.seq ≤ 4611686018427387904) && decide (0 ≤ j.pos) && decide (j.pos ≤ 81)
def zd1 (pos size : Int) : Int := if pos < 0 ∨ size < 0 ∨ 81 < size ∨ 81 - size < pos then 0 else pos
def numF : Int → List Txt → List (Int × Txt)
 | _, [] => []
 | a, s :: r => (a, s) :: numF (a + 1) r
theorem zo5 : ∀ (l : List Txt) (a : Int) (i : Nat) (s : Txt), l[i]? = some s → (numF a l)[i]? = some (a + i, s)
 | [], a, i, s, h => by simp at h
 | x :: l, a, 0, s, h => by
  have : x = s := by simpa using h
  subst this
  simp [numF]
 | x :: l, a, i + 1, s, h => by
  rw [numF, List.getElem?_cons_succ, zo5 l (a + 1) i s (by simpa using h)]
  congr 2
  omega
theorem zlt : ∀ (l : List Txt) (a : Int), (numF a l).length = l.length
 | [], _ => rfl
 | x :: l, a => by rw [numF, List.length_cons, zlt l, List.length_cons]
def jtail (d : Disk) (j : Jour) (p : Plan) (L : List Txt) (A : Int) : Disk × Jour × Int :=
 if (layL d (numF (6 + A) L)).2 ≠ 0 then ((layL d (numF (6 + A) L)).1, j, (layL d (numF (6 + A) L)).2)
 else if (dflush (layL d (numF (6 + A) L)).1).2 ≠ 0 then ((dflush (layL d (numF (6 + A) L)).1).1, j, (dflush (layL d (numF (6 + A) L)).1).2)
 else if (play (dflush (layL d (numF (6 + A) L)).1).1 p).2 ≠ 0 then ((play (dflush (layL d (numF (6 + A) L)).1).1 p).1, j, (play (dflush (layL d (numF (6 + A) L)).1).1 p).2)
 else ((play (dflush (layL d (numF (6 + A) L)).1).1 p).1, ⟨j.seq + 1, A + L.length⟩, 0)
def jcommit (d : Disk) (j : Jour) (p : Plan) : Disk × Jour × Int :=
 if p.targets.length = 0 then (d, j, 0) else if 4611686018427387904 ≤ j.seq then (d, j, 10)
 else if (dflush d).2 ≠ 0 then ((dflush d).1, j, (dflush d).2)
 else jtail (dflush d).1 j p (zc7 j.seq p) (zd1 j.pos (zc7 j.seq p).length)
theorem zmB (pos size : Int) : 0 ≤ zd1 pos size ∧ zd1 pos size ≤ 81 := by
 unfold zd1
 split <;> omega
theorem zmC {p : Plan} (seq : Int) (hf : pfit p = true) : (zc7 seq p).length ≤ 27 ∧ ∀ s ∈ zc7 seq p, s.length ≤ 64 := by
 obtain ⟨hl, h24, h64⟩ := zaI hf
 refine ⟨?_, ?_⟩
 ·rw [zc7, tbody, List.length_cons, List.length_append]
  have : (trows p.targets).length ≤ 2 := by unfold trows; split <;> simp
  omega
 ·intro s hs
  rcases List.mem_cons.1 hs with rfl | hs
  ·rw [ttop, zgf]
   ·exact Nat.le_refl _
   ·rw [List.length_append, List.length_append, List.length_append, thead, List.length_append, zap, zap, zap, zdQ]
    decide
  ·rw [zju hf s hs]; exact Nat.le_refl _
theorem zrE (j : Jour) : ACall Tryz.prog 66 0 [jourA j] [] (fun r _ => r = .d (.bool (jfit j))) := by
 refine zk Tryz.func66 rfl (zv Tryz.func66 (by kernel_rfl) rfl) Tryz.ntmps66 (by simp) (fun base => ?_)
 repeat' (first | ((first | refine za noTab (zb _) (fun K hK => ?_) | refine zc noTab (zb _) ?_ | refine zh ?_ | refine zi ?_ | refine zn ?_); simp only [go_sem, aeq, aeq.aeqF, simprocAttr, Tryz.results66]) | refine zq (fun K hK => ?_) | (refine hK _ ?_; clear hK K) | with_reducible refine And.intro ?_ ?_ | omega | assumption | refine fun (hg : (_ : Bool) = (_ : Bool)) => ?_ | clear hK K)
 rfl
noncomputable def zfo : Ent Tryz.prog := .ofL 66 (consL zkm nilL) (fun (j, _) => True) (fun (j, _) => .d (.bool (jfit j))) (fun (j, _) hp => ⟨rfl, zrE j⟩)
attribute [go_sem] zfo
open Go Go.Proofs
theorem zr0 : ACall Tryz.prog 166 0 [] [] (fun r _ => r = .tup [.d (.int .i64 6), .d (.int .i64 81)]) := by
 refine zk Tryz.func166 rfl (zv Tryz.func166 (by kernel_rfl) rfl) Tryz.ntmps166 (by simp) (fun base => ?_)
 repeat' (first | ((first | refine za noTab (zb _) (fun K hK => ?_) | refine zc noTab (zb _) ?_ | refine zh ?_ | refine zi ?_ | refine zn ?_); simp only [go_sem, aeq, aeq.aeqF, simprocAttr, Tryz.results166]) | refine zq (fun K hK => ?_) | (refine hK _ ?_; clear hK K) | with_reducible refine And.intro ?_ ?_ | omega | assumption | clear hK K)
noncomputable def zfx : Ent Tryz.prog := .ofL 166 nilL (fun _ => True) (fun _ => .tup [.d (.int .i64 6), .d (.int .i64 81)]) (fun _ hp => ⟨rfl, zr0 ⟩)
attribute [go_sem] zfx
noncomputable def tabJa : Tab := tabOf [zfx]
theorem zlH : TabOk Tryz.prog tabJa := zA _
@[go_sem] theorem zql (args : List AV) : tabJa 166 args = (zfx).e args := rfl
theorem zr1 : ACall Tryz.prog 108 0 [] [] (fun r _ => r = .tup [.d (.int .i64 6), .d (.int .i64 81)]) := by
 refine zk Tryz.func108 rfl (zv Tryz.func108 (by kernel_rfl) rfl) Tryz.ntmps108 (by simp) (fun base => ?_)
 repeat' (first | ((first | refine za tabJa (zlH) (fun K hK => ?_) | refine zc tabJa (zlH) ?_ | refine zh ?_ | refine zi ?_ | refine zn ?_); simp only [go_sem, aeq, aeq.aeqF, simprocAttr, Tryz.results108]) | refine zq (fun K hK => ?_) | (refine hK _ ?_; clear hK K) | with_reducible refine And.intro ?_ ?_ | omega | assumption | clear hK K)
noncomputable def zcx : Ent Tryz.prog := .ofL 108 nilL (fun _ => True) (fun _ => .tup [.d (.int .i64 6), .d (.int .i64 81)]) (fun _ hp => ⟨rfl, zr1 ⟩)
attribute [go_sem] zcx
noncomputable def tabJb : Tab := tabOf [zcx]
theorem zlI : TabOk Tryz.prog tabJb := zA _
@[go_sem] theorem zqm (args : List AV) : tabJb 108 args = (zcx).e args := rfl
theorem zmV (pos : Int) (size : Int) (h0 : 0 ≤ size) (h1 : size ≤ 1000) : ACall Tryz.prog 109 0 [.d (.int .i64 pos), .d (.int .i64 size)] [] (fun r _ => r = .d (.int .i64 (zd1 pos size))) := by
 refine zk Tryz.func109 rfl (zv Tryz.func109 (by kernel_rfl) rfl) Tryz.ntmps109 (by simp) (fun base => ?_)
 have hw : IntKind.i64.wrap (81 - size) = 81 - size := zD (by omega) (by omega)
 repeat' (first | ((first | refine za tabJb (zlI) (fun K hK => ?_) | refine zc tabJb (zlI) ?_ | refine zh ?_ | refine zi ?_ | refine zn ?_); simp only [go_sem, aeq, aeq.aeqF, simprocAttr, hw, Tryz.results109]) | refine zq (fun K hK => ?_) | refine zf rfl ?_ | refine zg rfl ?_ | refine zo rfl (fun hc => ?_) (fun hc => ?_) | (refine hK _ ?_; clear hK K) | with_reducible refine And.intro ?_ ?_ | omega | assumption | refine fun (hg : (_ : Bool) = (_ : Bool)) => ?_ | clear hK K)
 ·simp only [Bool.or_eq_true, decide_eq_true_eq, or_assoc] at hc
  rw [zd1, if_pos hc]
 ·rw [zd1, if_neg]
  intro h
  have : (decide (pos < 0) || decide (size < 0) || decide (81 < size) || decide (81 - size < pos)) = true := by
   simp only [Bool.or_eq_true, decide_eq_true_eq, or_assoc]; exact h
  rw [hc] at this; cases this
noncomputable def zdE : Ent Tryz.prog := .ofL 109 (consL (intT .i64) (consL (intT .i64) nilL)) (fun (pos, size, _) => (0 ≤ size) ∧ (size ≤ 1000)) (fun (pos, size, _) => .d (.int .i64 (zd1 pos size))) (fun (pos, size, _) hp => ⟨rfl, zmV pos size hp.1 hp.2⟩)
attribute [go_sem] zdE
theorem zr2 (a : Int) (L : List Txt) : ACall Tryz.prog 112 0 [.d (.int .i64 a), .d (.sl 1 (L.map strD))] [] (fun r _ => r = .fn (.func 170) [] [.dp [.d (.sl 1 (L.map strD))], .dp [.d (.int .i64 a)]]) := by
 refine zz ?_
 refine zk Tryz.func112 rfl (zv Tryz.func112 (by kernel_rfl) rfl) Tryz.ntmps112 (by simp) (fun base => ?_)
 repeat' (first | ((first | refine za noTab (zb _) (fun K hK => ?_) | refine zc noTab (zb _) ?_ | refine zh ?_ | refine zi ?_ | refine zn ?_); simp only [go_sem, aeq, aeq.aeqF, simprocAttr, Tryz.results112]) | refine zq (fun K hK => ?_) | (refine hK _ ?_; clear hK K) | refine fun (nb : Bool) (hnb : nb = true → _) => ?_ | with_reducible refine And.intro ?_ ?_ | omega | assumption | clear hK K)
noncomputable def zfy : Ent Tryz.prog := .ofL 112 (consL (intT .i64) (consL (slT 1 strD zeA) nilL)) (fun (a, L, _) => True) (fun (a, L, _) => .fn (.func 170) [] [.dp [.d (.sl 1 (L.map strD))], .dp [.d (.int .i64 a)]]) (fun (a, L, _) hp => ⟨rfl, zr2 a L⟩)
attribute [go_sem] zfy
theorem zr3 (p : Plan) : ACall Tryz.prog 113 0 [planA p] [] (fun r _ => r = .fn (.func 171) [] [.dp (planC p)]) := by
 refine zz ?_
 refine zk Tryz.func113 rfl (zv Tryz.func113 (by kernel_rfl) rfl) Tryz.ntmps113 (by simp) (fun base => ?_)
 repeat' (first | ((first | refine za noTab (zb _) (fun K hK => ?_) | refine zc noTab (zb _) ?_ | refine zh ?_ | refine zi ?_ | refine zn ?_); simp only [go_sem, aeq, aeq.aeqF, simprocAttr, Tryz.results113]) | refine zq (fun K hK => ?_) | (refine hK _ ?_; clear hK K) | refine fun (nb : Bool) (hnb : nb = true → _) => ?_ | with_reducible refine And.intro ?_ ?_ | omega | assumption | clear hK K)
noncomputable def zfz : Ent Tryz.prog := .ofL 113 (consL zT nilL) (fun (p, _) => True) (fun (p, _) => .fn (.func 171) [] [.dp (planC p)]) (fun (p, _) hp => ⟨rfl, zr3 p⟩)
attribute [go_sem] zfz
noncomputable def tabJc : Tab := tabOf [zgP, zaG]
theorem zcc : TabOk Tryz.prog tabJc := zA _
@[go_sem] theorem zr4 (args : List AV) : tabJc 172 args = (zgP).e args := rfl
@[go_sem] theorem zmW (args : List AV) : tabJc 153 args = (zaG).e args := rfl
theorem zpz (d : Disk) (p : Plan) (hd : DiskOk d) (hp : PlanOk p) (hl : p.targets.length = p.texts.length) : ACall Tryz.prog 171 0 [diskA d, .dp (planC p)] [] (fun r _ => r = .tup [diskA (play d p).1, .d (.int .i64 (play d p).2)]) := by
 refine zz ?_
 refine zk Tryz.func171 rfl (zv Tryz.func171 (by kernel_rfl) rfl) Tryz.ntmps171 (by simp) (fun base => ?_)
 repeat' (first | ((first | refine za tabJc (zcc) (fun K hK => ?_) | refine zc tabJc (zcc) ?_ | refine zh ?_ | refine zi ?_ | refine zn ?_); simp only [go_sem, aeq, aeq.aeqF, simprocAttr, Tryz.results171]) | refine zq (fun K hK => ?_) | (refine hK _ ?_; clear hK K) | with_reducible refine And.intro ?_ ?_ | omega | assumption | clear hK K)
noncomputable def zeh : Ent Tryz.prog := .ofL 171 (consL zN (consL zoB nilL)) (fun (d, p, _) => (DiskOk d) ∧ (PlanOk p) ∧ (p.targets.length = p.texts.length)) (fun (d, p, _) => .tup [diskA (play d p).1, .d (.int .i64 (play d p).2)]) (fun (d, p, _) hp => ⟨rfl, zpz d p hp.1 hp.2.1 hp.2.2⟩)
attribute [go_sem] zeh
theorem zpA (d : Disk) (L : List Txt) (a : Int) (hd : DiskF d) (hn : L.length ≤ 100) (h0 : 0 ≤ a) (h1 : a ≤ 100) : ACall Tryz.prog 170 0 [diskA d, .dp [.d (.sl 1 (L.map strD))], .dp [.d (.int .i64 a)]] [] (fun r _ => r = .tup [diskA (layL d (numF a L)).1, .d (.int .i64 (layL d (numF a L)).2)]) := by
 refine zz ?_
 refine zk Tryz.func170 rfl (zv Tryz.func170 (by kernel_rfl) rfl) Tryz.ntmps170 (by simp) (fun base => ?_)
 repeat' (first | ((first | refine za tabJc (zcc) (fun K hK => ?_) | refine zc tabJc (zcc) ?_ | refine zh ?_ | refine zi ?_ | refine zn ?_); simp only [go_sem, aeq, aeq.aeqF, simprocAttr, Tryz.results170]) | refine zq (fun K hK => ?_) | refine zp ?_ | refine zf rfl ?_ | refine zg rfl ?_ | refine zo rfl (fun hc => ?_) (fun hc => ?_) | (refine hK _ ?_; clear hK K) | with_reducible refine And.intro ?_ ?_ | omega | assumption | clear hK K)
 refine zO (fun q : { q : Nat × Disk // q.1 ≤ L.length ∧ DiskF q.2 ∧ layL d (numF a L) = layL q.2 ((numF a L).drop q.1) } => ⟨[(2, true, .dp [.d (.int .i64 a)]), (3, true, .vp 0 0), (4, true, .vp 1 0), (6, true, .d (.int .i64 0)), (9, true, .d (.sl 1 (L.map strD))), (10, true, .d (.int .i64 L.length)), (11, true, .d (.int .i64 q.1.1))], [(1, .var [.d (.str []), .nils 2, .d (.int .i64 0), .d (.bool false), .nils 1]), (0, (.var [.d (.str q.1.2.data), .d (.sl 2 (q.1.2.cache.map putD)), .d (.int .i64 q.1.2.fuse), .d (.bool q.1.2.off), .d (.sl 1 (q.1.2.bad.map intD))]))], some []⟩) (fun q => L.length - q.1.1) ⟨(0, d), Nat.zero_le _, hd, rfl⟩ (by simp only [AS.le, leT, leH, zr, AsgK, AV.le, AV.leL, AObj.le, inH, idsT, idsH, AV.ids, AV.idsL, AV.idsR, AObj.ids, lk, hget, go_sem, aeq, aeq.aeqF, simprocAttr] <;> and_intros <;> rfl) (fun q => ?_)
 obtain ⟨⟨i, x⟩, hi, hx, hfx⟩ := q
 simp only at hi hx hfx ⊢
 have hxo := hx.ok
 rcases zaw strD L i hi with ⟨s, hq, hlt, hcmp, hrow, hdr, htk⟩ | ⟨hend, hcmp⟩
 ·simp only [strD] at hrow
  have hwi := zV (i := i) (by omega)
  have hw1 : IntKind.i64.wrap (a + (i : Int)) = a + i := zD (by omega) (by omega)
  rw [zd6 (zo5 L a i s hq), layL] at hfx
  have hxw := hx.write (a + i) s
  repeat' (first | ((first | refine za tabJc (zcc) (fun K hK => ?_) | refine zc tabJc (zcc) ?_ | refine zh ?_ | refine zi ?_ | refine zn ?_); simp only [go_sem, aeq, aeq.aeqF, simprocAttr, hcmp, hrow, hw1, Tryz.results170]) | refine zq (fun K hK => ?_) | refine zp ?_ | refine zf rfl ?_ | refine zg rfl ?_ | refine zo rfl (fun hc => ?_) (fun hc => ?_) | (refine hK _ ?_; clear hK K) | with_reducible refine And.intro ?_ ?_ | omega | assumption | clear hK K)
  ·have hc : (zP x (a + i) s).2 ≠ 0 := by simpa using hc
   rw [if_pos hc] at hfx
   rw [hfx]
  ·have hc : ¬ (zP x (a + i) s).2 ≠ 0 := by simpa using hc
   have hc' : (zP x (a + i) s).2 = 0 := by simpa using hc
   rw [if_neg hc] at hfx
   exact ⟨⟨(i + 1, (zP x (a + i) s).1), by omega, hxw, hfx⟩, by simp only [AS.le, leT, leH, zr, AsgK, AV.le, AV.leL, AObj.le, inH, idsT, idsH, AV.ids, AV.idsL, AV.idsR, AObj.ids, lk, hget, go_sem, aeq, aeq.aeqF, simprocAttr, hwi, hc'], by simp; omega⟩
 ·subst hend
  have hlay : layL d (numF a L) = (x, 0) := by
   rw [hfx, List.drop_of_length_le (by rw [zlt]; omega)]; rfl
  repeat' (first | ((first | refine za tabJc (zcc) (fun K hK => ?_) | refine zc tabJc (zcc) ?_ | refine zh ?_ | refine zi ?_ | refine zn ?_); simp only [go_sem, aeq, aeq.aeqF, simprocAttr, hcmp, Tryz.results170]) | refine zq (fun K hK => ?_) | refine zp ?_ | refine zf rfl ?_ | refine zg rfl ?_ | refine zo rfl (fun hc => ?_) (fun hc => ?_) | (refine hK _ ?_; clear hK K) | with_reducible refine And.intro ?_ ?_ | omega | assumption | clear hK K)
  rw [hlay]
noncomputable def zei : Ent Tryz.prog := .ofL 170 (consL zN (consL (dpT (consL (slT 1 strD zeA) nilL) (fun p => p) (fun p => p) (fun _ => rfl)) (consL (dpT (consL (intT .i64) nilL) (fun p => p) (fun p => p) (fun _ => rfl)) nilL))) (fun (d, (L, _), (a, _), _) => (DiskF d) ∧ (L.length ≤ 100) ∧ (0 ≤ a) ∧ (a ≤ 100)) (fun (d, (L, _), (a, _), _) => .tup [diskA (layL d (numF a L)).1, .d (.int .i64 (layL d (numF a L)).2)]) (fun (d, (L, _), (a, _), _) hp => ⟨rfl, zpA d L a hp.1 hp.2.1 hp.2.2.1 hp.2.2.2⟩)
attribute [go_sem] zei
open Go Go.Proofs
def runD : List (Disk → Disk × Int) → Disk → Disk × Int
 | [], d => (d, 0)
 | f :: r, d => if (f d).2 ≠ 0 then f d else runD r (f d).1
def zaZ (A : Int) (L : List Txt) (p : Plan) : List (Disk → Disk × Int) := [dflush, fun d => layL d (numF A L), dflush, fun d => play d p]
def zjF (A : Int) (L : List Txt) (p : Plan) : List (List AV) := [[.fn (.func 111) [] []], [.fn (.func 170) [] [.dp [.d (.sl 1 (L.map strD))], .dp [.d (.int .i64 A)]]], [.fn (.func 111) [] []], [.fn (.func 171) [] [.dp [.d (.sl 1 (p.targets.map intD)), .d (.sl 1 (p.texts.map strD))]]]]
def wkD (d : Disk) (e : Int) : List AV := [.d (.str d.data), .d (.sl 2 (d.cache.map putD)), .d (.int .i64 d.fuse), .d (.bool d.off), .d (.sl 1 (d.bad.map intD)), .d (.int .i64 e)]
attribute [go_sem] wkD zjF
theorem DiskF.play {d : Disk} (h : DiskF d) (p : Plan) : DiskF (play d p).1 := DiskF.layL _ h
noncomputable def tabJd : Tab := tabOf [zcK, zei, zeh]
theorem za3 : TabOk Tryz.prog tabJd := zA _
@[go_sem] theorem zmX (args : List AV) : tabJd 111 args = (zcK).e args := rfl
@[go_sem] theorem zpB (args : List AV) : tabJd 170 args = (zei).e args := rfl
@[go_sem] theorem zpC (args : List AV) : tabJd 171 args = (zeh).e args := rfl
theorem zuA (d : Disk) (A : Int) (L : List Txt) (p : Plan) (hd : DiskF d) (hp : PlanOk p) (hl : p.targets.length = p.texts.length) (hn : L.length ≤ 100) (h0 : 0 ≤ A) (h1 : A ≤ 100) :
  ACall Tryz.prog 110 6 [.vp 5 0, .asl 1 (zjF A L p)] [(5, .var (wkD d 0))] (fun r h' => ∃ ob', h' = [(5, ob')] ∧ r = .tup [] ∧ ob' = .var (wkD (runD (zaZ A L p) d).1 (runD (zaZ A L p) d).2)) := by
 refine zk Tryz.func110 rfl (zv Tryz.func110 (by kernel_rfl) rfl) Tryz.ntmps110 (by simp) (fun base => ?_)
 repeat' (first | ((first | refine za tabJd (za3) (fun K hK => ?_) | refine zc tabJd (za3) ?_ | refine zh ?_ | refine zi ?_ | refine zn ?_ | refine zaj ?_); simp only [go_sem, aeq, aeq.aeqF, simprocAttr, Tryz.results110]) | refine zq (fun K hK => ?_) | refine zp ?_ | refine zal ?_ | refine zf rfl ?_ | refine zg rfl ?_ | refine zo rfl (fun hc => ?_) (fun hc => ?_) | (refine hK _ ?_; clear hK K) | ((first | refine (show AS.le _ _ from ?_) | refine (show leH _ _ from ?_) | refine (show inH _ _ from ?_)); simp only [AS.le, leT, leH, zr, AsgK, AV.le, AV.leL, AObj.le, inH, idsT, idsH, AV.ids, AV.idsL, AV.idsR, AObj.ids, lk, hget, go_sem, aeq, aeq.aeqF, simprocAttr]) | refine fun (nb : Bool) (hnb : nb = true → _) => ?_ | with_reducible refine And.intro ?_ ?_ | omega | assumption | clear hK K)
 refine zO (fun q : { q : Nat × Disk // q.1 ≤ 4 ∧ DiskF q.2 ∧ runD (zaZ A L p) d = runD ((zaZ A L p).drop q.1) q.2 } => ⟨[(0, true, .vp 5 0), (6, true, .asl 1 (zjF A L p)), (7, true, .d (.int .i64 4)), (8, true, .d (.int .i64 q.1.1))], [(5, .var (wkD q.1.2 0))], some []⟩) (fun q => 4 - q.1.1) ⟨(0, d), Nat.zero_le _, hd, rfl⟩ (by simp only [AS.le, leT, leH, zr, AsgK, AV.le, AV.leL, AObj.le, inH, idsT, idsH, AV.ids, AV.idsL, AV.idsR, AObj.ids, lk, hget, go_sem, aeq, aeq.aeqF, simprocAttr] <;> and_intros <;> rfl) (fun q => ?_)
 obtain ⟨⟨k, x⟩, hk, hx, hr⟩ := q
 simp only at hk hx hr ⊢
 have hxo := hx.ok
 have hxp := hx.puts
 have h4 : k = 0 ∨ k = 1 ∨ k = 2 ∨ k = 3 ∨ k = 4 := by omega
 have hc0 : ((0 : Nat) : Int) = 0 := rfl
 have hc1 : ((1 : Nat) : Int) = 1 := rfl
 have hc2 : ((2 : Nat) : Int) = 2 := rfl
 have hc3 : ((3 : Nat) : Int) = 3 := rfl
 have hc4 : ((4 : Nat) : Int) = 4 := rfl
 have ht1 : Int.toNat 1 = 1 := rfl
 have ht2 : Int.toNat 2 = 2 := rfl
 have ht3 : Int.toNat 3 = 3 := rfl
 have hw1 : IntKind.i64.wrap 1 = 1 := by decide
 have hw2 : IntKind.i64.wrap 2 = 2 := by decide
 have hw3 : IntKind.i64.wrap 3 = 3 := by decide
 have hw4 : IntKind.i64.wrap 4 = 4 := by decide
 rcases h4 with rfl | rfl | rfl | rfl | rfl
 ·have hr' : runD (zaZ A L p) d = if (dflush x).2 ≠ 0 then dflush x else runD ((zaZ A L p).drop 1) (dflush x).1 := hr
  have hxn : DiskF (dflush x).1 := hx.flush
  repeat' (first | ((first | refine za tabJd (za3) (fun K hK => ?_) | refine zc tabJd (za3) ?_ | refine zh ?_ | refine zi ?_ | refine zn ?_ | refine zaj ?_); simp only [go_sem, aeq, aeq.aeqF, simprocAttr, hc0, hw1, Tryz.results110]) | refine zq (fun K hK => ?_) | refine zp ?_ | refine zal ?_ | refine zf rfl ?_ | refine zg rfl ?_ | refine zo rfl (fun hc => ?_) (fun hc => ?_) | (refine hK _ ?_; clear hK K) | ((first | refine (show AS.le _ _ from ?_) | refine (show leH _ _ from ?_) | refine (show inH _ _ from ?_)); simp only [AS.le, leT, leH, zr, AsgK, AV.le, AV.leL, AObj.le, inH, idsT, idsH, AV.ids, AV.idsL, AV.idsR, AObj.ids, lk, hget, go_sem, aeq, aeq.aeqF, simprocAttr, hc0, hw1]) | refine fun (nb : Bool) (hnb : nb = true → _) => ?_ | with_reducible refine And.intro ?_ ?_ | omega | assumption | clear hK K)
  ·have hc : (dflush x).2 ≠ 0 := by simpa using hc
   rw [if_pos hc] at hr'
   exact ⟨_, rfl, by rw [hr']⟩
  ·have hc : (dflush x).2 = 0 := by simpa using hc
   rw [if_neg (by rw [hc]; decide)] at hr'
   exact ⟨⟨(1, (dflush x).1), by show (_ : Nat) ≤ 4; omega, hxn, hr'⟩, by simp only [AS.le, leT, leH, zr, AsgK, AV.le, AV.leL, AObj.le, inH, idsT, idsH, AV.ids, AV.idsL, AV.idsR, AObj.ids, lk, hget, go_sem, aeq, aeq.aeqF, simprocAttr, hw1, hc] <;> and_intros <;> rfl, by simp⟩
 ·have hr' : runD (zaZ A L p) d = if (layL x (numF A L)).2 ≠ 0 then layL x (numF A L) else runD ((zaZ A L p).drop 2) (layL x (numF A L)).1 := hr
  have hxn : DiskF (layL x (numF A L)).1 := DiskF.layL _ hx
  repeat' (first | ((first | refine za tabJd (za3) (fun K hK => ?_) | refine zc tabJd (za3) ?_ | refine zh ?_ | refine zi ?_ | refine zn ?_ | refine zaj ?_); simp only [go_sem, aeq, aeq.aeqF, simprocAttr, hc1, hw2, ht1, Tryz.results110]) | refine zq (fun K hK => ?_) | refine zp ?_ | refine zal ?_ | refine zf rfl ?_ | refine zg rfl ?_ | refine zo rfl (fun hc => ?_) (fun hc => ?_) | (refine hK _ ?_; clear hK K) | ((first | refine (show AS.le _ _ from ?_) | refine (show leH _ _ from ?_) | refine (show inH _ _ from ?_)); simp only [AS.le, leT, leH, zr, AsgK, AV.le, AV.leL, AObj.le, inH, idsT, idsH, AV.ids, AV.idsL, AV.idsR, AObj.ids, lk, hget, go_sem, aeq, aeq.aeqF, simprocAttr, hc1, hw2, ht1]) | refine fun (nb : Bool) (hnb : nb = true → _) => ?_ | with_reducible refine And.intro ?_ ?_ | omega | assumption | clear hK K)
  ·have hc : (layL x (numF A L)).2 ≠ 0 := by simpa using hc
   rw [if_pos hc] at hr'
   exact ⟨_, rfl, by rw [hr']⟩
  ·have hc : (layL x (numF A L)).2 = 0 := by simpa using hc
   rw [if_neg (by rw [hc]; decide)] at hr'
   exact ⟨⟨(2, (layL x (numF A L)).1), by show (_ : Nat) ≤ 4; omega, hxn, hr'⟩, by simp only [AS.le, leT, leH, zr, AsgK, AV.le, AV.leL, AObj.le, inH, idsT, idsH, AV.ids, AV.idsL, AV.idsR, AObj.ids, lk, hget, go_sem, aeq, aeq.aeqF, simprocAttr, hw2, hc] <;> and_intros <;> rfl, by simp⟩
 ·have hr' : runD (zaZ A L p) d = if (dflush x).2 ≠ 0 then dflush x else runD ((zaZ A L p).drop 3) (dflush x).1 := hr
  have hxn : DiskF (dflush x).1 := hx.flush
  repeat' (first | ((first | refine za tabJd (za3) (fun K hK => ?_) | refine zc tabJd (za3) ?_ | refine zh ?_ | refine zi ?_ | refine zn ?_ | refine zaj ?_); simp only [go_sem, aeq, aeq.aeqF, simprocAttr, hc2, hw3, ht2, Tryz.results110]) | refine zq (fun K hK => ?_) | refine zp ?_ | refine zal ?_ | refine zf rfl ?_ | refine zg rfl ?_ | refine zo rfl (fun hc => ?_) (fun hc => ?_) | (refine hK _ ?_; clear hK K) | ((first | refine (show AS.le _ _ from ?_) | refine (show leH _ _ from ?_) | refine (show inH _ _ from ?_)); simp only [AS.le, leT, leH, zr, AsgK, AV.le, AV.leL, AObj.le, inH, idsT, idsH, AV.ids, AV.idsL, AV.idsR, AObj.ids, lk, hget, go_sem, aeq, aeq.aeqF, simprocAttr, hc2, hw3, ht2]) | refine fun (nb : Bool) (hnb : nb = true → _) => ?_ | with_reducible refine And.intro ?_ ?_ | omega | assumption | clear hK K)
  ·have hc : (dflush x).2 ≠ 0 := by simpa using hc
   rw [if_pos hc] at hr'
   exact ⟨_, rfl, by rw [hr']⟩
  ·have hc : (dflush x).2 = 0 := by simpa using hc
   rw [if_neg (by rw [hc]; decide)] at hr'
   exact ⟨⟨(3, (dflush x).1), by show (_ : Nat) ≤ 4; omega, hxn, hr'⟩, by simp only [AS.le, leT, leH, zr, AsgK, AV.le, AV.leL, AObj.le, inH, idsT, idsH, AV.ids, AV.idsL, AV.idsR, AObj.ids, lk, hget, go_sem, aeq, aeq.aeqF, simprocAttr, hw3, hc] <;> and_intros <;> rfl, by simp⟩
 ·have hr' : runD (zaZ A L p) d = if (play x p).2 ≠ 0 then play x p else runD ((zaZ A L p).drop 4) (play x p).1 := hr
  have hxn : DiskF (play x p).1 := hx.play p
  repeat' (first | ((first | refine za tabJd (za3) (fun K hK => ?_) | refine zc tabJd (za3) ?_ | refine zh ?_ | refine zi ?_ | refine zn ?_ | refine zaj ?_); simp only [go_sem, aeq, aeq.aeqF, simprocAttr, hc3, hw4, ht3, Tryz.results110]) | refine zq (fun K hK => ?_) | refine zp ?_ | refine zal ?_ | refine zf rfl ?_ | refine zg rfl ?_ | refine zo rfl (fun hc => ?_) (fun hc => ?_) | (refine hK _ ?_; clear hK K) | ((first | refine (show AS.le _ _ from ?_) | refine (show leH _ _ from ?_) | refine (show inH _ _ from ?_)); simp only [AS.le, leT, leH, zr, AsgK, AV.le, AV.leL, AObj.le, inH, idsT, idsH, AV.ids, AV.idsL, AV.idsR, AObj.ids, lk, hget, go_sem, aeq, aeq.aeqF, simprocAttr, hc3, hw4, ht3]) | refine fun (nb : Bool) (hnb : nb = true → _) => ?_ | with_reducible refine And.intro ?_ ?_ | omega | assumption | clear hK K)
  ·have hc : (play x p).2 ≠ 0 := by simpa using hc
   rw [if_pos hc] at hr'
   exact ⟨_, rfl, by rw [hr']⟩
  ·have hc : (play x p).2 = 0 := by simpa using hc
   rw [if_neg (by rw [hc]; decide)] at hr'
   exact ⟨⟨(4, (play x p).1), by show (_ : Nat) ≤ 4; omega, hxn, hr'⟩, by simp only [AS.le, leT, leH, zr, AsgK, AV.le, AV.leL, AObj.le, inH, idsT, idsH, AV.ids, AV.idsL, AV.idsR, AObj.ids, lk, hget, go_sem, aeq, aeq.aeqF, simprocAttr, hw4, hc] <;> and_intros <;> rfl, by simp⟩
 ·repeat' (first | ((first | refine za tabJd (za3) (fun K hK => ?_) | refine zc tabJd (za3) ?_ | refine zh ?_ | refine zi ?_ | refine zn ?_ | refine zaj ?_); simp only [go_sem, aeq, aeq.aeqF, simprocAttr, hc4, Tryz.results110]) | refine zq (fun K hK => ?_) | refine zp ?_ | refine zal ?_ | refine zf rfl ?_ | refine zg rfl ?_ | refine zo rfl (fun hc => ?_) (fun hc => ?_) | (refine hK _ ?_; clear hK K) | ((first | refine (show AS.le _ _ from ?_) | refine (show leH _ _ from ?_) | refine (show inH _ _ from ?_)); simp only [AS.le, leT, leH, zr, AsgK, AV.le, AV.leL, AObj.le, inH, idsT, idsH, AV.ids, AV.idsL, AV.idsR, AObj.ids, lk, hget, go_sem, aeq, aeq.aeqF, simprocAttr, hc4]) | refine fun (nb : Bool) (hnb : nb = true → _) => ?_ | with_reducible refine And.intro ?_ ?_ | omega | assumption | clear hK K)
  have hr' : runD (zaZ A L p) d = (x, 0) := hr
  exact ⟨_, rfl, by rw [hr']⟩
noncomputable def tabJe : Tab := tabOf [zcW, zcx, zdE, zfy, zfz]
theorem zat : TabOk Tryz.prog tabJe := zA _
@[go_sem] theorem zmY (args : List AV) : tabJe 107 args = (zcW).e args := rfl
@[go_sem] theorem zqn (args : List AV) : tabJe 108 args = (zcx).e args := rfl
@[go_sem] theorem znp (args : List AV) : tabJe 109 args = (zdE).e args := rfl
@[go_sem] theorem zqo (args : List AV) : tabJe 112 args = (zfy).e args := rfl
@[go_sem] theorem zqp (args : List AV) : tabJe 113 args = (zfz).e args := rfl
theorem zpD (d : Disk) (A : Int) (L : List Txt) (p : Plan) (j : Jour) : (if (dflush d).2 ≠ 0 then ((dflush d).1, j, (dflush d).2) else jtail (dflush d).1 j p L A) = (if (runD (zaZ (6 + A) L p) d).2 ≠ 0 then ((runD (zaZ (6 + A) L p) d).1, j, (runD (zaZ (6 + A) L p) d).2) else ((runD (zaZ (6 + A) L p) d).1, ⟨j.seq + 1, A + L.length⟩, 0)) := by
 simp only [zaZ, runD, jtail]
 repeat' split
 all_goals simp_all
theorem zkC (d : Disk) (j : Jour) (p : Plan) (hd : DiskF d) (hf : pfit p = true) (h0 : 0 ≤ j.seq) (h1 : j.seq < 18446744073709551616) : ACall Tryz.prog 49 0 [diskA d, jourA j, planA p] [] (fun r _ => r = .tup [diskA (jcommit d j p).1, jourA (jcommit d j p).2.1, .d (.int .i64 (jcommit d j p).2.2)]) := by
 refine zz ?_
 refine zk Tryz.func49 rfl (zv Tryz.func49 (by kernel_rfl) rfl) Tryz.ntmps49 (by simp) (fun base => ?_)
 obtain ⟨hl, h24, h64⟩ := zaI hf
 have hpo : PlanOk p := ⟨by omega, by omega⟩
 have hdo := hd.ok
 have hdp := hd.puts
 by_cases hn : p.targets.length = 0
 ·have hb : ((p.targets.length : Int) == 0) = true := by rw [hn]; rfl
  repeat' (first | ((first | refine za tabJe (zat) (fun K hK => ?_) | refine zc tabJe (zat) ?_ | refine ze tabJe (zat) mx (fun K hK => ?_) | refine zj tabJe (zat) mx ?_ | refine zh ?_ | refine zi ?_ | refine zn ?_); simp only [go_sem, aeq, aeq.aeqF, simprocAttr, hb, Tryz.results49]) | refine zq (fun K hK => ?_) | refine zp ?_ | refine zf rfl ?_ | refine zg rfl ?_ | refine zo rfl (fun hc => ?_) (fun hc => ?_) | (refine hK _ ?_; clear hK K) | ((first | refine (show AS.le _ _ from ?_) | refine (show leH _ _ from ?_) | refine (show inH _ _ from ?_)); simp only [AS.le, leT, leH, zr, AsgK, AV.le, AV.leL, AObj.le, inH, idsT, idsH, AV.ids, AV.idsL, AV.idsR, AObj.ids, lk, hget, go_sem, aeq, aeq.aeqF, simprocAttr, hb]) | refine fun (nb : Bool) (hnb : nb = true → _) => ?_ | with_reducible refine And.intro ?_ ?_ | (refine (show zt _ _ = true from ?_); kernel_rfl) | omega | assumption | clear hK K)
  rw [jcommit, if_pos hn]
 have hb : ((p.targets.length : Int) == 0) = false := by rw [beq_eq_false_iff_ne]; omega
 by_cases hs : 4611686018427387904 ≤ j.seq
 ·have hb2 : decide (4611686018427387904 ≤ j.seq) = true := decide_eq_true hs
  repeat' (first | ((first | refine za tabJe (zat) (fun K hK => ?_) | refine zc tabJe (zat) ?_ | refine ze tabJe (zat) mx (fun K hK => ?_) | refine zj tabJe (zat) mx ?_ | refine zh ?_ | refine zi ?_ | refine zn ?_); simp only [go_sem, aeq, aeq.aeqF, simprocAttr, hb, hb2, Tryz.results49]) | refine zq (fun K hK => ?_) | refine zp ?_ | refine zf rfl ?_ | refine zg rfl ?_ | refine zo rfl (fun hc => ?_) (fun hc => ?_) | (refine hK _ ?_; clear hK K) | ((first | refine (show AS.le _ _ from ?_) | refine (show leH _ _ from ?_) | refine (show inH _ _ from ?_)); simp only [AS.le, leT, leH, zr, AsgK, AV.le, AV.leL, AObj.le, inH, idsT, idsH, AV.ids, AV.idsL, AV.idsR, AObj.ids, lk, hget, go_sem, aeq, aeq.aeqF, simprocAttr, hb, hb2]) | refine fun (nb : Bool) (hnb : nb = true → _) => ?_ | with_reducible refine And.intro ?_ ?_ | (refine (show zt _ _ = true from ?_); kernel_rfl) | omega | assumption | clear hK K)
  rw [jcommit, if_neg hn, if_pos hs]
 have hb2 : decide (4611686018427387904 ≤ j.seq) = false := decide_eq_false hs
 obtain ⟨htl, ht64⟩ := zmC j.seq hf
 have hjr := zmB j.pos (zc7 j.seq p).length
 have hjc : jcommit d j p = if (dflush d).2 ≠ 0 then ((dflush d).1, j, (dflush d).2) else jtail (dflush d).1 j p (zc7 j.seq p) (zd1 j.pos (zc7 j.seq p).length) := by rw [jcommit, if_neg hn, if_neg hs]
 rw [zpD] at hjc
 obtain ⟨L, hL⟩ : ∃ L, L = zc7 j.seq p := ⟨_, rfl⟩
 rw [← hL] at htl ht64 hjr hjc
 obtain ⟨A, hA⟩ : ∃ A, A = zd1 j.pos L.length := ⟨_, rfl⟩
 rw [← hA] at hjr hjc
 have hw6 : IntKind.i64.wrap (6 + A) = 6 + A := zD (by omega) (by omega)
 repeat' ((fail_if_success refine hds 9 (by rfl) ?_); first | ((first | refine za tabJe (zat) (fun K hK => ?_) | refine zc tabJe (zat) ?_ | refine ze tabJe (zat) mx (fun K hK => ?_) | refine zj tabJe (zat) mx ?_ | refine zh ?_ | refine zi ?_ | refine zn ?_); simp only [go_sem, aeq, aeq.aeqF, simprocAttr, hb, hb2, ← hL, ← hA, Tryz.results49]) | refine zq (fun K hK => ?_) | refine zp ?_ | refine zf rfl ?_ | refine zg rfl ?_ | refine zo rfl (fun hc => ?_) (fun hc => ?_) | (refine hK _ ?_; clear hK K) | ((first | refine (show AS.le _ _ from ?_) | refine (show leH _ _ from ?_) | refine (show inH _ _ from ?_)); simp only [AS.le, leT, leH, zr, AsgK, AV.le, AV.leL, AObj.le, inH, idsT, idsH, AV.ids, AV.idsL, AV.idsR, AObj.ids, lk, hget, go_sem, aeq, aeq.aeqF, simprocAttr, hb, hb2, ← hL, ← hA]) | refine fun (nb : Bool) (hnb : nb = true → _) => ?_ | with_reducible refine And.intro ?_ ?_ | (refine (show zt _ _ = true from ?_); kernel_rfl) | omega | assumption | clear hK K)
 obtain ⟨H, hH⟩ : ∃ H : AHeap, H = [(4, .var [.d (.int .u64 0), .d (.int .i64 0)]), (3, .var [.d (.str []), .nils 2, .d (.int .i64 0), .d (.bool false), .nils 1]), (2, .var [.d (.sl 1 (p.targets.map intD)), .d (.sl 1 (p.texts.map strD))]), (1, .var [.d (.int .u64 j.seq), .d (.int .i64 j.pos)]), (0, (.var [.d (.str d.data), .d (.sl 2 (d.cache.map putD)), .d (.int .i64 d.fuse), .d (.bool d.off), .d (.sl 1 (d.bad.map intD))]))] := ⟨_, rfl⟩
 have hh : HotOk Tryz.prog 0 (hotOf noHot 110 [.vp 5 0, .asl 1 (zjF (6 + A) L p)] ((5, .var (wkD d 0)) :: H) (.tup []) ((5, .var (wkD (runD (zaZ (6 + A) L p) d).1 (runD (zaZ (6 + A) L p) d).2)) :: H)) := by
  rw [hH]
  refine zlD (zlC _ _) (fun K hK => ((zuA d (6 + A) L p hd hpo hl (by omega) (by omega) (by omega)).one (fl' := 0) rfl rfl (zS rfl) rfl (by simp [AObj.ids, AV.idsL, AV.ids, wkD]) (by simp [AV.idsL, AV.ids, AV.idsR, zjF]) (by omega)).mono ?_)
  rintro r h' ⟨ob', ⟨rfl, rfl⟩, rfl⟩
  exact hK
 obtain ⟨X, hX⟩ : ∃ X, X = runD (zaZ (6 + A) L p) d := ⟨_, rfl⟩
 rw [← hX] at hh hjc
 have hdt : ∀ a, tabJe 110 a = none := fun a => rfl
 rw [hH] at hh
 refine zfu tabJe _ [0, 1, 2, 4] 6 rfl (by kernel_rfl) zat hh (by kernel_rfl) ⟨[(4, true, .vp 1 0), (6, true, .vp 3 0), (7, true, .vp 4 0), (9, true, .d (.sl 1 (L.map strD))), (13, true, .d (.int .i64 A)), (14, true, .vp 5 0)], (5, .var (wkD X.1 X.2)) :: [(4, .var [.d (.int .u64 0), .d (.int .i64 0)]), (3, .var [.d (.str []), .nils 2, .d (.int .i64 0), .d (.bool false), .nils 1]), (1, .var [.d (.int .u64 j.seq), .d (.int .i64 j.pos)])], some []⟩ ?_ ?_
 ·clear hh
  simp only [AS.le, leT, leH, zr, AsgK, AV.le, AV.leL, AObj.le, inH, idsT, idsH, AV.ids, AV.idsL, AV.idsR, AObj.ids, lk, hget, go_sem, aeq, aeq.aeqF, simprocAttr, hw6]
 ·clear hh
  have hws : IntKind.u64.wrap (j.seq + 1) = j.seq + 1 := zaH (by omega) (by omega)
  have hwl : IntKind.i64.wrap (A + (L.length : Int)) = A + L.length := zD (by omega) (by omega)
  repeat' (first | ((first | refine za tabJe (zat) (fun K hK => ?_) | refine zc tabJe (zat) ?_ | refine zE tabJe [] (zat) mx (fun K hK => ?_) | refine zF tabJe [] (zat) mx ?_ | refine zh ?_ | refine zi ?_ | refine zn ?_); simp only [go_sem, aeq, aeq.aeqF, simprocAttr, hws, hwl, Tryz.results49]) | refine zq (fun K hK => ?_) | refine zp ?_ | refine zf rfl ?_ | refine zg rfl ?_ | refine zo rfl (fun hc => ?_) (fun hc => ?_) | (refine hK _ ?_; clear hK K) | ((first | refine (show AS.le _ _ from ?_) | refine (show leH _ _ from ?_) | refine (show inH _ _ from ?_)); simp only [AS.le, leT, leH, zr, AsgK, AV.le, AV.leL, AObj.le, inH, idsT, idsH, AV.ids, AV.idsL, AV.idsR, AObj.ids, lk, hget, go_sem, aeq, aeq.aeqF, simprocAttr, hws, hwl]) | refine fun (nb : Bool) (hnb : nb = true → _) => ?_ | with_reducible refine And.intro ?_ ?_ | (refine (show zag _ _ = true from ?_); kernel_rfl) | omega | assumption | clear hK K)
  ·have hc : X.2 ≠ 0 := by simpa using hc
   rw [hjc, if_pos hc]
  ·have hc : ¬ X.2 ≠ 0 := by simpa using hc
   rw [hjc, if_neg hc]
noncomputable def zcX : Ent Tryz.prog := .ofL 49 (consL zN (consL zkm (consL zT nilL))) (fun (d, j, p, _) => (DiskF d) ∧ (pfit p = true) ∧ (0 ≤ j.seq) ∧ (j.seq < 18446744073709551616)) (fun (d, j, p, _) => .tup [diskA (jcommit d j p).1, jourA (jcommit d j p).2.1, .d (.int .i64 (jcommit d j p).2.2)]) (fun (d, j, p, _) hp => ⟨rfl, zkC d j p hp.1 hp.2.1 hp.2.2.1 hp.2.2.2⟩)
attribute [go_sem] zcX
open Go Go.Proofs
structure Geom where
 guest : Int
 host : Int
 deriving DecidableEq
def geomA (g : Geom) : AV := .agg [.d (.int .i64 g.guest), .d (.int .i64 g.host)]
attribute [go_sem] geomA
theorem zrF (g : Geom) : Geom.mk g.guest g.host = g := rfl
noncomputable def zgV : PT Geom := aggT (consL (intT .i64) (consL (intT .i64) nilL)) (fun p => ⟨p.1, p.2.1⟩) (fun x => (x.guest, x.host, ())) (fun _ => rfl)
attribute [go_sem] zgV
attribute [go_sem] zrF
structure DP (d : Disk) (p : Plan) : Prop where
 d : DiskF d
 p : pfit p = true
def p0 : Plan := ⟨[], []⟩
theorem zfQ : pfit p0 = true := rfl
theorem DP.zero {d : Disk} {p : Plan} (h : DP d p) : DP d p0 := ⟨h.d, zfQ⟩
theorem DP.dok {d : Disk} {p : Plan} (h : DP d p) : DiskOk d := h.d.ok
theorem DP.puts {d : Disk} {p : Plan} (h : DP d p) : d.cache.all (putOk d) = true := h.d.puts
theorem DP.pok {d : Disk} {p : Plan} (h : DP d p) : PlanOk p := by
 obtain ⟨hl, h24, _⟩ := zaI h.p
 exact ⟨by omega, by omega⟩
theorem DP.plen {d : Disk} {p : Plan} (h : DP d p) : p.targets.length = p.texts.length := (zaI h.p).1
theorem zir {d : Disk} {at_ : Int} (hf : d.cache.all (putOk d) = true) (he : (dread d at_).2 = 0) : (dread d at_).1.length = 64 := by
 unfold dread at he ⊢
 repeat' split
 all_goals first | (simp_all; done) | skip
 exact zlh hf (by simp_all)
theorem zeJ {d : Disk} {p : Plan} {at_ : Int} (h : DP d p) (he : (plook d p at_).2 = 0) : (plook d p at_).1.length = 64 := by
 unfold plook at he ⊢
 rcases zbs p.targets at_ with hk | ⟨k, hk, hkl⟩
 ·rw [if_neg (by omega)] at he ⊢
  exact zir h.puts he
 ·rw [if_pos (by omega), hk, Int.toNat_natCast]
  obtain ⟨s, hq⟩ := zau (l := p.texts) (i := k) (by have := h.plen; omega)
  rw [List.getD_eq_getElem?_getD, hq]
  exact (zaI h.p).2.2 s (List.mem_of_getElem? hq)
def zQ (k : Int) : Bool := decide (0 ≤ k) && decide (k < 256)
def rget (d : Disk) (p : Plan) (k : Int) : Int × Int :=
 if !zQ k then (0, 10) else if (plook d p (87 + k / 32)).2 ≠ 0 then (0, (plook d p (87 + k / 32)).2)
 else (((takeN (((plook d p (87 + k / 32)).1.drop (2 * (k % 32)).toNat).take 2) : Nat) : Int), 0)
def radd (d : Disk) (p : Plan) (k by_ : Int) : Plan × Int :=
 if (rget d p k).2 ≠ 0 then (p, (rget d p k).2) else if by_ < -(rget d p k).1 ∨ 65535 - (rget d p k).1 < by_ then (p, 18)
 else zb8 d p (87 + k / 32) (2 * (k % 32)) (putN ((rget d p k).1 + by_).toNat 2)
def zeK (d : Disk) (p : Plan) : Nat → Int → Int × Int
 | 0, _ => (0, 17)
 | m + 1, k => if (rget d p k).2 ≠ 0 then (0, (rget d p k).2) else if (rget d p0 k).2 ≠ 0 then (0, (rget d p0 k).2)
  else if (rget d p k).1 = 0 ∧ (rget d p0 k).1 = 0 then (k, 0) else zeK d p m (k + 1)
def rfind (d : Disk) (p : Plan) (g : Geom) : Int × Int := zeK d p g.host.toNat 0
def rtake (d : Disk) (p : Plan) (g : Geom) : Plan × Int × Int :=
 if (rfind d p g).2 ≠ 0 then (p, 0, (rfind d p g).2) else if (radd d p (rfind d p g).1 1).2 ≠ 0 then (p, 0, (radd d p (rfind d p g).1 1).2)
 else ((radd d p (rfind d p g).1 1).1, (rfind d p g).1, 0)
theorem zdR (d : Disk) (p : Plan) (k : Int) : 0 ≤ (rget d p k).1 ∧ (rget d p k).1 ≤ 65535 := by
 unfold rget
 split
 ·exact ⟨Int.le_refl 0, show (0 : Int) ≤ 65535 by decide⟩
 split
 ·exact ⟨Int.le_refl 0, show (0 : Int) ≤ 65535 by decide⟩
 ·have := zcM (l := ((plook d p (87 + k / 32)).1.drop (2 * (k % 32)).toNat).take 2) (i := 2) (by rw [List.length_take]; omega)
  simp only
  omega
theorem zlu {d : Disk} {p : Plan} {k by_ : Int} (h : pfit p = true) : pfit (radd d p k by_).1 = true := by
 unfold radd
 split
 ·exact h
 split
 ·exact h
 ·exact zhI h
theorem DP.radd {d : Disk} {p : Plan} (h : DP d p) (k by_ : Int) : DP d (radd d p k by_).1 := ⟨h.d, zlu h.p⟩
theorem DP.rtake {d : Disk} {p : Plan} (h : DP d p) (g : Geom) : DP d (rtake d p g).1 := by
 unfold Aw.rtake
 split
 ·exact h
 split
 ·exact h
 ·exact h.radd _ _
theorem hostOk_iff {k : Int} : zQ k = true ↔ 0 ≤ k ∧ k < 256 := by simp [zQ]
theorem zbb (k : Int) : (decide (k < 0) || decide (256 ≤ k)) = !zQ k := by
 rw [zQ, Bool.not_and]
 congr 1
 ·by_cases h : k < 0
  ·rw [decide_eq_true h, decide_eq_false (by omega)]; rfl
  ·rw [decide_eq_false h, decide_eq_true (by omega)]; rfl
 ·by_cases h : k < 256
  ·rw [decide_eq_true h, decide_eq_false (by omega)]; rfl
  ·rw [decide_eq_false h, decide_eq_true (by omega)]; rfl
theorem zgW {s : Txt} {z : Int} (n : Nat) (hz : z = n) (h0 : 0 < n) (h8 : n ≤ 8) (h : n ≤ s.length) : takeS s z = (((takeN (s.take n) : Nat) : Int), s.drop n, 0) := by
 subst hz
 rw [takeS, if_neg (by omega), if_neg (by omega)]
 simp
noncomputable def tab8a : Tab := tabOf [zct, zbX, zec]
theorem zdS : TabOk Tryz.prog tab8a := zA _
@[go_sem] theorem zqe (args : List AV) : tab8a 100 args = (zct).e args := rfl
@[go_sem] theorem zo6 (args : List AV) : tab8a 54 args = (zbX).e args := rfl
@[go_sem] theorem zo7 (args : List AV) : tab8a 57 args = (zec).e args := rfl
theorem zrG (d : Disk) (p : Plan) (k : Int) (h : DP d p) : ACall Tryz.prog 43 0 [diskA d, planA p, .d (.int .i64 k)] [] (fun r _ => r = .tup [.d (.int .i64 (rget d p k).1), .d (.int .i64 (rget d p k).2)]) := by
 refine zk Tryz.func43 rfl (zv Tryz.func43 (by kernel_rfl) rfl) Tryz.ntmps43 (by simp) (fun base => ?_)
 have h1 := h.dok
 have h2 := h.pok
 have h3 := h.plen
 by_cases hk : zQ k = true
 ·have hdec : (!zQ k) = false := by rw [hk]; rfl
  obtain ⟨hk0, hk1⟩ := hostOk_iff.1 hk
  by_cases he : (plook d p (87 + k / 32)).2 = 0
  ·have hb : ((plook d p (87 + k / 32)).2 != 0) = false := by simpa using he
   have h64 := zeJ h he
   have hts := zgW (s := ((plook d p (87 + k / 32)).1.drop (2 * (k % 32)).toNat)) (z := 2) 2 rfl (by omega) (by omega) (by rw [List.length_drop]; omega)
   have hr := zdR d p k
   have hrg : rget d p k = (((takeN (((plook d p (87 + k / 32)).1.drop (2 * (k % 32)).toNat).take 2) : Nat) : Int), 0) := by
    rw [rget, if_neg (by rw [hdec]; exact Bool.false_ne_true), if_neg (by simpa using he)]
   have hwr : IntKind.i64.wrap (rget d p k).1 = (rget d p k).1 := zD (by omega) (by omega)
   rw [hrg] at hwr
   simp only at hwr
   have hld : ((plook d p (87 + k / 32)).1.drop (2 * (k % 32)).toNat).length ≤ 64 := by rw [List.length_drop]; omega
   have htk : List.take (plook d p (87 + k / 32)).1.length (plook d p (87 + k / 32)).1 = (plook d p (87 + k / 32)).1 := List.take_length
   repeat' (first | ((first | refine za tab8a (zdS) (fun K hK => ?_) | refine zc tab8a (zdS) ?_ | refine zh ?_ | refine zi ?_ | refine zn ?_); simp only [go_sem, aeq, aeq.aeqF, simprocAttr, zbb, hdec, hb, hts, hwr, htk, Tryz.results43]) | refine zq (fun K hK => ?_) | refine zf rfl ?_ | refine zg rfl ?_ | refine zo rfl (fun hc => ?_) (fun hc => ?_) | (refine hK _ ?_; clear hK K) | with_reducible refine And.intro ?_ ?_ | omega | assumption | refine fun (hg : (_ : Bool) = (_ : Bool)) => ?_ | clear hK K)
   rw [hrg]
  ·have hb : ((plook d p (87 + k / 32)).2 != 0) = true := by simpa using he
   repeat' (first | ((first | refine za tab8a (zdS) (fun K hK => ?_) | refine zc tab8a (zdS) ?_ | refine zh ?_ | refine zi ?_ | refine zn ?_); simp only [go_sem, aeq, aeq.aeqF, simprocAttr, zbb, hdec, hb, Tryz.results43]) | refine zq (fun K hK => ?_) | refine zf rfl ?_ | refine zg rfl ?_ | refine zo rfl (fun hc => ?_) (fun hc => ?_) | (refine hK _ ?_; clear hK K) | with_reducible refine And.intro ?_ ?_ | omega | assumption | refine fun (hg : (_ : Bool) = (_ : Bool)) => ?_ | clear hK K)
   rw [rget, if_neg (by rw [hdec]; exact Bool.false_ne_true), if_pos he]
 ·have hdec : (!zQ k) = true := by simpa using hk
  repeat' (first | ((first | refine za tab8a (zdS) (fun K hK => ?_) | refine zc tab8a (zdS) ?_ | refine zh ?_ | refine zi ?_ | refine zn ?_); simp only [go_sem, aeq, aeq.aeqF, simprocAttr, zbb, hdec, Tryz.results43]) | refine zq (fun K hK => ?_) | refine zf rfl ?_ | refine zg rfl ?_ | refine zo rfl (fun hc => ?_) (fun hc => ?_) | (refine hK _ ?_; clear hK K) | with_reducible refine And.intro ?_ ?_ | omega | assumption | refine fun (hg : (_ : Bool) = (_ : Bool)) => ?_ | clear hK K)
  rw [rget, if_pos hdec]
noncomputable def zfp : Ent Tryz.prog := .ofL 43 (consL zN (consL zT (consL (intT .i64) nilL))) (fun (d, p, k, _) => DP d p) (fun (d, p, k, _) => .tup [.d (.int .i64 (rget d p k).1), .d (.int .i64 (rget d p k).2)]) (fun (d, p, k, _) hp => ⟨rfl, zrG d p k hp⟩)
attribute [go_sem] zfp
theorem zlv {x : Int} : putS8 x 2 = putN x.toNat 2 := by rw [putS8, if_neg (by omega)]; rfl
theorem zsO {x : Int} : putS8 x 4 = putN x.toNat 4 := by rw [putS8, if_neg (by omega)]; rfl
theorem zuz {x : Int} : putS8 x 8 = putN x.toNat 8 := by rw [putS8, if_neg (by omega)]; rfl
theorem zkn {d : Disk} {p : Plan} {k : Int} (h : (rget d p k).2 = 0) : 0 ≤ k ∧ k < 256 := by
 unfold rget at h
 by_cases hk : zQ k = true
 ·exact hostOk_iff.1 hk
 ·rw [if_pos (by simpa using hk)] at h
  cases h
noncomputable def tab8b : Tab := tabOf [zfp, zct, zcs, zdq]
theorem za1 : TabOk Tryz.prog tab8b := zA _
@[go_sem] theorem zqf (args : List AV) : tab8b 43 args = (zfp).e args := rfl
@[go_sem] theorem zqg (args : List AV) : tab8b 100 args = (zct).e args := rfl
@[go_sem] theorem zqh (args : List AV) : tab8b 119 args = (zcs).e args := rfl
@[go_sem] theorem znl (args : List AV) : tab8b 128 args = (zdq).e args := rfl
theorem zrH (d : Disk) (p : Plan) (k : Int) (by_ : Int) (h : DP d p) : ACall Tryz.prog 78 0 [diskA d, planA p, .d (.int .i64 k), .d (.int .i64 by_)] [] (fun r _ => r = .tup [planA (radd d p k by_).1, .d (.int .i64 (radd d p k by_).2)]) := by
 refine zz ?_
 refine zk Tryz.func78 rfl (zv Tryz.func78 (by kernel_rfl) rfl) Tryz.ntmps78 (by simp) (fun base => ?_)
 have h1 := h.dok
 have h2 := h.puts
 have h3 := h.p
 have hr := zdR d p k
 by_cases he : (rget d p k).2 = 0
 ·have hb : ((rget d p k).2 != 0) = false := by simpa using he
  obtain ⟨hk0, hk1⟩ := zkn he
  have hw1 : IntKind.i64.wrap (0 - (rget d p k).1) = -(rget d p k).1 := by rw [zD (by omega) (by omega)]; omega
  have hw2 : IntKind.i64.wrap (65535 - (rget d p k).1) = 65535 - (rget d p k).1 := zD (by omega) (by omega)
  by_cases hc : by_ < -(rget d p k).1 ∨ 65535 - (rget d p k).1 < by_
  ·have hdec : (decide (by_ < -(rget d p k).1) || decide (65535 - (rget d p k).1 < by_)) = true := by simpa using hc
   repeat' (first | ((first | refine za tab8b (za1) (fun K hK => ?_) | refine zc tab8b (za1) ?_ | refine ze tab8b (za1) mx (fun K hK => ?_) | refine zj tab8b (za1) mx ?_ | refine zh ?_ | refine zi ?_ | refine zn ?_); simp only [go_sem, aeq, aeq.aeqF, simprocAttr, hb, hw1, hw2, hdec, Tryz.results78]) | refine zq (fun K hK => ?_) | refine zf rfl ?_ | refine zg rfl ?_ | refine zo rfl (fun hc => ?_) (fun hc => ?_) | (refine hK _ ?_; clear hK K) | with_reducible refine And.intro ?_ ?_ | (refine (show zt _ _ = true from ?_); kernel_rfl) | omega | assumption | refine fun (hg : (_ : Bool) = (_ : Bool)) => ?_ | clear hK K)
   rw [radd, if_neg (by simpa using he), if_pos hc]
  ·have hdec : (decide (by_ < -(rget d p k).1) || decide (65535 - (rget d p k).1 < by_)) = false := by simpa using hc
   have hw3 : IntKind.i64.wrap ((rget d p k).1 + by_) = (rget d p k).1 + by_ := zD (by omega) (by omega)
   have hw4 : IntKind.u64.wrap ((rget d p k).1 + by_) = (rget d p k).1 + by_ := zaH (by omega) (by omega)
   have hpl := zap ((rget d p k).1 + by_).toNat 2
   repeat' (first | ((first | refine za tab8b (za1) (fun K hK => ?_) | refine zc tab8b (za1) ?_ | refine ze tab8b (za1) mx (fun K hK => ?_) | refine zj tab8b (za1) mx ?_ | refine zh ?_ | refine zi ?_ | refine zn ?_); simp only [go_sem, aeq, aeq.aeqF, simprocAttr, hb, hw1, hw2, hw3, hw4, hdec, zlv, Tryz.results78]) | refine zq (fun K hK => ?_) | refine zf rfl ?_ | refine zg rfl ?_ | refine zo rfl (fun hc => ?_) (fun hc => ?_) | (refine hK _ ?_; clear hK K) | with_reducible refine And.intro ?_ ?_ | (refine (show zt _ _ = true from ?_); kernel_rfl) | omega | assumption | refine fun (hg : (_ : Bool) = (_ : Bool)) => ?_ | clear hK K)
   all_goals first | (rw [hpl]; decide) | skip
   rw [radd, if_neg (by simpa using he), if_neg hc]
 ·have hb : ((rget d p k).2 != 0) = true := by simpa using he
  repeat' (first | ((first | refine za tab8b (za1) (fun K hK => ?_) | refine zc tab8b (za1) ?_ | refine ze tab8b (za1) mx (fun K hK => ?_) | refine zj tab8b (za1) mx ?_ | refine zh ?_ | refine zi ?_ | refine zn ?_); simp only [go_sem, aeq, aeq.aeqF, simprocAttr, hb, Tryz.results78]) | refine zq (fun K hK => ?_) | refine zf rfl ?_ | refine zg rfl ?_ | refine zo rfl (fun hc => ?_) (fun hc => ?_) | (refine hK _ ?_; clear hK K) | with_reducible refine And.intro ?_ ?_ | (refine (show zt _ _ = true from ?_); kernel_rfl) | omega | assumption | refine fun (hg : (_ : Bool) = (_ : Bool)) => ?_ | clear hK K)
  rw [radd, if_pos he]
noncomputable def zfq : Ent Tryz.prog := .ofL 78 (consL zN (consL zT (consL (intT .i64) (consL (intT .i64) nilL)))) (fun (d, p, k, by_, _) => DP d p) (fun (d, p, k, by_, _) => .tup [planA (radd d p k by_).1, .d (.int .i64 (radd d p k by_).2)]) (fun (d, p, k, by_, _) hp => ⟨rfl, zrH d p k by_ hp⟩)
attribute [go_sem] zfq
theorem zhK : ∀ (d : Disk) (p : Plan) (m : Nat) (k : Int), (zeK d p m k).2 = 0 → (0 ≤ (zeK d p m k).1 ∧ (zeK d p m k).1 < 256)
 | d, p, 0, k, h => by simp [zeK] at h
 | d, p, m + 1, k, h => by
  rw [zeK] at h ⊢
  split at h
  ·rename_i hc; exact absurd h hc
  rename_i hc0
  rw [if_neg hc0]
  split at h
  ·rename_i hc; exact absurd h hc
  rename_i hc1
  rw [if_neg hc1]
  split at h
  ·rename_i hc
   rw [if_pos hc]
   exact zkn (by simpa using hc0)
  ·rename_i hc
   rw [if_neg hc]
   exact zhK d p m (k + 1) h
open Go Go.Proofs
noncomputable def tab8p : Tab := tabOf [zeD, zaC, zbV]
theorem zdV : TabOk Tryz.prog tab8p := zA _
@[go_sem] theorem zsV (args : List AV) : tab8p 158 args = (zeD).e args := rfl
@[go_sem] theorem zqw (args : List AV) : tab8p 130 args = (zaC).e args := rfl
@[go_sem] theorem zsb (args : List AV) : tab8p 131 args = (zbV).e args := rfl
theorem zpO (d : Disk) (p : Plan) (k : Int) (h : DP d p) : ACall Tryz.prog 99 0 [diskA d, planA p, .d (.int .i64 k)] [] (fun r _ => r = .tup [.d (.int .i64 (rget d p k).1), .d (.int .i64 (rget d p k).2)]) := by
 refine zk Tryz.func99 rfl (zv Tryz.func99 (by kernel_rfl) rfl) Tryz.ntmps99 (by simp) (fun base => ?_)
 have h1 := h.dok
 have h2 := h.pok
 have h3 := h.plen
 by_cases hk : zQ k = true
 ·have hdec : (!zQ k) = false := by rw [hk]; rfl
  obtain ⟨hk0, hk1⟩ := hostOk_iff.1 hk
  by_cases he : (plook d p (87 + k / 32)).2 = 0
  ·have hb : ((plook d p (87 + k / 32)).2 != 0) = false := by simpa using he
   have h64 := zeJ h he
   have hts := zgW (s := ((plook d p (87 + k / 32)).1.drop (2 * (k % 32)).toNat)) (z := 2) 2 rfl (by omega) (by omega) (by rw [List.length_drop]; omega)
   have hr := zdR d p k
   have hrg : rget d p k = (((takeN (((plook d p (87 + k / 32)).1.drop (2 * (k % 32)).toNat).take 2) : Nat) : Int), 0) := by
    rw [rget, if_neg (by rw [hdec]; exact Bool.false_ne_true), if_neg (by simpa using he)]
   have hwr : IntKind.i64.wrap (rget d p k).1 = (rget d p k).1 := zD (by omega) (by omega)
   rw [hrg] at hwr
   simp only at hwr
   have hld : ((plook d p (87 + k / 32)).1.drop (2 * (k % 32)).toNat).length ≤ 64 := by rw [List.length_drop]; omega
   have htk : List.take (plook d p (87 + k / 32)).1.length (plook d p (87 + k / 32)).1 = (plook d p (87 + k / 32)).1 := List.take_length
   repeat' (first | ((first | refine za tab8p (zdV) (fun K hK => ?_) | refine zc tab8p (zdV) ?_ | refine zh ?_ | refine zi ?_ | refine zn ?_); simp only [go_sem, aeq, aeq.aeqF, simprocAttr, zbb, hdec, hb, hts, hwr, htk, Tryz.results99]) | refine zq (fun K hK => ?_) | refine zf rfl ?_ | refine zg rfl ?_ | refine zo rfl (fun hc => ?_) (fun hc => ?_) | (refine hK _ ?_; clear hK K) | with_reducible refine And.intro ?_ ?_ | omega | assumption | refine fun (hg : (_ : Bool) = (_ : Bool)) => ?_ | clear hK K)
   rw [hrg]
  ·have hb : ((plook d p (87 + k / 32)).2 != 0) = true := by simpa using he
   repeat' (first | ((first | refine za tab8p (zdV) (fun K hK => ?_) | refine zc tab8p (zdV) ?_ | refine zh ?_ | refine zi ?_ | refine zn ?_); simp only [go_sem, aeq, aeq.aeqF, simprocAttr, zbb, hdec, hb, Tryz.results99]) | refine zq (fun K hK => ?_) | refine zf rfl ?_ | refine zg rfl ?_ | refine zo rfl (fun hc => ?_) (fun hc => ?_) | (refine hK _ ?_; clear hK K) | with_reducible refine And.intro ?_ ?_ | omega | assumption | refine fun (hg : (_ : Bool) = (_ : Bool)) => ?_ | clear hK K)
   rw [rget, if_neg (by rw [hdec]; exact Bool.false_ne_true), if_pos he]
 ·have hdec : (!zQ k) = true := by simpa using hk
  repeat' (first | ((first | refine za tab8p (zdV) (fun K hK => ?_) | refine zc tab8p (zdV) ?_ | refine zh ?_ | refine zi ?_ | refine zn ?_); simp only [go_sem, aeq, aeq.aeqF, simprocAttr, zbb, hdec, Tryz.results99]) | refine zq (fun K hK => ?_) | refine zf rfl ?_ | refine zg rfl ?_ | refine zo rfl (fun hc => ?_) (fun hc => ?_) | (refine hK _ ?_; clear hK K) | with_reducible refine And.intro ?_ ?_ | omega | assumption | refine fun (hg : (_ : Bool) = (_ : Bool)) => ?_ | clear hK K)
  rw [rget, if_pos hdec]
noncomputable def zaK : Ent Tryz.prog := .ofL 99 (consL zN (consL zT (consL (intT .i64) nilL))) (fun (d, p, k, _) => DP d p) (fun (d, p, k, _) => .tup [.d (.int .i64 (rget d p k).1), .d (.int .i64 (rget d p k).2)]) (fun (d, p, k, _) hp => ⟨rfl, zpO d p k hp⟩)
attribute [go_sem] zaK
noncomputable def tab8q : Tab := tabOf [zaK, zeD, zbK, zbY]
theorem za4 : TabOk Tryz.prog tab8q := zA _
@[go_sem] theorem zpP (args : List AV) : tab8q 99 args = (zaK).e args := rfl
@[go_sem] theorem zsW (args : List AV) : tab8q 158 args = (zeD).e args := rfl
@[go_sem] theorem zsX (args : List AV) : tab8q 184 args = (zbK).e args := rfl
@[go_sem] theorem zpQ (args : List AV) : tab8q 186 args = (zbY).e args := rfl
theorem zpR (d : Disk) (p : Plan) (k : Int) (by_ : Int) (h : DP d p) : ACall Tryz.prog 152 0 [diskA d, planA p, .d (.int .i64 k), .d (.int .i64 by_)] [] (fun r _ => r = .tup [planA (radd d p k by_).1, .d (.int .i64 (radd d p k by_).2)]) := by
 refine zz ?_
 refine zk Tryz.func152 rfl (zv Tryz.func152 (by kernel_rfl) rfl) Tryz.ntmps152 (by simp) (fun base => ?_)
 have h1 := h.dok
 have h2 := h.puts
 have h3 := h.p
 have hr := zdR d p k
 by_cases he : (rget d p k).2 = 0
 ·have hb : ((rget d p k).2 != 0) = false := by simpa using he
  obtain ⟨hk0, hk1⟩ := zkn he
  have hw1 : IntKind.i64.wrap (0 - (rget d p k).1) = -(rget d p k).1 := by rw [zD (by omega) (by omega)]; omega
  have hw2 : IntKind.i64.wrap (65535 - (rget d p k).1) = 65535 - (rget d p k).1 := zD (by omega) (by omega)
  by_cases hc : by_ < -(rget d p k).1 ∨ 65535 - (rget d p k).1 < by_
  ·have hdec : (decide (by_ < -(rget d p k).1) || decide (65535 - (rget d p k).1 < by_)) = true := by simpa using hc
   repeat' (first | ((first | refine za tab8q (za4) (fun K hK => ?_) | refine zc tab8q (za4) ?_ | refine ze tab8q (za4) mx (fun K hK => ?_) | refine zj tab8q (za4) mx ?_ | refine zh ?_ | refine zi ?_ | refine zn ?_); simp only [go_sem, aeq, aeq.aeqF, simprocAttr, hb, hw1, hw2, hdec, Tryz.results152]) | refine zq (fun K hK => ?_) | refine zp ?_ | refine zf rfl ?_ | refine zg rfl ?_ | refine zo rfl (fun hc => ?_) (fun hc => ?_) | (refine hK _ ?_; clear hK K) | with_reducible refine And.intro ?_ ?_ | (refine (show zt _ _ = true from ?_); kernel_rfl) | omega | assumption | refine fun (hg : (_ : Bool) = (_ : Bool)) => ?_ | clear hK K)
   rw [radd, if_neg (by simpa using he), if_pos hc]
  ·have hdec : (decide (by_ < -(rget d p k).1) || decide (65535 - (rget d p k).1 < by_)) = false := by simpa using hc
   have hw3 : IntKind.i64.wrap ((rget d p k).1 + by_) = (rget d p k).1 + by_ := zD (by omega) (by omega)
   have hw4 : IntKind.u64.wrap ((rget d p k).1 + by_) = (rget d p k).1 + by_ := zaH (by omega) (by omega)
   have hpl := zap ((rget d p k).1 + by_).toNat 2
   repeat' (first | ((first | refine za tab8q (za4) (fun K hK => ?_) | refine zc tab8q (za4) ?_ | refine ze tab8q (za4) mx (fun K hK => ?_) | refine zj tab8q (za4) mx ?_ | refine zh ?_ | refine zi ?_ | refine zn ?_); simp only [go_sem, aeq, aeq.aeqF, simprocAttr, hb, hw1, hw2, hw3, hw4, hdec, zlv, Tryz.results152]) | refine zq (fun K hK => ?_) | refine zp ?_ | refine zf rfl ?_ | refine zg rfl ?_ | refine zo rfl (fun hc => ?_) (fun hc => ?_) | (refine hK _ ?_; clear hK K) | with_reducible refine And.intro ?_ ?_ | (refine (show zt _ _ = true from ?_); kernel_rfl) | omega | assumption | refine fun (hg : (_ : Bool) = (_ : Bool)) => ?_ | clear hK K)
   all_goals first | (rw [hpl]; decide) | skip
   rw [radd, if_neg (by simpa using he), if_neg hc]
 ·have hb : ((rget d p k).2 != 0) = true := by simpa using he
  repeat' (first | ((first | refine za tab8q (za4) (fun K hK => ?_) | refine zc tab8q (za4) ?_ | refine ze tab8q (za4) mx (fun K hK => ?_) | refine zj tab8q (za4) mx ?_ | refine zh ?_ | refine zi ?_ | refine zn ?_); simp only [go_sem, aeq, aeq.aeqF, simprocAttr, hb, Tryz.results152]) | refine zq (fun K hK => ?_) | refine zp ?_ | refine zf rfl ?_ | refine zg rfl ?_ | refine zo rfl (fun hc => ?_) (fun hc => ?_) | (refine hK _ ?_; clear hK K) | with_reducible refine And.intro ?_ ?_ | (refine (show zt _ _ = true from ?_); kernel_rfl) | omega | assumption | refine fun (hg : (_ : Bool) = (_ : Bool)) => ?_ | clear hK K)
  rw [radd, if_pos he]
noncomputable def zb3 : Ent Tryz.prog := .ofL 152 (consL zN (consL zT (consL (intT .i64) (consL (intT .i64) nilL)))) (fun (d, p, k, by_, _) => DP d p) (fun (d, p, k, by_, _) => .tup [planA (radd d p k by_).1, .d (.int .i64 (radd d p k by_).2)]) (fun (d, p, k, by_, _) hp => ⟨rfl, zpR d p k by_ hp⟩)
attribute [go_sem] zb3
noncomputable def tab9p : Tab := tabOf [zaK]
theorem zaz : TabOk Tryz.prog tab9p := zA _
@[go_sem] theorem zpS (args : List AV) : tab9p 99 args = (zaK).e args := rfl
def freeL (d : Disk) (p : Plan) : Nat → Int → List (Int × Int)
 | 0, _ => []
 | m + 1, k => if (rget d p k).2 ≠ 0 then [(0, (rget d p k).2)] else if (rget d p0 k).2 ≠ 0 then [(0, (rget d p0 k).2)]
  else if (rget d p k).1 = 0 ∧ (rget d p0 k).1 = 0 then (k, 0) :: freeL d p m (k + 1) else freeL d p m (k + 1)
theorem zg5 (d : Disk) (p : Plan) : ∀ (m : Nat) (k : Int), zeK d p m k = (freeL d p m k).headD (0, 17)
 | 0, k => rfl
 | m + 1, k => by
  rw [zeK, freeL]
  repeat' split
  all_goals first | rfl | exact zg5 d p m (k + 1)
def freeI (q : Int × Int) : List AV := [.d (.int .i64 q.1), .d (.int .i64 q.2)]
def geomC (g : Geom) : List AV := [.d (.int .i64 g.guest), .d (.int .i64 g.host)]
attribute [go_sem] geomC
theorem zsc (d : Disk) (p : Plan) (g : Geom) : ACall Tryz.prog 185 0 [diskA d, planA p, geomA g] [] (fun r _ => r = .fn (.func 209) [] [.dp (geomC g), .dp (planC p), .dp (diskC d)]) := by
 refine zz ?_
 refine zk Tryz.func185 rfl (zv Tryz.func185 (by kernel_rfl) rfl) Tryz.ntmps185 (by simp) (fun base => ?_)
 repeat' (first | ((first | refine za noTab (zb _) (fun K hK => ?_) | refine zc noTab (zb _) ?_ | refine zh ?_ | refine zi ?_ | refine zn ?_); simp only [go_sem, aeq, aeq.aeqF, simprocAttr, Tryz.results185]) | refine zq (fun K hK => ?_) | (refine hK _ ?_; clear hK K) | refine fun (nb : Bool) (hnb : nb = true → _) => ?_ | with_reducible refine And.intro ?_ ?_ | omega | assumption | clear hK K)
noncomputable def zfC : Ent Tryz.prog := .ofL 185 (consL zN (consL zT (consL zgV nilL))) (fun (d, p, g, _) => True) (fun (d, p, g, _) => .fn (.func 209) [] [.dp (geomC g), .dp (planC p), .dp (diskC d)]) (fun (d, p, g, _) hp => ⟨rfl, zsc d p g⟩)
attribute [go_sem] zfC
abbrev Fst (d : Disk) (p : Plan) (g : Geom) := { q : Nat × List (List AV) // (q.1 : Int) ≤ max g.host 0 ∧ q.2 ++ (freeL d p (g.host.toNat - q.1) q.1).map freeI = (freeL d p g.host.toNat 0).map freeI }
theorem zkF (d : Disk) (p : Plan) (g : Geom) (h : DP d p) (hg : g.host ≤ 1000000) : AIter Tryz.prog 209 100 [] [.dp [.d (.int .i64 g.guest), .d (.int .i64 g.host)], .dp [.d (.sl 1 (p.targets.map intD)), .d (.sl 1 (p.texts.map strD))], .dp [.d (.str d.data), .d (.sl 2 (d.cache.map putD)), .d (.int .i64 d.fuse), .d (.bool d.off), .d (.sl 1 (d.bad.map intD))]] [] ((freeL d p g.host.toNat 0).map freeI) (fun gg h' => (∀ xs, gg = some xs → xs = (freeL d p g.host.toNat 0).map freeI) ∧ h' = []) := by
 refine zaE Tryz.func209 rfl (zv Tryz.func209 (by kernel_rfl) rfl) Tryz.ntmps209 rfl (by simp) (fun base y => ?_)
 refine zgD ?_
 repeat' (first | (refine zL (fun i => decide (i < 100)) (by simp only [inH, idsH, hsel, AV.ids, AV.idsL, AV.idsR, AObj.ids, hget, go_sem, aeq, aeq.aeqF, simprocAttr]) ?_; simp only [go_sem, aeq, aeq.aeqF, simprocAttr, hsel, keepT]; refine zn ?_; simp only [go_sem, aeq, aeq.aeqF, simprocAttr]) | ((first | refine zu noTab (zb _) (fun K hK => ?_) | refine zB noTab (zb _) ?_ | refine zh ?_ | refine zi ?_ | refine zn ?_); simp only [go_sem, aeq, aeq.aeqF, simprocAttr]) | refine zq (fun K hK => ?_) | refine zp ?_ | refine zf rfl ?_ | refine zg rfl ?_ | refine zo rfl (fun hc => ?_) (fun hc => ?_) | (refine hK _ ?_; clear hK K) | ((first | refine (show AS.le _ _ from ?_) | refine (show leH _ _ from ?_) | refine (show inH _ _ from ?_)); simp only [AS.le, leT, leH, zr, AsgK, AV.le, AV.leL, AObj.le, inH, idsT, idsH, AV.ids, AV.idsL, AV.idsR, AObj.ids, lk, hget, go_sem, aeq, aeq.aeqF, simprocAttr]) | refine fun (r2 : Rnd _) => ?_ | with_reducible refine And.intro ?_ ?_ | exact ‹_ <+: _› | omega | assumption | refine fun (hg : (_ : Bool) = (_ : Bool)) => ?_ | clear hK K)
 have hz := h.zero
 have hz0 : p0 = Plan.mk [] [] := rfl
 rw [hz0] at hz
 refine zO (fun q : Fst d p g => ⟨[(0, true, .fn (.yield y.yl) [] []), (1, true, .dp [.d (.int .i64 g.guest), .d (.int .i64 g.host)]), (2, true, .dp [.d (.sl 1 (p.targets.map intD)), .d (.sl 1 (p.texts.map strD))]), (3, true, .dp [.d (.str d.data), .d (.sl 2 (d.cache.map putD)), .d (.int .i64 d.fuse), .d (.bool d.off), .d (.sl 1 (d.bad.map intD))]), (12, true, .d (.int .i64 g.host)), (13, true, .d (.int .i64 q.1.1))], [], some q.1.2⟩) (fun q => g.host.toNat - q.1.1) ⟨(0, []), by show (_ : Int) ≤ _; omega, rfl⟩ (by simp only [AS.le, leT, leH, zr, AsgK, AV.le, AV.leL, AObj.le, inH, idsT, idsH, AV.ids, AV.idsL, AV.idsR, AObj.ids, lk, hget, go_sem, aeq, aeq.aeqF, simprocAttr] <;> and_intros <;> rfl) (fun q => ?_)
 obtain ⟨⟨i, xs⟩, hi, hf⟩ := q
 simp only at hi hf ⊢
 by_cases hlt : (i : Int) < g.host
 ·have hcmp : decide ((i : Int) < g.host) = true := decide_eq_true hlt
  have hwi := zV (i := i) (by omega)
  rw [show g.host.toNat - i = (g.host.toNat - (i + 1)) + 1 by omega, freeL, hz0] at hf
  have hr1 := zdR d p i
  have hr2 := zdR d ⟨[], []⟩ i
  repeat' (first | (refine zL (fun i => decide (i < 100)) (by simp only [inH, idsH, hsel, AV.ids, AV.idsL, AV.idsR, AObj.ids, hget, go_sem, aeq, aeq.aeqF, simprocAttr]) ?_; simp only [go_sem, aeq, aeq.aeqF, simprocAttr, hcmp, hsel, keepT]; refine zn ?_; simp only [go_sem, aeq, aeq.aeqF, simprocAttr, hcmp]) | ((first | refine zu tab9p (zaz) (fun K hK => ?_) | refine zB tab9p (zaz) ?_ | refine zh ?_ | refine zi ?_ | refine zn ?_); simp only [go_sem, aeq, aeq.aeqF, simprocAttr, hcmp]) | refine zq (fun K hK => ?_) | refine zp ?_ | refine zf rfl ?_ | refine zg rfl ?_ | refine zo rfl (fun hc => ?_) (fun hc => ?_) | (refine hK _ ?_; clear hK K) | ((first | refine (show AS.le _ _ from ?_) | refine (show leH _ _ from ?_) | refine (show inH _ _ from ?_)); simp only [AS.le, leT, leH, zr, AsgK, AV.le, AV.leL, AObj.le, inH, idsT, idsH, AV.ids, AV.idsL, AV.idsR, AObj.ids, lk, hget, go_sem, aeq, aeq.aeqF, simprocAttr, hcmp]) | refine fun (r2 : Rnd _) => ?_ | with_reducible refine And.intro ?_ ?_ | exact ‹_ <+: _› | omega | assumption | refine fun (hg : (_ : Bool) = (_ : Bool)) => ?_ | clear hK K)
  refine zO (fun r : { r : Nat × Int // (r.1 = 0 ∧ r.2 = 0) ∨ (r.1 = 1 ∧ (rget d p i).2 = 0 ∧ r.2 = (rget d p i).1) ∨ (r.1 = 2 ∧ (rget d p i).2 = 0 ∧ (rget d ⟨[], []⟩ i).2 = 0 ∧ r.2 = (rget d p i).1 + (rget d ⟨[], []⟩ i).1) } => ⟨[(0, true, .fn (.yield y.yl) [] []), (1, true, .dp [.d (.int .i64 g.guest), .d (.int .i64 g.host)]), (2, true, .dp [.d (.sl 1 (p.targets.map intD)), .d (.sl 1 (p.texts.map strD))]), (3, true, .dp [.d (.str d.data), .d (.sl 2 (d.cache.map putD)), .d (.int .i64 d.fuse), .d (.bool d.off), .d (.sl 1 (d.bad.map intD))]), (5, true, .d (.int .i64 i)), (6, true, .d (.int .i64 r.1.2)), (12, true, .d (.int .i64 g.host)), (13, true, .d (.int .i64 i)), (18, true, .osl 100 2 2 0 2), (19, true, .d (.int .i64 2)), (20, true, .d (.int .i64 r.1.1))], [(100, .arr 2 [[.sl 1 (p.targets.map intD), .sl 1 (p.texts.map strD)], [.sl 1 [], .sl 1 []]])], some xs⟩) (fun r => 2 - r.1.1) ⟨(0, 0), .inl ⟨rfl, rfl⟩⟩ (by simp only [AS.le, leT, leH, zr, AsgK, AV.le, AV.leL, AObj.le, inH, idsT, idsH, AV.ids, AV.idsL, AV.idsR, AObj.ids, lk, hget, go_sem, aeq, aeq.aeqF, simprocAttr] <;> and_intros <;> rfl) (fun r => ?_)
  obtain ⟨⟨j, n⟩, hj⟩ := r
  simp only at hj ⊢
  have hc0 : ((0 : Nat) : Int) = 0 := rfl
  have hc1 : ((1 : Nat) : Int) = 1 := rfl
  have hc2 : ((2 : Nat) : Int) = 2 := rfl
  have ht1 : Int.toNat 1 = 1 := rfl
  have hw1 : IntKind.i64.wrap 1 = 1 := by decide
  have hw2 : IntKind.i64.wrap 2 = 2 := by decide
  rcases hj with ⟨rfl, rfl⟩ | ⟨rfl, he1, rfl⟩ | ⟨rfl, he1, he2, rfl⟩
  ·by_cases he : (rget d p i).2 = 0
   ·have hb : ((rget d p i).2 != 0) = false := by simpa using he
    have hwn : IntKind.i64.wrap (0 + (rget d p i).1) = (rget d p i).1 := by rw [Int.zero_add]; exact zD (by omega) (by omega)
    repeat' (first | (refine zL (fun i => decide (i < 100)) (by simp only [inH, idsH, hsel, AV.ids, AV.idsL, AV.idsR, AObj.ids, hget, go_sem, aeq, aeq.aeqF, simprocAttr]) ?_; simp only [go_sem, aeq, aeq.aeqF, simprocAttr, hc0, hb, hwn, hsel, keepT]; refine zn ?_; simp only [go_sem, aeq, aeq.aeqF, simprocAttr, hc0, hb, hwn]) | ((first | refine zu tab9p (zaz) (fun K hK => ?_) | refine zB tab9p (zaz) ?_ | refine zh ?_ | refine zi ?_ | refine zn ?_); simp only [go_sem, aeq, aeq.aeqF, simprocAttr, hc0, hb, hwn]) | refine zq (fun K hK => ?_) | refine zp ?_ | refine zf rfl ?_ | refine zg rfl ?_ | refine zo rfl (fun hc => ?_) (fun hc => ?_) | (refine hK _ ?_; clear hK K) | ((first | refine (show AS.le _ _ from ?_) | refine (show leH _ _ from ?_) | refine (show inH _ _ from ?_)); simp only [AS.le, leT, leH, zr, AsgK, AV.le, AV.leL, AObj.le, inH, idsT, idsH, AV.ids, AV.idsL, AV.idsR, AObj.ids, lk, hget, go_sem, aeq, aeq.aeqF, simprocAttr, hc0, hb, hwn]) | refine fun (r2 : Rnd _) => ?_ | with_reducible refine And.intro ?_ ?_ | exact ‹_ <+: _› | omega | assumption | refine fun (hg : (_ : Bool) = (_ : Bool)) => ?_ | clear hK K)
    exact ⟨⟨(1, (rget d p i).1), .inr (.inl ⟨rfl, he, rfl⟩)⟩, by simp only [AS.le, leT, leH, zr, AsgK, AV.le, AV.leL, AObj.le, inH, idsT, idsH, AV.ids, AV.idsL, AV.idsR, AObj.ids, lk, hget, go_sem, aeq, aeq.aeqF, simprocAttr, hw1] <;> and_intros <;> rfl, by simp⟩
   ·have hb : ((rget d p i).2 != 0) = true := by simpa using he
    rw [if_pos (by simpa using he)] at hf
    have hpr : (xs ++ [[.d (.int .i64 0), .d (.int .i64 (rget d p i).2)]]) <+: (freeL d p g.host.toNat 0).map freeI := ⟨[], by rw [← hf]; simp [freeI]⟩
    repeat' (first | (refine zL (fun i => decide (i < 100)) (by simp only [inH, idsH, hsel, AV.ids, AV.idsL, AV.idsR, AObj.ids, hget, go_sem, aeq, aeq.aeqF, simprocAttr]) ?_; simp only [go_sem, aeq, aeq.aeqF, simprocAttr, hc0, hb, hsel, keepT]; refine zn ?_; simp only [go_sem, aeq, aeq.aeqF, simprocAttr, hc0, hb]) | ((first | refine zu tab9p (zaz) (fun K hK => ?_) | refine zB tab9p (zaz) ?_ | refine zh ?_ | refine zi ?_ | refine zn ?_); simp only [go_sem, aeq, aeq.aeqF, simprocAttr, hc0, hb]) | refine zq (fun K hK => ?_) | refine zp ?_ | refine zf rfl ?_ | refine zg rfl ?_ | refine zo rfl (fun hc => ?_) (fun hc => ?_) | (refine hK _ ?_; clear hK K) | ((first | refine (show AS.le _ _ from ?_) | refine (show leH _ _ from ?_) | refine (show inH _ _ from ?_)); simp only [AS.le, leT, leH, zr, AsgK, AV.le, AV.leL, AObj.le, inH, idsT, idsH, AV.ids, AV.idsL, AV.idsR, AObj.ids, lk, hget, go_sem, aeq, aeq.aeqF, simprocAttr, hc0, hb]) | refine fun (r2 : Rnd _) => ?_ | with_reducible refine And.intro ?_ ?_ | exact ‹_ <+: _› | omega | assumption | refine fun (hg : (_ : Bool) = (_ : Bool)) => ?_ | clear hK K)
    rintro zs rfl
    rw [← hf]
    simp [freeI]
  ·by_cases he : (rget d ⟨[], []⟩ i).2 = 0
   ·have hb : ((rget d ⟨[], []⟩ i).2 != 0) = false := by simpa using he
    have hwn : IntKind.i64.wrap ((rget d p i).1 + (rget d ⟨[], []⟩ i).1) = (rget d p i).1 + (rget d ⟨[], []⟩ i).1 := zD (by omega) (by omega)
    repeat' (first | (refine zL (fun i => decide (i < 100)) (by simp only [inH, idsH, hsel, AV.ids, AV.idsL, AV.idsR, AObj.ids, hget, go_sem, aeq, aeq.aeqF, simprocAttr]) ?_; simp only [go_sem, aeq, aeq.aeqF, simprocAttr, hc1, ht1, hb, hwn, hsel, keepT]; refine zn ?_; simp only [go_sem, aeq, aeq.aeqF, simprocAttr, hc1, ht1, hb, hwn]) | ((first | refine zu tab9p (zaz) (fun K hK => ?_) | refine zB tab9p (zaz) ?_ | refine zh ?_ | refine zi ?_ | refine zn ?_); simp only [go_sem, aeq, aeq.aeqF, simprocAttr, hc1, ht1, hb, hwn]) | refine zq (fun K hK => ?_) | refine zp ?_ | refine zf rfl ?_ | refine zg rfl ?_ | refine zo rfl (fun hc => ?_) (fun hc => ?_) | (refine hK _ ?_; clear hK K) | ((first | refine (show AS.le _ _ from ?_) | refine (show leH _ _ from ?_) | refine (show inH _ _ from ?_)); simp only [AS.le, leT, leH, zr, AsgK, AV.le, AV.leL, AObj.le, inH, idsT, idsH, AV.ids, AV.idsL, AV.idsR, AObj.ids, lk, hget, go_sem, aeq, aeq.aeqF, simprocAttr, hc1, ht1, hb, hwn]) | refine fun (r2 : Rnd _) => ?_ | with_reducible refine And.intro ?_ ?_ | exact ‹_ <+: _› | omega | assumption | refine fun (hg : (_ : Bool) = (_ : Bool)) => ?_ | clear hK K)
    exact ⟨⟨(2, (rget d p i).1 + (rget d ⟨[], []⟩ i).1), .inr (.inr ⟨rfl, he1, he, rfl⟩)⟩, by simp only [AS.le, leT, leH, zr, AsgK, AV.le, AV.leL, AObj.le, inH, idsT, idsH, AV.ids, AV.idsL, AV.idsR, AObj.ids, lk, hget, go_sem, aeq, aeq.aeqF, simprocAttr, hw2] <;> and_intros <;> rfl, by simp⟩
   ·have hb : ((rget d ⟨[], []⟩ i).2 != 0) = true := by simpa using he
    rw [if_neg (by rw [he1]; decide), if_pos (by simpa using he)] at hf
    have hpr : (xs ++ [[.d (.int .i64 0), .d (.int .i64 (rget d ⟨[], []⟩ i).2)]]) <+: (freeL d p g.host.toNat 0).map freeI := ⟨[], by rw [← hf]; simp [freeI]⟩
    repeat' (first | (refine zL (fun i => decide (i < 100)) (by simp only [inH, idsH, hsel, AV.ids, AV.idsL, AV.idsR, AObj.ids, hget, go_sem, aeq, aeq.aeqF, simprocAttr]) ?_; simp only [go_sem, aeq, aeq.aeqF, simprocAttr, hc1, ht1, hb, hsel, keepT]; refine zn ?_; simp only [go_sem, aeq, aeq.aeqF, simprocAttr, hc1, ht1, hb]) | ((first | refine zu tab9p (zaz) (fun K hK => ?_) | refine zB tab9p (zaz) ?_ | refine zh ?_ | refine zi ?_ | refine zn ?_); simp only [go_sem, aeq, aeq.aeqF, simprocAttr, hc1, ht1, hb]) | refine zq (fun K hK => ?_) | refine zp ?_ | refine zf rfl ?_ | refine zg rfl ?_ | refine zo rfl (fun hc => ?_) (fun hc => ?_) | (refine hK _ ?_; clear hK K) | ((first | refine (show AS.le _ _ from ?_) | refine (show leH _ _ from ?_) | refine (show inH _ _ from ?_)); simp only [AS.le, leT, leH, zr, AsgK, AV.le, AV.leL, AObj.le, inH, idsT, idsH, AV.ids, AV.idsL, AV.idsR, AObj.ids, lk, hget, go_sem, aeq, aeq.aeqF, simprocAttr, hc1, ht1, hb]) | refine fun (r2 : Rnd _) => ?_ | with_reducible refine And.intro ?_ ?_ | exact ‹_ <+: _› | omega | assumption | refine fun (hg : (_ : Bool) = (_ : Bool)) => ?_ | clear hK K)
    rintro zs rfl
    rw [← hf]
    simp [freeI]
  ·rw [if_neg (by rw [he1]; decide), if_neg (by rw [he2]; decide)] at hf
   by_cases hz1 : (rget d p i).1 = 0 ∧ (rget d ⟨[], []⟩ i).1 = 0
   ·have hb : ((rget d p i).1 + (rget d ⟨[], []⟩ i).1 == 0) = true := by rw [beq_iff_eq]; omega
    rw [if_pos hz1] at hf
    have hpr : (xs ++ [[.d (.int .i64 i), .d (.int .i64 0)]]) <+: (freeL d p g.host.toNat 0).map freeI := ⟨(freeL d p (g.host.toNat - (i + 1)) (i + 1)).map freeI, by rw [← hf]; simp [freeI]⟩
    repeat' (first | (refine zL (fun i => decide (i < 100)) (by simp only [inH, idsH, hsel, AV.ids, AV.idsL, AV.idsR, AObj.ids, hget, go_sem, aeq, aeq.aeqF, simprocAttr]) ?_; simp only [go_sem, aeq, aeq.aeqF, simprocAttr, hc2, hb, hsel, keepT]; refine zn ?_; simp only [go_sem, aeq, aeq.aeqF, simprocAttr, hc2, hb]) | ((first | refine zu tab9p (zaz) (fun K hK => ?_) | refine zB tab9p (zaz) ?_ | refine zh ?_ | refine zi ?_ | refine zn ?_); simp only [go_sem, aeq, aeq.aeqF, simprocAttr, hc2, hb]) | refine zq (fun K hK => ?_) | refine zp ?_ | refine zf rfl ?_ | refine zg rfl ?_ | refine zo rfl (fun hc => ?_) (fun hc => ?_) | (refine hK _ ?_; clear hK K) | ((first | refine (show AS.le _ _ from ?_) | refine (show leH _ _ from ?_) | refine (show inH _ _ from ?_)); simp only [AS.le, leT, leH, zr, AsgK, AV.le, AV.leL, AObj.le, inH, idsT, idsH, AV.ids, AV.idsL, AV.idsR, AObj.ids, lk, hget, go_sem, aeq, aeq.aeqF, simprocAttr, hc2, hb]) | refine fun (r2 : Rnd _) => ?_ | with_reducible refine And.intro ?_ ?_ | exact ‹_ <+: _› | omega | assumption | refine fun (hg : (_ : Bool) = (_ : Bool)) => ?_ | clear hK K)
    exact ⟨⟨(i + 1, xs ++ [freeI (i, 0)]), by show ((i + 1 : Nat) : Int) ≤ _; omega, by rw [← hf]; simp [freeI]⟩, by simp only [AS.le, leT, leH, zr, AsgK, AV.le, AV.leL, AObj.le, inH, idsT, idsH, AV.ids, AV.idsL, AV.idsR, AObj.ids, lk, hget, go_sem, aeq, aeq.aeqF, simprocAttr, hwi, freeI], by simp; omega⟩
   ·have hb : ((rget d p i).1 + (rget d ⟨[], []⟩ i).1 == 0) = false := by rw [beq_eq_false_iff_ne]; omega
    rw [if_neg hz1] at hf
    repeat' (first | (refine zL (fun i => decide (i < 100)) (by simp only [inH, idsH, hsel, AV.ids, AV.idsL, AV.idsR, AObj.ids, hget, go_sem, aeq, aeq.aeqF, simprocAttr]) ?_; simp only [go_sem, aeq, aeq.aeqF, simprocAttr, hc2, hb, hsel, keepT]; refine zn ?_; simp only [go_sem, aeq, aeq.aeqF, simprocAttr, hc2, hb]) | ((first | refine zu tab9p (zaz) (fun K hK => ?_) | refine zB tab9p (zaz) ?_ | refine zh ?_ | refine zi ?_ | refine zn ?_); simp only [go_sem, aeq, aeq.aeqF, simprocAttr, hc2, hb]) | refine zq (fun K hK => ?_) | refine zp ?_ | refine zf rfl ?_ | refine zg rfl ?_ | refine zo rfl (fun hc => ?_) (fun hc => ?_) | (refine hK _ ?_; clear hK K) | ((first | refine (show AS.le _ _ from ?_) | refine (show leH _ _ from ?_) | refine (show inH _ _ from ?_)); simp only [AS.le, leT, leH, zr, AsgK, AV.le, AV.leL, AObj.le, inH, idsT, idsH, AV.ids, AV.idsL, AV.idsR, AObj.ids, lk, hget, go_sem, aeq, aeq.aeqF, simprocAttr, hc2, hb]) | refine fun (r2 : Rnd _) => ?_ | with_reducible refine And.intro ?_ ?_ | exact ‹_ <+: _› | omega | assumption | refine fun (hg : (_ : Bool) = (_ : Bool)) => ?_ | clear hK K)
    exact ⟨⟨(i + 1, xs), by show ((i + 1 : Nat) : Int) ≤ _; omega, by rw [← hf]; simp⟩, by simp only [AS.le, leT, leH, zr, AsgK, AV.le, AV.leL, AObj.le, inH, idsT, idsH, AV.ids, AV.idsL, AV.idsR, AObj.ids, lk, hget, go_sem, aeq, aeq.aeqF, simprocAttr, hwi], by simp; omega⟩
 ·have hcmp : decide ((i : Int) < g.host) = false := decide_eq_false hlt
  repeat' (first | (refine zL (fun i => decide (i < 100)) (by simp only [inH, idsH, hsel, AV.ids, AV.idsL, AV.idsR, AObj.ids, hget, go_sem, aeq, aeq.aeqF, simprocAttr]) ?_; simp only [go_sem, aeq, aeq.aeqF, simprocAttr, hcmp, hsel, keepT]; refine zn ?_; simp only [go_sem, aeq, aeq.aeqF, simprocAttr, hcmp]) | ((first | refine zu tab9p (zaz) (fun K hK => ?_) | refine zB tab9p (zaz) ?_ | refine zh ?_ | refine zi ?_ | refine zn ?_); simp only [go_sem, aeq, aeq.aeqF, simprocAttr, hcmp]) | refine zq (fun K hK => ?_) | refine zp ?_ | refine zf rfl ?_ | refine zg rfl ?_ | refine zo rfl (fun hc => ?_) (fun hc => ?_) | (refine hK _ ?_; clear hK K) | ((first | refine (show AS.le _ _ from ?_) | refine (show leH _ _ from ?_) | refine (show inH _ _ from ?_)); simp only [AS.le, leT, leH, zr, AsgK, AV.le, AV.leL, AObj.le, inH, idsT, idsH, AV.ids, AV.idsL, AV.idsR, AObj.ids, lk, hget, go_sem, aeq, aeq.aeqF, simprocAttr, hcmp]) | refine fun (r2 : Rnd _) => ?_ | with_reducible refine And.intro ?_ ?_ | exact ‹_ <+: _› | omega | assumption | refine fun (hg : (_ : Bool) = (_ : Bool)) => ?_ | clear hK K)
  rintro zs rfl
  rw [← hf, show g.host.toNat - i = 0 by omega]
  simp [freeL]
noncomputable def tab9r : Tab := tabOf [zfC]
theorem zaA : TabOk Tryz.prog tab9r := zA _
@[go_sem] theorem zqx (args : List AV) : tab9r 185 args = (zfC).e args := rfl
theorem zsd (d : Disk) (p : Plan) (g : Geom) (h : DP d p) (hg : g.host ≤ 1000000) : ACall Tryz.prog 151 0 [diskA d, planA p, geomA g] [] (fun r _ => r = .tup [.d (.int .i64 (rfind d p g).1), .d (.int .i64 (rfind d p g).2)]) := by
 refine zz ?_
 refine zk Tryz.func151 rfl (zv Tryz.func151 (by kernel_rfl) rfl) Tryz.ntmps151 (by simp) (fun base => ?_)
 repeat' (first | ((first | refine za tab9r (zaA) (fun K hK => ?_) | refine zc tab9r (zaA) ?_ | refine ze tab9r (zaA) mx (fun K hK => ?_) | refine zj tab9r (zaA) mx ?_ | refine zh ?_ | refine zi ?_ | refine zn ?_ | refine zaj ?_); simp only [go_sem, aeq, aeq.aeqF, simprocAttr, Tryz.results151]) | refine zq (fun K hK => ?_) | refine zp ?_ | refine zal ?_ | (refine hK _ ?_; clear hK K) | ((first | refine (show AS.le _ _ from ?_) | refine (show leH _ _ from ?_) | refine (show inH _ _ from ?_)); simp only [AS.le, leT, leH, zr, AsgK, AV.le, AV.leL, AObj.le, inH, idsT, idsH, AV.ids, AV.idsL, AV.idsR, AObj.ids, lk, hget, go_sem, aeq, aeq.aeqF, simprocAttr]) | refine fun (r2 : Rnd _) => ?_ | with_reducible refine And.intro ?_ ?_ | exact ‹_ <+: _› | (refine (show zt _ _ = true from ?_); kernel_rfl) | omega | assumption | clear hK K)
 have hrf : rfind d p g = (freeL d p g.host.toNat 0).headD (0, 17) := zg5 d p _ _
 obtain ⟨I, hI⟩ : ∃ I : List (List AV) → AHeap × Option (List (List AV)), I = fun xs => ([(4, .var [.d (.int .i64 17)]), (3, .var [.d (.int .i64 0)]), (2, .var [.d (.int .i64 g.guest), .d (.int .i64 g.host)]), (1, (.var [.d (.sl 1 (p.targets.map intD)), .d (.sl 1 (p.texts.map strD))])), (0, (.var [.d (.str d.data), .d (.sl 2 (d.cache.map putD)), .d (.int .i64 d.fuse), .d (.bool d.off), .d (.sl 1 (d.bad.map intD))]))], some []) := ⟨_, rfl⟩
 obtain ⟨G, hG⟩ : ∃ G : List (List AV) → Prop, G = fun xs => (xs ≠ [] → False) := ⟨_, rfl⟩
 obtain ⟨J, hJ⟩ : ∃ J : Code → AHeap → Option (List (List AV)) → Prop, J = fun c h gg => c = .exit 0 ∧ gg = some [] ∧ h = [(4, .var [.d (.int .i64 (rfind d p g).2)]), (3, .var [.d (.int .i64 (rfind d p g).1)]), (2, .var [.d (.int .i64 g.guest), .d (.int .i64 g.host)]), (1, (.var [.d (.sl 1 (p.targets.map intD)), .d (.sl 1 (p.texts.map strD))])), (0, (.var [.d (.str d.data), .d (.sl 2 (d.cache.map putD)), .d (.int .i64 d.fuse), .d (.bool d.off), .d (.sl 1 (d.bad.map intD))]))] := ⟨_, rfl⟩
 refine zaY 100 G I J (zkF d p g h hg) (by simp only [go_sem, aeq, aeq.aeqF, simprocAttr]) rfl (zS rfl) (by simp [cxOf, cxY]) rfl (by rw [hG]; first | trivial | rfl | simp) (by rw [hI]; simp only [AS.le, leT, leH, zr, AsgK, AV.le, AV.leL, AObj.le, inH, idsT, idsH, AV.ids, AV.idsL, AV.idsR, AObj.ids, lk, hget, go_sem, aeq, aeq.aeqF, simprocAttr] <;> simp [AV.leL, AV.le]) (by rw [hI]; simp only [AS.le, leT, leH, zr, AsgK, AV.le, AV.leL, AObj.le, inH, idsT, idsH, AV.ids, AV.idsL, AV.idsR, AObj.ids, lk, hget, go_sem, aeq, aeq.aeqF, simprocAttr] <;> simp) (by rw [hI] <;> rfl) (by intro x hx; obtain ⟨q, _, rfl⟩ := List.mem_map.1 hx; rfl) (by intro t ht; simp at ht; first | (rcases ht with rfl | rfl <;> simp [cxOf, cxY] <;> done) | (subst ht; simp [cxOf, cxY])) ?_ ?_ ?_
 ·intro xs x hpre hgd l1 r1
  rw [hG] at hgd
  obtain rfl : xs = [] := Classical.byContradiction hgd
  obtain ⟨ys, ⟨a, e⟩, zs, hys, rfl, hzl⟩ := zcL hpre
  have hys0 : ys = [] := by cases ys with | nil => rfl | cons q r => simp at hys
  subst hys0
  have hfe : rfind d p g = (a, e) := by rw [hrf, hzl]; rfl
  simp only [freeI]
  refine aw_le ⟨[(14, true, .d (.int .i64 a)), (15, true, .d (.int .i64 e)), (8, true, .vp 3 0), (9, true, .vp 4 0)], [(4, .var [.d (.int .i64 17)]), (3, .var [.d (.int .i64 0)]), (2, .var [.d (.int .i64 g.guest), .d (.int .i64 g.host)]), (1, (.var [.d (.sl 1 (p.targets.map intD)), .d (.sl 1 (p.texts.map strD))])), (0, (.var [.d (.str d.data), .d (.sl 2 (d.cache.map putD)), .d (.int .i64 d.fuse), .d (.bool d.off), .d (.sl 1 (d.bad.map intD))]))], some []⟩ (by rw [hI]; simp only [AS.le, leT, leH, zr, AsgK, AV.le, AV.leL, AObj.le, inH, idsT, idsH, AV.ids, AV.idsL, AV.idsR, AObj.ids, lk, hget, go_sem, aeq, aeq.aeqF, simprocAttr]) ?_
  repeat' (first | ((first | refine za tab9r (zaA) (fun K hK => ?_) | refine zc tab9r (zaA) ?_ | refine ze tab9r (zaA) mx (fun K hK => ?_) | refine zj tab9r (zaA) mx ?_ | refine zh ?_ | refine zi ?_ | refine zn ?_ | refine zaj ?_); simp only [go_sem, aeq, aeq.aeqF, simprocAttr, hI, Tryz.results151]) | refine zq (fun K hK => ?_) | refine zp ?_ | refine zal ?_ | (refine hK _ ?_; clear hK K) | ((first | refine (show AS.le _ _ from ?_) | refine (show leH _ _ from ?_) | refine (show inH _ _ from ?_)); simp only [AS.le, leT, leH, zr, AsgK, AV.le, AV.leL, AObj.le, inH, idsT, idsH, AV.ids, AV.idsL, AV.idsR, AObj.ids, lk, hget, go_sem, aeq, aeq.aeqF, simprocAttr, hI]) | refine fun (r2 : Rnd _) => ?_ | with_reducible refine And.intro ?_ ?_ | exact ‹_ <+: _› | (refine (show zt _ _ = true from ?_); kernel_rfl) | omega | assumption | clear hK K)
  rw [hJ, hfe]
  exact ⟨rfl, rfl, rfl⟩
 ·intro hgd
  rw [hG] at hgd
  have hgd := Classical.byContradiction hgd
  rw [hI]
  repeat' (first | ((first | refine za tab9r (zaA) (fun K hK => ?_) | refine zc tab9r (zaA) ?_ | refine ze tab9r (zaA) mx (fun K hK => ?_) | refine zj tab9r (zaA) mx ?_ | refine zh ?_ | refine zi ?_ | refine zn ?_ | refine zaj ?_); simp only [go_sem, aeq, aeq.aeqF, simprocAttr, Tryz.results151]) | refine zq (fun K hK => ?_) | refine zp ?_ | refine zal ?_ | (refine hK _ ?_; clear hK K) | ((first | refine (show AS.le _ _ from ?_) | refine (show leH _ _ from ?_) | refine (show inH _ _ from ?_)); simp only [AS.le, leT, leH, zr, AsgK, AV.le, AV.leL, AObj.le, inH, idsT, idsH, AV.ids, AV.idsL, AV.idsR, AObj.ids, lk, hget, go_sem, aeq, aeq.aeqF, simprocAttr]) | refine fun (r2 : Rnd _) => ?_ | with_reducible refine And.intro ?_ ?_ | exact ‹_ <+: _› | (refine (show zt _ _ = true from ?_); kernel_rfl) | omega | assumption | clear hK K)
  have hfl : freeL d p g.host.toNat 0 = [] := by simpa using hgd
  rw [hrf, hfl]
  rfl
 ·rw [hJ]
  rintro c h3 g3 ⟨rfl, rfl, rfl⟩
  repeat' (first | ((first | refine za tab9r (zaA) (fun K hK => ?_) | refine zc tab9r (zaA) ?_ | refine ze tab9r (zaA) mx (fun K hK => ?_) | refine zj tab9r (zaA) mx ?_ | refine zh ?_ | refine zi ?_ | refine zn ?_ | refine zaj ?_); simp only [go_sem, aeq, aeq.aeqF, simprocAttr, Tryz.results151]) | refine zq (fun K hK => ?_) | refine zp ?_ | refine zal ?_ | (refine hK _ ?_; clear hK K) | ((first | refine (show AS.le _ _ from ?_) | refine (show leH _ _ from ?_) | refine (show inH _ _ from ?_)); simp only [AS.le, leT, leH, zr, AsgK, AV.le, AV.leL, AObj.le, inH, idsT, idsH, AV.ids, AV.idsL, AV.idsR, AObj.ids, lk, hget, go_sem, aeq, aeq.aeqF, simprocAttr]) | refine fun (r2 : Rnd _) => ?_ | with_reducible refine And.intro ?_ ?_ | exact ‹_ <+: _› | (refine (show zt _ _ = true from ?_); kernel_rfl) | omega | assumption | clear hK K)
noncomputable def zfD : Ent Tryz.prog := .ofL 151 (consL zN (consL zT (consL zgV nilL))) (fun (d, p, g, _) => (DP d p) ∧ (g.host ≤ 1000000)) (fun (d, p, g, _) => .tup [.d (.int .i64 (rfind d p g).1), .d (.int .i64 (rfind d p g).2)]) (fun (d, p, g, _) hp => ⟨rfl, zsd d p g hp.1 hp.2⟩)
attribute [go_sem] zfD
noncomputable def tab9q : Tab := tabOf [zfD, zb3]
theorem zlL : TabOk Tryz.prog tab9q := zA _
@[go_sem] theorem zqy (args : List AV) : tab9q 151 args = (zfD).e args := rfl
@[go_sem] theorem zpT (args : List AV) : tab9q 152 args = (zb3).e args := rfl
theorem zse (d : Disk) (p : Plan) (g : Geom) (h : DP d p) (hg : g.host ≤ 1000000) : ACall Tryz.prog 95 0 [diskA d, planA p, geomA g] [] (fun r _ => r = .tup [planA (rtake d p g).1, .d (.int .i64 (rtake d p g).2.1), .d (.int .i64 (rtake d p g).2.2)]) := by
 refine zz ?_
 refine zk Tryz.func95 rfl (zv Tryz.func95 (by kernel_rfl) rfl) Tryz.ntmps95 (by simp) (fun base => ?_)
 repeat' (first | ((first | refine za tab9q (zlL) (fun K hK => ?_) | refine zc tab9q (zlL) ?_ | refine zh ?_ | refine zi ?_ | refine zn ?_); simp only [go_sem, aeq, aeq.aeqF, simprocAttr, Tryz.results95]) | refine zq (fun K hK => ?_) | refine zf rfl ?_ | refine zg rfl ?_ | refine zo rfl (fun hc => ?_) (fun hc => ?_) | (refine hK _ ?_; clear hK K) | with_reducible refine And.intro ?_ ?_ | omega | assumption | clear hK K)
 all_goals simp_all [rtake]
noncomputable def zcD : Ent Tryz.prog := .ofL 95 (consL zN (consL zT (consL zgV nilL))) (fun (d, p, g, _) => (DP d p) ∧ (g.host ≤ 1000000)) (fun (d, p, g, _) => .tup [planA (rtake d p g).1, .d (.int .i64 (rtake d p g).2.1), .d (.int .i64 (rtake d p g).2.2)]) (fun (d, p, g, _) hp => ⟨rfl, zse d p g hp.1 hp.2⟩)
attribute [go_sem] zcD
end Go.Aw
