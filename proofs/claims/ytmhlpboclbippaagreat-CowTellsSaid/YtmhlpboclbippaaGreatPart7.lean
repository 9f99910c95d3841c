/-
  Parts of the proof: RefcB, RootA, TabA, TabB, TabC, TabD, PointA, PointB, PointC, PointD, PointE, PointF, PointG, CowA, CowB, CowC, CowD (short names; the readable texts lie in the repo, under wip).
-/
import Derived.Test.YtmhlpboclbippaaGreatPart6
import Derived.Test.YtmhlpboclbippaaGreatPart4
import Derived.Test.YtmhlpboclbippaaGreatPart5
set_option maxRecDepth 100000
set_option maxHeartbeats 2000000
set_option linter.unusedSimpArgs false
set_option linter.unusedVariables false
namespace Go.Aw
open Go Go.Proofs
noncomputable def tab8p : Tab := tabOf [zeY, zaC, zbZ]
theorem zec : TabOk Tryz.prog tab8p := zz _
@[go_sem] theorem zt8 (args : List AV) : tab8p 158 args = (zeY).e args := rfl
@[go_sem] theorem zrx (args : List AV) : tab8p 130 args = (zaC).e args := rfl
@[go_sem] theorem ztn (args : List AV) : tab8p 131 args = (zbZ).e args := rfl
theorem zqE (d : Disk) (p : Plan) (k : Int) (h : DP d p) : ACall Tryz.prog 99 0 [diskA d, planA p, .d (.int .i64 k)] [] (fun r _ => r = .tup [.d (.int .i64 (rget d p k).1), .d (.int .i64 (rget d p k).2)]) := by
 refine zk Tryz.func99 rfl (zu Tryz.func99 (by kernel_rfl) rfl) Tryz.ntmps99 (by simp) (fun base => ?_)
 have h1 := h.dok
 have h2 := h.pok
 have h3 := h.plen
 by_cases hk : zR k = true
 ·have hdec : (!zR k) = false := by rw [hk]; rfl
  obtain ⟨hk0, hk1⟩ := hostOk_iff.1 hk
  by_cases he : (plook d p (87 + k / 32)).2 = 0
  ·have hb : ((plook d p (87 + k / 32)).2 != 0) = false := by simpa using he
   have h64 := ze4 h he
   have hts := zhm (s := ((plook d p (87 + k / 32)).1.drop (2 * (k % 32)).toNat)) (z := 2) 2 rfl (by omega) (by omega) (by rw [List.length_drop]; omega)
   have hr := zd8 d p k
   have hrg : rget d p k = (((takeN (((plook d p (87 + k / 32)).1.drop (2 * (k % 32)).toNat).take 2) : Nat) : Int), 0) := by
    rw [rget, if_neg (by rw [hdec]; exact Bool.false_ne_true), if_neg (by simpa using he)]
   have hwr : IntKind.i64.wrap (rget d p k).1 = (rget d p k).1 := zD (by omega) (by omega)
   rw [hrg] at hwr
   simp only at hwr
   have hld : ((plook d p (87 + k / 32)).1.drop (2 * (k % 32)).toNat).length ≤ 64 := by rw [List.length_drop]; omega
   have htk : List.take (plook d p (87 + k / 32)).1.length (plook d p (87 + k / 32)).1 = (plook d p (87 + k / 32)).1 := List.take_length
   repeat' (first | ((first | refine za tab8p (zec) (fun K hK => ?_) | refine zc tab8p (zec) ?_ | refine zh ?_ | refine zi ?_ | refine zn ?_); simp only [go_sem, aeq, aeq.aeqF, simprocAttr, zbd, hdec, hb, hts, hwr, htk, Tryz.results99]) | refine zq (fun K hK => ?_) | refine zf rfl ?_ | refine zg rfl ?_ | refine zp rfl (fun hc => ?_) (fun hc => ?_) | (refine hK _ ?_; clear hK K) | with_reducible refine And.intro ?_ ?_ | omega | assumption | refine fun (hg : (_ : Bool) = (_ : Bool)) => ?_ | clear hK K)
   rw [hrg]
  ·have hb : ((plook d p (87 + k / 32)).2 != 0) = true := by simpa using he
   repeat' (first | ((first | refine za tab8p (zec) (fun K hK => ?_) | refine zc tab8p (zec) ?_ | refine zh ?_ | refine zi ?_ | refine zn ?_); simp only [go_sem, aeq, aeq.aeqF, simprocAttr, zbd, hdec, hb, Tryz.results99]) | refine zq (fun K hK => ?_) | refine zf rfl ?_ | refine zg rfl ?_ | refine zp rfl (fun hc => ?_) (fun hc => ?_) | (refine hK _ ?_; clear hK K) | with_reducible refine And.intro ?_ ?_ | omega | assumption | refine fun (hg : (_ : Bool) = (_ : Bool)) => ?_ | clear hK K)
   rw [rget, if_neg (by rw [hdec]; exact Bool.false_ne_true), if_pos he]
 ·have hdec : (!zR k) = true := by simpa using hk
  repeat' (first | ((first | refine za tab8p (zec) (fun K hK => ?_) | refine zc tab8p (zec) ?_ | refine zh ?_ | refine zi ?_ | refine zn ?_); simp only [go_sem, aeq, aeq.aeqF, simprocAttr, zbd, hdec, Tryz.results99]) | refine zq (fun K hK => ?_) | refine zf rfl ?_ | refine zg rfl ?_ | refine zp rfl (fun hc => ?_) (fun hc => ?_) | (refine hK _ ?_; clear hK K) | with_reducible refine And.intro ?_ ?_ | omega | assumption | refine fun (hg : (_ : Bool) = (_ : Bool)) => ?_ | clear hK K)
  rw [rget, if_pos hdec]
noncomputable def zaK : Ent Tryz.prog := .ofL 99 (consL zM (consL zU (consL (intT .i64) nilL))) (fun (d, p, k, _) => DP d p) (fun (d, p, k, _) => .tup [.d (.int .i64 (rget d p k).1), .d (.int .i64 (rget d p k).2)]) (fun (d, p, k, _) hp => ⟨rfl, zqE d p k hp⟩)
attribute [go_sem] zaK
noncomputable def tab8q : Tab := tabOf [zaK, zeY, zbO, zb3]
theorem za6 : TabOk Tryz.prog tab8q := zz _
@[go_sem] theorem zqF (args : List AV) : tab8q 99 args = (zaK).e args := rfl
@[go_sem] theorem zt9 (args : List AV) : tab8q 158 args = (zeY).e args := rfl
@[go_sem] theorem zua (args : List AV) : tab8q 184 args = (zbO).e args := rfl
@[go_sem] theorem zqG (args : List AV) : tab8q 186 args = (zb3).e args := rfl
theorem zqH (d : Disk) (p : Plan) (k : Int) (by_ : Int) (h : DP d p) : ACall Tryz.prog 152 0 [diskA d, planA p, .d (.int .i64 k), .d (.int .i64 by_)] [] (fun r _ => r = .tup [planA (radd d p k by_).1, .d (.int .i64 (radd d p k by_).2)]) := by
 refine zA ?_
 refine zk Tryz.func152 rfl (zu Tryz.func152 (by kernel_rfl) rfl) Tryz.ntmps152 (by simp) (fun base => ?_)
 have h1 := h.dok
 have h2 := h.puts
 have h3 := h.p
 have hr := zd8 d p k
 by_cases he : (rget d p k).2 = 0
 ·have hb : ((rget d p k).2 != 0) = false := by simpa using he
  obtain ⟨hk0, hk1⟩ := zkO he
  have hw1 : IntKind.i64.wrap (0 - (rget d p k).1) = -(rget d p k).1 := by rw [zD (by omega) (by omega)]; omega
  have hw2 : IntKind.i64.wrap (65535 - (rget d p k).1) = 65535 - (rget d p k).1 := zD (by omega) (by omega)
  by_cases hc : by_ < -(rget d p k).1 ∨ 65535 - (rget d p k).1 < by_
  ·have hdec : (decide (by_ < -(rget d p k).1) || decide (65535 - (rget d p k).1 < by_)) = true := by simpa using hc
   repeat' (first | ((first | refine za tab8q (za6) (fun K hK => ?_) | refine zc tab8q (za6) ?_ | refine ze tab8q (za6) mx (fun K hK => ?_) | refine zj tab8q (za6) mx ?_ | refine zh ?_ | refine zi ?_ | refine zn ?_); simp only [go_sem, aeq, aeq.aeqF, simprocAttr, hb, hw1, hw2, hdec, Tryz.results152]) | refine zq (fun K hK => ?_) | refine zo ?_ | refine zf rfl ?_ | refine zg rfl ?_ | refine zp rfl (fun hc => ?_) (fun hc => ?_) | (refine hK _ ?_; clear hK K) | with_reducible refine And.intro ?_ ?_ | (refine (show zt _ _ = true from ?_); kernel_rfl) | omega | assumption | refine fun (hg : (_ : Bool) = (_ : Bool)) => ?_ | clear hK K)
   rw [radd, if_neg (by simpa using he), if_pos hc]
  ·have hdec : (decide (by_ < -(rget d p k).1) || decide (65535 - (rget d p k).1 < by_)) = false := by simpa using hc
   have hw3 : IntKind.i64.wrap ((rget d p k).1 + by_) = (rget d p k).1 + by_ := zD (by omega) (by omega)
   have hw4 : IntKind.u64.wrap ((rget d p k).1 + by_) = (rget d p k).1 + by_ := zaH (by omega) (by omega)
   have hpl := zar ((rget d p k).1 + by_).toNat 2
   repeat' (first | ((first | refine za tab8q (za6) (fun K hK => ?_) | refine zc tab8q (za6) ?_ | refine ze tab8q (za6) mx (fun K hK => ?_) | refine zj tab8q (za6) mx ?_ | refine zh ?_ | refine zi ?_ | refine zn ?_); simp only [go_sem, aeq, aeq.aeqF, simprocAttr, hb, hw1, hw2, hw3, hw4, hdec, zl5, Tryz.results152]) | refine zq (fun K hK => ?_) | refine zo ?_ | refine zf rfl ?_ | refine zg rfl ?_ | refine zp rfl (fun hc => ?_) (fun hc => ?_) | (refine hK _ ?_; clear hK K) | with_reducible refine And.intro ?_ ?_ | (refine (show zt _ _ = true from ?_); kernel_rfl) | omega | assumption | refine fun (hg : (_ : Bool) = (_ : Bool)) => ?_ | clear hK K)
   all_goals first | (rw [hpl]; decide) | skip
   rw [radd, if_neg (by simpa using he), if_neg hc]
 ·have hb : ((rget d p k).2 != 0) = true := by simpa using he
  repeat' (first | ((first | refine za tab8q (za6) (fun K hK => ?_) | refine zc tab8q (za6) ?_ | refine ze tab8q (za6) mx (fun K hK => ?_) | refine zj tab8q (za6) mx ?_ | refine zh ?_ | refine zi ?_ | refine zn ?_); simp only [go_sem, aeq, aeq.aeqF, simprocAttr, hb, Tryz.results152]) | refine zq (fun K hK => ?_) | refine zo ?_ | refine zf rfl ?_ | refine zg rfl ?_ | refine zp rfl (fun hc => ?_) (fun hc => ?_) | (refine hK _ ?_; clear hK K) | with_reducible refine And.intro ?_ ?_ | (refine (show zt _ _ = true from ?_); kernel_rfl) | omega | assumption | refine fun (hg : (_ : Bool) = (_ : Bool)) => ?_ | clear hK K)
  rw [radd, if_pos he]
noncomputable def zb8 : Ent Tryz.prog := .ofL 152 (consL zM (consL zU (consL (intT .i64) (consL (intT .i64) nilL)))) (fun (d, p, k, by_, _) => DP d p) (fun (d, p, k, by_, _) => .tup [planA (radd d p k by_).1, .d (.int .i64 (radd d p k by_).2)]) (fun (d, p, k, by_, _) hp => ⟨rfl, zqH d p k by_ hp⟩)
attribute [go_sem] zb8
noncomputable def tab9p : Tab := tabOf [zaK]
theorem zaz : TabOk Tryz.prog tab9p := zz _
@[go_sem] theorem zqI (args : List AV) : tab9p 99 args = (zaK).e args := rfl
def freeL (d : Disk) (p : Plan) : Nat → Int → List (Int × Int)
 | 0, _ => []
 | m + 1, k => if (rget d p k).2 ≠ 0 then [(0, (rget d p k).2)] else if (rget d p0 k).2 ≠ 0 then [(0, (rget d p0 k).2)]
  else if (rget d p k).1 = 0 ∧ (rget d p0 k).1 = 0 then (k, 0) :: freeL d p m (k + 1) else freeL d p m (k + 1)
theorem zhv (d : Disk) (p : Plan) : ∀ (m : Nat) (k : Int), ze5 d p m k = (freeL d p m k).headD (0, 17)
 | 0, k => rfl
 | m + 1, k => by
  rw [ze5, freeL]
  repeat' split
  all_goals first | rfl | exact zhv d p m (k + 1)
def freeI (q : Int × Int) : List AV := [.d (.int .i64 q.1), .d (.int .i64 q.2)]
def geomC (g : Geom) : List AV := [.d (.int .i64 g.guest), .d (.int .i64 g.host)]
attribute [go_sem] geomC
theorem zto (d : Disk) (p : Plan) (g : Geom) : ACall Tryz.prog 185 0 [diskA d, planA p, geomA g] [] (fun r _ => r = .fn (.func 209) [] [.dp (geomC g), .dp (planC p), .dp (diskC d)]) := by
 refine zA ?_
 refine zk Tryz.func185 rfl (zu Tryz.func185 (by kernel_rfl) rfl) Tryz.ntmps185 (by simp) (fun base => ?_)
 repeat' (first | ((first | refine za noTab (zb _) (fun K hK => ?_) | refine zc noTab (zb _) ?_ | refine zh ?_ | refine zi ?_ | refine zn ?_); simp only [go_sem, aeq, aeq.aeqF, simprocAttr, Tryz.results185]) | refine zq (fun K hK => ?_) | (refine hK _ ?_; clear hK K) | refine fun (nb : Bool) (hnb : nb = true → _) => ?_ | with_reducible refine And.intro ?_ ?_ | omega | assumption | clear hK K)
noncomputable def zf0 : Ent Tryz.prog := .ofL 185 (consL zM (consL zU (consL zhl nilL))) (fun (d, p, g, _) => True) (fun (d, p, g, _) => .fn (.func 209) [] [.dp (geomC g), .dp (planC p), .dp (diskC d)]) (fun (d, p, g, _) hp => ⟨rfl, zto d p g⟩)
attribute [go_sem] zf0
abbrev Fst (d : Disk) (p : Plan) (g : Geom) := { q : Nat × List (List AV) // (q.1 : Int) ≤ max g.host 0 ∧ q.2 ++ (freeL d p (g.host.toNat - q.1) q.1).map freeI = (freeL d p g.host.toNat 0).map freeI }
theorem zla (d : Disk) (p : Plan) (g : Geom) (h : DP d p) (hg : g.host ≤ 1000000) : AIter Tryz.prog 209 100 [] [.dp [.d (.int .i64 g.guest), .d (.int .i64 g.host)], .dp [.d (.sl 1 (p.targets.map intD)), .d (.sl 1 (p.texts.map strD))], .dp [.d (.str d.data), .d (.sl 2 (d.cache.map putD)), .d (.int .i64 d.fuse), .d (.bool d.off), .d (.sl 1 (d.bad.map intD))]] [] ((freeL d p g.host.toNat 0).map freeI) (fun gg h' => (∀ xs, gg = some xs → xs = (freeL d p g.host.toNat 0).map freeI) ∧ h' = []) := by
 refine zaE Tryz.func209 rfl (zu Tryz.func209 (by kernel_rfl) rfl) Tryz.ntmps209 rfl (by simp) (fun base y => ?_)
 refine zg4 ?_
 repeat' (first | (refine zN (fun i => decide (i < 100)) (by simp only [inH, idsH, hsel, AV.ids, AV.idsL, AV.idsR, AObj.ids, hget, go_sem, aeq, aeq.aeqF, simprocAttr]) ?_; simp only [go_sem, aeq, aeq.aeqF, simprocAttr, hsel, keepT]; refine zn ?_; simp only [go_sem, aeq, aeq.aeqF, simprocAttr]) | ((first | refine zv noTab (zb _) (fun K hK => ?_) | refine zB noTab (zb _) ?_ | refine zh ?_ | refine zi ?_ | refine zn ?_); simp only [go_sem, aeq, aeq.aeqF, simprocAttr]) | refine zq (fun K hK => ?_) | refine zo ?_ | refine zf rfl ?_ | refine zg rfl ?_ | refine zp rfl (fun hc => ?_) (fun hc => ?_) | (refine hK _ ?_; clear hK K) | ((first | refine (show AS.le _ _ from ?_) | refine (show leH _ _ from ?_) | refine (show inH _ _ from ?_)); simp only [AS.le, leT, leH, zr, AsgK, AV.le, AV.leL, AObj.le, inH, idsT, idsH, AV.ids, AV.idsL, AV.idsR, AObj.ids, lk, hget, go_sem, aeq, aeq.aeqF, simprocAttr]) | refine fun (r2 : Rnd _) => ?_ | with_reducible refine And.intro ?_ ?_ | exact ‹_ <+: _› | omega | assumption | refine fun (hg : (_ : Bool) = (_ : Bool)) => ?_ | clear hK K)
 have hz := h.zero
 have hz0 : p0 = Plan.mk [] [] := rfl
 rw [hz0] at hz
 refine zL (fun q : Fst d p g => ⟨[(0, true, .fn (.yield y.yl) [] []), (1, true, .dp [.d (.int .i64 g.guest), .d (.int .i64 g.host)]), (2, true, .dp [.d (.sl 1 (p.targets.map intD)), .d (.sl 1 (p.texts.map strD))]), (3, true, .dp [.d (.str d.data), .d (.sl 2 (d.cache.map putD)), .d (.int .i64 d.fuse), .d (.bool d.off), .d (.sl 1 (d.bad.map intD))]), (12, true, .d (.int .i64 g.host)), (13, true, .d (.int .i64 q.1.1))], [], some q.1.2⟩) (fun q => g.host.toNat - q.1.1) ⟨(0, []), by show (_ : Int) ≤ _; omega, rfl⟩ (by simp only [AS.le, leT, leH, zr, AsgK, AV.le, AV.leL, AObj.le, inH, idsT, idsH, AV.ids, AV.idsL, AV.idsR, AObj.ids, lk, hget, go_sem, aeq, aeq.aeqF, simprocAttr] <;> and_intros <;> rfl) (fun q => ?_)
 obtain ⟨⟨i, xs⟩, hi, hf⟩ := q
 simp only at hi hf ⊢
 by_cases hlt : (i : Int) < g.host
 ·have hcmp : decide ((i : Int) < g.host) = true := decide_eq_true hlt
  have hwi := zP (i := i) (by omega)
  rw [show g.host.toNat - i = (g.host.toNat - (i + 1)) + 1 by omega, freeL, hz0] at hf
  have hr1 := zd8 d p i
  have hr2 := zd8 d ⟨[], []⟩ i
  repeat' (first | (refine zN (fun i => decide (i < 100)) (by simp only [inH, idsH, hsel, AV.ids, AV.idsL, AV.idsR, AObj.ids, hget, go_sem, aeq, aeq.aeqF, simprocAttr]) ?_; simp only [go_sem, aeq, aeq.aeqF, simprocAttr, hcmp, hsel, keepT]; refine zn ?_; simp only [go_sem, aeq, aeq.aeqF, simprocAttr, hcmp]) | ((first | refine zv tab9p (zaz) (fun K hK => ?_) | refine zB tab9p (zaz) ?_ | refine zh ?_ | refine zi ?_ | refine zn ?_); simp only [go_sem, aeq, aeq.aeqF, simprocAttr, hcmp]) | refine zq (fun K hK => ?_) | refine zo ?_ | refine zf rfl ?_ | refine zg rfl ?_ | refine zp rfl (fun hc => ?_) (fun hc => ?_) | (refine hK _ ?_; clear hK K) | ((first | refine (show AS.le _ _ from ?_) | refine (show leH _ _ from ?_) | refine (show inH _ _ from ?_)); simp only [AS.le, leT, leH, zr, AsgK, AV.le, AV.leL, AObj.le, inH, idsT, idsH, AV.ids, AV.idsL, AV.idsR, AObj.ids, lk, hget, go_sem, aeq, aeq.aeqF, simprocAttr, hcmp]) | refine fun (r2 : Rnd _) => ?_ | with_reducible refine And.intro ?_ ?_ | exact ‹_ <+: _› | omega | assumption | refine fun (hg : (_ : Bool) = (_ : Bool)) => ?_ | clear hK K)
  refine zL (fun r : { r : Nat × Int // (r.1 = 0 ∧ r.2 = 0) ∨ (r.1 = 1 ∧ (rget d p i).2 = 0 ∧ r.2 = (rget d p i).1) ∨ (r.1 = 2 ∧ (rget d p i).2 = 0 ∧ (rget d ⟨[], []⟩ i).2 = 0 ∧ r.2 = (rget d p i).1 + (rget d ⟨[], []⟩ i).1) } => ⟨[(0, true, .fn (.yield y.yl) [] []), (1, true, .dp [.d (.int .i64 g.guest), .d (.int .i64 g.host)]), (2, true, .dp [.d (.sl 1 (p.targets.map intD)), .d (.sl 1 (p.texts.map strD))]), (3, true, .dp [.d (.str d.data), .d (.sl 2 (d.cache.map putD)), .d (.int .i64 d.fuse), .d (.bool d.off), .d (.sl 1 (d.bad.map intD))]), (5, true, .d (.int .i64 i)), (6, true, .d (.int .i64 r.1.2)), (12, true, .d (.int .i64 g.host)), (13, true, .d (.int .i64 i)), (18, true, .osl 100 2 2 0 2), (19, true, .d (.int .i64 2)), (20, true, .d (.int .i64 r.1.1))], [(100, .arr 2 [[.sl 1 (p.targets.map intD), .sl 1 (p.texts.map strD)], [.sl 1 [], .sl 1 []]])], some xs⟩) (fun r => 2 - r.1.1) ⟨(0, 0), .inl ⟨rfl, rfl⟩⟩ (by simp only [AS.le, leT, leH, zr, AsgK, AV.le, AV.leL, AObj.le, inH, idsT, idsH, AV.ids, AV.idsL, AV.idsR, AObj.ids, lk, hget, go_sem, aeq, aeq.aeqF, simprocAttr] <;> and_intros <;> rfl) (fun r => ?_)
  obtain ⟨⟨j, n⟩, hj⟩ := r
  simp only at hj ⊢
  have hc0 : ((0 : Nat) : Int) = 0 := rfl
  have hc1 : ((1 : Nat) : Int) = 1 := rfl
  have hc2 : ((2 : Nat) : Int) = 2 := rfl
  have ht1 : Int.toNat 1 = 1 := rfl
  have hw1 : IntKind.i64.wrap 1 = 1 := by decide
  have hw2 : IntKind.i64.wrap 2 = 2 := by decide
  rcases hj with ⟨rfl, rfl⟩ | ⟨rfl, he1, rfl⟩ | ⟨rfl, he1, he2, rfl⟩
  ·by_cases he : (rget d p i).2 = 0
   ·have hb : ((rget d p i).2 != 0) = false := by simpa using he
    have hwn : IntKind.i64.wrap (0 + (rget d p i).1) = (rget d p i).1 := by rw [Int.zero_add]; exact zD (by omega) (by omega)
    repeat' (first | (refine zN (fun i => decide (i < 100)) (by simp only [inH, idsH, hsel, AV.ids, AV.idsL, AV.idsR, AObj.ids, hget, go_sem, aeq, aeq.aeqF, simprocAttr]) ?_; simp only [go_sem, aeq, aeq.aeqF, simprocAttr, hc0, hb, hwn, hsel, keepT]; refine zn ?_; simp only [go_sem, aeq, aeq.aeqF, simprocAttr, hc0, hb, hwn]) | ((first | refine zv tab9p (zaz) (fun K hK => ?_) | refine zB tab9p (zaz) ?_ | refine zh ?_ | refine zi ?_ | refine zn ?_); simp only [go_sem, aeq, aeq.aeqF, simprocAttr, hc0, hb, hwn]) | refine zq (fun K hK => ?_) | refine zo ?_ | refine zf rfl ?_ | refine zg rfl ?_ | refine zp rfl (fun hc => ?_) (fun hc => ?_) | (refine hK _ ?_; clear hK K) | ((first | refine (show AS.le _ _ from ?_) | refine (show leH _ _ from ?_) | refine (show inH _ _ from ?_)); simp only [AS.le, leT, leH, zr, AsgK, AV.le, AV.leL, AObj.le, inH, idsT, idsH, AV.ids, AV.idsL, AV.idsR, AObj.ids, lk, hget, go_sem, aeq, aeq.aeqF, simprocAttr, hc0, hb, hwn]) | refine fun (r2 : Rnd _) => ?_ | with_reducible refine And.intro ?_ ?_ | exact ‹_ <+: _› | omega | assumption | refine fun (hg : (_ : Bool) = (_ : Bool)) => ?_ | clear hK K)
    exact ⟨⟨(1, (rget d p i).1), .inr (.inl ⟨rfl, he, rfl⟩)⟩, by simp only [AS.le, leT, leH, zr, AsgK, AV.le, AV.leL, AObj.le, inH, idsT, idsH, AV.ids, AV.idsL, AV.idsR, AObj.ids, lk, hget, go_sem, aeq, aeq.aeqF, simprocAttr, hw1] <;> and_intros <;> rfl, by simp⟩
   ·have hb : ((rget d p i).2 != 0) = true := by simpa using he
    rw [if_pos (by simpa using he)] at hf
    have hpr : (xs ++ [[.d (.int .i64 0), .d (.int .i64 (rget d p i).2)]]) <+: (freeL d p g.host.toNat 0).map freeI := ⟨[], by rw [← hf]; simp [freeI]⟩
    repeat' (first | (refine zN (fun i => decide (i < 100)) (by simp only [inH, idsH, hsel, AV.ids, AV.idsL, AV.idsR, AObj.ids, hget, go_sem, aeq, aeq.aeqF, simprocAttr]) ?_; simp only [go_sem, aeq, aeq.aeqF, simprocAttr, hc0, hb, hsel, keepT]; refine zn ?_; simp only [go_sem, aeq, aeq.aeqF, simprocAttr, hc0, hb]) | ((first | refine zv tab9p (zaz) (fun K hK => ?_) | refine zB tab9p (zaz) ?_ | refine zh ?_ | refine zi ?_ | refine zn ?_); simp only [go_sem, aeq, aeq.aeqF, simprocAttr, hc0, hb]) | refine zq (fun K hK => ?_) | refine zo ?_ | refine zf rfl ?_ | refine zg rfl ?_ | refine zp rfl (fun hc => ?_) (fun hc => ?_) | (refine hK _ ?_; clear hK K) | ((first | refine (show AS.le _ _ from ?_) | refine (show leH _ _ from ?_) | refine (show inH _ _ from ?_)); simp only [AS.le, leT, leH, zr, AsgK, AV.le, AV.leL, AObj.le, inH, idsT, idsH, AV.ids, AV.idsL, AV.idsR, AObj.ids, lk, hget, go_sem, aeq, aeq.aeqF, simprocAttr, hc0, hb]) | refine fun (r2 : Rnd _) => ?_ | with_reducible refine And.intro ?_ ?_ | exact ‹_ <+: _› | omega | assumption | refine fun (hg : (_ : Bool) = (_ : Bool)) => ?_ | clear hK K)
    rintro zs rfl
    rw [← hf]
    simp [freeI]
  ·by_cases he : (rget d ⟨[], []⟩ i).2 = 0
   ·have hb : ((rget d ⟨[], []⟩ i).2 != 0) = false := by simpa using he
    have hwn : IntKind.i64.wrap ((rget d p i).1 + (rget d ⟨[], []⟩ i).1) = (rget d p i).1 + (rget d ⟨[], []⟩ i).1 := zD (by omega) (by omega)
    repeat' (first | (refine zN (fun i => decide (i < 100)) (by simp only [inH, idsH, hsel, AV.ids, AV.idsL, AV.idsR, AObj.ids, hget, go_sem, aeq, aeq.aeqF, simprocAttr]) ?_; simp only [go_sem, aeq, aeq.aeqF, simprocAttr, hc1, ht1, hb, hwn, hsel, keepT]; refine zn ?_; simp only [go_sem, aeq, aeq.aeqF, simprocAttr, hc1, ht1, hb, hwn]) | ((first | refine zv tab9p (zaz) (fun K hK => ?_) | refine zB tab9p (zaz) ?_ | refine zh ?_ | refine zi ?_ | refine zn ?_); simp only [go_sem, aeq, aeq.aeqF, simprocAttr, hc1, ht1, hb, hwn]) | refine zq (fun K hK => ?_) | refine zo ?_ | refine zf rfl ?_ | refine zg rfl ?_ | refine zp rfl (fun hc => ?_) (fun hc => ?_) | (refine hK _ ?_; clear hK K) | ((first | refine (show AS.le _ _ from ?_) | refine (show leH _ _ from ?_) | refine (show inH _ _ from ?_)); simp only [AS.le, leT, leH, zr, AsgK, AV.le, AV.leL, AObj.le, inH, idsT, idsH, AV.ids, AV.idsL, AV.idsR, AObj.ids, lk, hget, go_sem, aeq, aeq.aeqF, simprocAttr, hc1, ht1, hb, hwn]) | refine fun (r2 : Rnd _) => ?_ | with_reducible refine And.intro ?_ ?_ | exact ‹_ <+: _› | omega | assumption | refine fun (hg : (_ : Bool) = (_ : Bool)) => ?_ | clear hK K)
    exact ⟨⟨(2, (rget d p i).1 + (rget d ⟨[], []⟩ i).1), .inr (.inr ⟨rfl, he1, he, rfl⟩)⟩, by simp only [AS.le, leT, leH, zr, AsgK, AV.le, AV.leL, AObj.le, inH, idsT, idsH, AV.ids, AV.idsL, AV.idsR, AObj.ids, lk, hget, go_sem, aeq, aeq.aeqF, simprocAttr, hw2] <;> and_intros <;> rfl, by simp⟩
   ·have hb : ((rget d ⟨[], []⟩ i).2 != 0) = true := by simpa using he
    rw [if_neg (by rw [he1]; decide), if_pos (by simpa using he)] at hf
    have hpr : (xs ++ [[.d (.int .i64 0), .d (.int .i64 (rget d ⟨[], []⟩ i).2)]]) <+: (freeL d p g.host.toNat 0).map freeI := ⟨[], by rw [← hf]; simp [freeI]⟩
    repeat' (first | (refine zN (fun i => decide (i < 100)) (by simp only [inH, idsH, hsel, AV.ids, AV.idsL, AV.idsR, AObj.ids, hget, go_sem, aeq, aeq.aeqF, simprocAttr]) ?_; simp only [go_sem, aeq, aeq.aeqF, simprocAttr, hc1, ht1, hb, hsel, keepT]; refine zn ?_; simp only [go_sem, aeq, aeq.aeqF, simprocAttr, hc1, ht1, hb]) | ((first | refine zv tab9p (zaz) (fun K hK => ?_) | refine zB tab9p (zaz) ?_ | refine zh ?_ | refine zi ?_ | refine zn ?_); simp only [go_sem, aeq, aeq.aeqF, simprocAttr, hc1, ht1, hb]) | refine zq (fun K hK => ?_) | refine zo ?_ | refine zf rfl ?_ | refine zg rfl ?_ | refine zp rfl (fun hc => ?_) (fun hc => ?_) | (refine hK _ ?_; clear hK K) | ((first | refine (show AS.le _ _ from ?_) | refine (show leH _ _ from ?_) | refine (show inH _ _ from ?_)); simp only [AS.le, leT, leH, zr, AsgK, AV.le, AV.leL, AObj.le, inH, idsT, idsH, AV.ids, AV.idsL, AV.idsR, AObj.ids, lk, hget, go_sem, aeq, aeq.aeqF, simprocAttr, hc1, ht1, hb]) | refine fun (r2 : Rnd _) => ?_ | with_reducible refine And.intro ?_ ?_ | exact ‹_ <+: _› | omega | assumption | refine fun (hg : (_ : Bool) = (_ : Bool)) => ?_ | clear hK K)
    rintro zs rfl
    rw [← hf]
    simp [freeI]
  ·rw [if_neg (by rw [he1]; decide), if_neg (by rw [he2]; decide)] at hf
   by_cases hz1 : (rget d p i).1 = 0 ∧ (rget d ⟨[], []⟩ i).1 = 0
   ·have hb : ((rget d p i).1 + (rget d ⟨[], []⟩ i).1 == 0) = true := by rw [beq_iff_eq]; omega
    rw [if_pos hz1] at hf
    have hpr : (xs ++ [[.d (.int .i64 i), .d (.int .i64 0)]]) <+: (freeL d p g.host.toNat 0).map freeI := ⟨(freeL d p (g.host.toNat - (i + 1)) (i + 1)).map freeI, by rw [← hf]; simp [freeI]⟩
    repeat' (first | (refine zN (fun i => decide (i < 100)) (by simp only [inH, idsH, hsel, AV.ids, AV.idsL, AV.idsR, AObj.ids, hget, go_sem, aeq, aeq.aeqF, simprocAttr]) ?_; simp only [go_sem, aeq, aeq.aeqF, simprocAttr, hc2, hb, hsel, keepT]; refine zn ?_; simp only [go_sem, aeq, aeq.aeqF, simprocAttr, hc2, hb]) | ((first | refine zv tab9p (zaz) (fun K hK => ?_) | refine zB tab9p (zaz) ?_ | refine zh ?_ | refine zi ?_ | refine zn ?_); simp only [go_sem, aeq, aeq.aeqF, simprocAttr, hc2, hb]) | refine zq (fun K hK => ?_) | refine zo ?_ | refine zf rfl ?_ | refine zg rfl ?_ | refine zp rfl (fun hc => ?_) (fun hc => ?_) | (refine hK _ ?_; clear hK K) | ((first | refine (show AS.le _ _ from ?_) | refine (show leH _ _ from ?_) | refine (show inH _ _ from ?_)); simp only [AS.le, leT, leH, zr, AsgK, AV.le, AV.leL, AObj.le, inH, idsT, idsH, AV.ids, AV.idsL, AV.idsR, AObj.ids, lk, hget, go_sem, aeq, aeq.aeqF, simprocAttr, hc2, hb]) | refine fun (r2 : Rnd _) => ?_ | with_reducible refine And.intro ?_ ?_ | exact ‹_ <+: _› | omega | assumption | refine fun (hg : (_ : Bool) = (_ : Bool)) => ?_ | clear hK K)
    exact ⟨⟨(i + 1, xs ++ [freeI (i, 0)]), by show ((i + 1 : Nat) : Int) ≤ _; omega, by rw [← hf]; simp [freeI]⟩, by simp only [AS.le, leT, leH, zr, AsgK, AV.le, AV.leL, AObj.le, inH, idsT, idsH, AV.ids, AV.idsL, AV.idsR, AObj.ids, lk, hget, go_sem, aeq, aeq.aeqF, simprocAttr, hwi, freeI], by simp; omega⟩
   ·have hb : ((rget d p i).1 + (rget d ⟨[], []⟩ i).1 == 0) = false := by rw [beq_eq_false_iff_ne]; omega
    rw [if_neg hz1] at hf
    repeat' (first | (refine zN (fun i => decide (i < 100)) (by simp only [inH, idsH, hsel, AV.ids, AV.idsL, AV.idsR, AObj.ids, hget, go_sem, aeq, aeq.aeqF, simprocAttr]) ?_; simp only [go_sem, aeq, aeq.aeqF, simprocAttr, hc2, hb, hsel, keepT]; refine zn ?_; simp only [go_sem, aeq, aeq.aeqF, simprocAttr, hc2, hb]) | ((first | refine zv tab9p (zaz) (fun K hK => ?_) | refine zB tab9p (zaz) ?_ | refine zh ?_ | refine zi ?_ | refine zn ?_); simp only [go_sem, aeq, aeq.aeqF, simprocAttr, hc2, hb]) | refine zq (fun K hK => ?_) | refine zo ?_ | refine zf rfl ?_ | refine zg rfl ?_ | refine zp rfl (fun hc => ?_) (fun hc => ?_) | (refine hK _ ?_; clear hK K) | ((first | refine (show AS.le _ _ from ?_) | refine (show leH _ _ from ?_) | refine (show inH _ _ from ?_)); simp only [AS.le, leT, leH, zr, AsgK, AV.le, AV.leL, AObj.le, inH, idsT, idsH, AV.ids, AV.idsL, AV.idsR, AObj.ids, lk, hget, go_sem, aeq, aeq.aeqF, simprocAttr, hc2, hb]) | refine fun (r2 : Rnd _) => ?_ | with_reducible refine And.intro ?_ ?_ | exact ‹_ <+: _› | omega | assumption | refine fun (hg : (_ : Bool) = (_ : Bool)) => ?_ | clear hK K)
    exact ⟨⟨(i + 1, xs), by show ((i + 1 : Nat) : Int) ≤ _; omega, by rw [← hf]; simp⟩, by simp only [AS.le, leT, leH, zr, AsgK, AV.le, AV.leL, AObj.le, inH, idsT, idsH, AV.ids, AV.idsL, AV.idsR, AObj.ids, lk, hget, go_sem, aeq, aeq.aeqF, simprocAttr, hwi], by simp; omega⟩
 ·have hcmp : decide ((i : Int) < g.host) = false := decide_eq_false hlt
  repeat' (first | (refine zN (fun i => decide (i < 100)) (by simp only [inH, idsH, hsel, AV.ids, AV.idsL, AV.idsR, AObj.ids, hget, go_sem, aeq, aeq.aeqF, simprocAttr]) ?_; simp only [go_sem, aeq, aeq.aeqF, simprocAttr, hcmp, hsel, keepT]; refine zn ?_; simp only [go_sem, aeq, aeq.aeqF, simprocAttr, hcmp]) | ((first | refine zv tab9p (zaz) (fun K hK => ?_) | refine zB tab9p (zaz) ?_ | refine zh ?_ | refine zi ?_ | refine zn ?_); simp only [go_sem, aeq, aeq.aeqF, simprocAttr, hcmp]) | refine zq (fun K hK => ?_) | refine zo ?_ | refine zf rfl ?_ | refine zg rfl ?_ | refine zp rfl (fun hc => ?_) (fun hc => ?_) | (refine hK _ ?_; clear hK K) | ((first | refine (show AS.le _ _ from ?_) | refine (show leH _ _ from ?_) | refine (show inH _ _ from ?_)); simp only [AS.le, leT, leH, zr, AsgK, AV.le, AV.leL, AObj.le, inH, idsT, idsH, AV.ids, AV.idsL, AV.idsR, AObj.ids, lk, hget, go_sem, aeq, aeq.aeqF, simprocAttr, hcmp]) | refine fun (r2 : Rnd _) => ?_ | with_reducible refine And.intro ?_ ?_ | exact ‹_ <+: _› | omega | assumption | refine fun (hg : (_ : Bool) = (_ : Bool)) => ?_ | clear hK K)
  rintro zs rfl
  rw [← hf, show g.host.toNat - i = 0 by omega]
  simp [freeL]
noncomputable def tab9r : Tab := tabOf [zf0]
theorem zaA : TabOk Tryz.prog tab9r := zz _
@[go_sem] theorem zry (args : List AV) : tab9r 185 args = (zf0).e args := rfl
theorem ztp (d : Disk) (p : Plan) (g : Geom) (h : DP d p) (hg : g.host ≤ 1000000) : ACall Tryz.prog 151 0 [diskA d, planA p, geomA g] [] (fun r _ => r = .tup [.d (.int .i64 (rfind d p g).1), .d (.int .i64 (rfind d p g).2)]) := by
 refine zA ?_
 refine zk Tryz.func151 rfl (zu Tryz.func151 (by kernel_rfl) rfl) Tryz.ntmps151 (by simp) (fun base => ?_)
 repeat' (first | ((first | refine za tab9r (zaA) (fun K hK => ?_) | refine zc tab9r (zaA) ?_ | refine ze tab9r (zaA) mx (fun K hK => ?_) | refine zj tab9r (zaA) mx ?_ | refine zh ?_ | refine zi ?_ | refine zn ?_ | refine zal ?_); simp only [go_sem, aeq, aeq.aeqF, simprocAttr, Tryz.results151]) | refine zq (fun K hK => ?_) | refine zo ?_ | refine zan ?_ | (refine hK _ ?_; clear hK K) | ((first | refine (show AS.le _ _ from ?_) | refine (show leH _ _ from ?_) | refine (show inH _ _ from ?_)); simp only [AS.le, leT, leH, zr, AsgK, AV.le, AV.leL, AObj.le, inH, idsT, idsH, AV.ids, AV.idsL, AV.idsR, AObj.ids, lk, hget, go_sem, aeq, aeq.aeqF, simprocAttr]) | refine fun (r2 : Rnd _) => ?_ | with_reducible refine And.intro ?_ ?_ | exact ‹_ <+: _› | (refine (show zt _ _ = true from ?_); kernel_rfl) | omega | assumption | clear hK K)
 have hrf : rfind d p g = (freeL d p g.host.toNat 0).headD (0, 17) := zhv d p _ _
 obtain ⟨I, hI⟩ : ∃ I : List (List AV) → AHeap × Option (List (List AV)), I = fun xs => ([(4, .var [.d (.int .i64 17)]), (3, .var [.d (.int .i64 0)]), (2, .var [.d (.int .i64 g.guest), .d (.int .i64 g.host)]), (1, (.var [.d (.sl 1 (p.targets.map intD)), .d (.sl 1 (p.texts.map strD))])), (0, (.var [.d (.str d.data), .d (.sl 2 (d.cache.map putD)), .d (.int .i64 d.fuse), .d (.bool d.off), .d (.sl 1 (d.bad.map intD))]))], some []) := ⟨_, rfl⟩
 obtain ⟨G, hG⟩ : ∃ G : List (List AV) → Prop, G = fun xs => (xs ≠ [] → False) := ⟨_, rfl⟩
 obtain ⟨J, hJ⟩ : ∃ J : Code → AHeap → Option (List (List AV)) → Prop, J = fun c h gg => c = .exit 0 ∧ gg = some [] ∧ h = [(4, .var [.d (.int .i64 (rfind d p g).2)]), (3, .var [.d (.int .i64 (rfind d p g).1)]), (2, .var [.d (.int .i64 g.guest), .d (.int .i64 g.host)]), (1, (.var [.d (.sl 1 (p.targets.map intD)), .d (.sl 1 (p.texts.map strD))])), (0, (.var [.d (.str d.data), .d (.sl 2 (d.cache.map putD)), .d (.int .i64 d.fuse), .d (.bool d.off), .d (.sl 1 (d.bad.map intD))]))] := ⟨_, rfl⟩
 refine za0 100 G I J (zla d p g h hg) (by simp only [go_sem, aeq, aeq.aeqF, simprocAttr]) rfl (zT rfl) (by simp [cxOf, cxY]) rfl (by rw [hG]; first | trivial | rfl | simp) (by rw [hI]; simp only [AS.le, leT, leH, zr, AsgK, AV.le, AV.leL, AObj.le, inH, idsT, idsH, AV.ids, AV.idsL, AV.idsR, AObj.ids, lk, hget, go_sem, aeq, aeq.aeqF, simprocAttr] <;> simp [AV.leL, AV.le]) (by rw [hI]; simp only [AS.le, leT, leH, zr, AsgK, AV.le, AV.leL, AObj.le, inH, idsT, idsH, AV.ids, AV.idsL, AV.idsR, AObj.ids, lk, hget, go_sem, aeq, aeq.aeqF, simprocAttr] <;> simp) (by rw [hI] <;> rfl) (by intro x hx; obtain ⟨q, _, rfl⟩ := List.mem_map.1 hx; rfl) (by intro t ht; simp at ht; first | (rcases ht with rfl | rfl <;> simp [cxOf, cxY] <;> done) | (subst ht; simp [cxOf, cxY])) ?_ ?_ ?_
 ·intro xs x hpre hgd l1 r1
  rw [hG] at hgd
  obtain rfl : xs = [] := Classical.byContradiction hgd
  obtain ⟨ys, ⟨a, e⟩, zs, hys, rfl, hzl⟩ := zcV hpre
  have hys0 : ys = [] := by cases ys with | nil => rfl | cons q r => simp at hys
  subst hys0
  have hfe : rfind d p g = (a, e) := by rw [hrf, hzl]; rfl
  simp only [freeI]
  refine aw_le ⟨[(14, true, .d (.int .i64 a)), (15, true, .d (.int .i64 e)), (8, true, .vp 3 0), (9, true, .vp 4 0)], [(4, .var [.d (.int .i64 17)]), (3, .var [.d (.int .i64 0)]), (2, .var [.d (.int .i64 g.guest), .d (.int .i64 g.host)]), (1, (.var [.d (.sl 1 (p.targets.map intD)), .d (.sl 1 (p.texts.map strD))])), (0, (.var [.d (.str d.data), .d (.sl 2 (d.cache.map putD)), .d (.int .i64 d.fuse), .d (.bool d.off), .d (.sl 1 (d.bad.map intD))]))], some []⟩ (by rw [hI]; simp only [AS.le, leT, leH, zr, AsgK, AV.le, AV.leL, AObj.le, inH, idsT, idsH, AV.ids, AV.idsL, AV.idsR, AObj.ids, lk, hget, go_sem, aeq, aeq.aeqF, simprocAttr]) ?_
  repeat' (first | ((first | refine za tab9r (zaA) (fun K hK => ?_) | refine zc tab9r (zaA) ?_ | refine ze tab9r (zaA) mx (fun K hK => ?_) | refine zj tab9r (zaA) mx ?_ | refine zh ?_ | refine zi ?_ | refine zn ?_ | refine zal ?_); simp only [go_sem, aeq, aeq.aeqF, simprocAttr, hI, Tryz.results151]) | refine zq (fun K hK => ?_) | refine zo ?_ | refine zan ?_ | (refine hK _ ?_; clear hK K) | ((first | refine (show AS.le _ _ from ?_) | refine (show leH _ _ from ?_) | refine (show inH _ _ from ?_)); simp only [AS.le, leT, leH, zr, AsgK, AV.le, AV.leL, AObj.le, inH, idsT, idsH, AV.ids, AV.idsL, AV.idsR, AObj.ids, lk, hget, go_sem, aeq, aeq.aeqF, simprocAttr, hI]) | refine fun (r2 : Rnd _) => ?_ | with_reducible refine And.intro ?_ ?_ | exact ‹_ <+: _› | (refine (show zt _ _ = true from ?_); kernel_rfl) | omega | assumption | clear hK K)
  rw [hJ, hfe]
  exact ⟨rfl, rfl, rfl⟩
 ·intro hgd
  rw [hG] at hgd
  have hgd := Classical.byContradiction hgd
  rw [hI]
  repeat' (first | ((first | refine za tab9r (zaA) (fun K hK => ?_) | refine zc tab9r (zaA) ?_ | refine ze tab9r (zaA) mx (fun K hK => ?_) | refine zj tab9r (zaA) mx ?_ | refine zh ?_ | refine zi ?_ | refine zn ?_ | refine zal ?_); simp only [go_sem, aeq, aeq.aeqF, simprocAttr, Tryz.results151]) | refine zq (fun K hK => ?_) | refine zo ?_ | refine zan ?_ | (refine hK _ ?_; clear hK K) | ((first | refine (show AS.le _ _ from ?_) | refine (show leH _ _ from ?_) | refine (show inH _ _ from ?_)); simp only [AS.le, leT, leH, zr, AsgK, AV.le, AV.leL, AObj.le, inH, idsT, idsH, AV.ids, AV.idsL, AV.idsR, AObj.ids, lk, hget, go_sem, aeq, aeq.aeqF, simprocAttr]) | refine fun (r2 : Rnd _) => ?_ | with_reducible refine And.intro ?_ ?_ | exact ‹_ <+: _› | (refine (show zt _ _ = true from ?_); kernel_rfl) | omega | assumption | clear hK K)
  have hfl : freeL d p g.host.toNat 0 = [] := by simpa using hgd
  rw [hrf, hfl]
  rfl
 ·rw [hJ]
  rintro c h3 g3 ⟨rfl, rfl, rfl⟩
  repeat' (first | ((first | refine za tab9r (zaA) (fun K hK => ?_) | refine zc tab9r (zaA) ?_ | refine ze tab9r (zaA) mx (fun K hK => ?_) | refine zj tab9r (zaA) mx ?_ | refine zh ?_ | refine zi ?_ | refine zn ?_ | refine zal ?_); simp only [go_sem, aeq, aeq.aeqF, simprocAttr, Tryz.results151]) | refine zq (fun K hK => ?_) | refine zo ?_ | refine zan ?_ | (refine hK _ ?_; clear hK K) | ((first | refine (show AS.le _ _ from ?_) | refine (show leH _ _ from ?_) | refine (show inH _ _ from ?_)); simp only [AS.le, leT, leH, zr, AsgK, AV.le, AV.leL, AObj.le, inH, idsT, idsH, AV.ids, AV.idsL, AV.idsR, AObj.ids, lk, hget, go_sem, aeq, aeq.aeqF, simprocAttr]) | refine fun (r2 : Rnd _) => ?_ | with_reducible refine And.intro ?_ ?_ | exact ‹_ <+: _› | (refine (show zt _ _ = true from ?_); kernel_rfl) | omega | assumption | clear hK K)
noncomputable def zf1 : Ent Tryz.prog := .ofL 151 (consL zM (consL zU (consL zhl nilL))) (fun (d, p, g, _) => (DP d p) ∧ (g.host ≤ 1000000)) (fun (d, p, g, _) => .tup [.d (.int .i64 (rfind d p g).1), .d (.int .i64 (rfind d p g).2)]) (fun (d, p, g, _) hp => ⟨rfl, ztp d p g hp.1 hp.2⟩)
attribute [go_sem] zf1
noncomputable def tab9q : Tab := tabOf [zf1, zb8]
theorem zmk : TabOk Tryz.prog tab9q := zz _
@[go_sem] theorem zrz (args : List AV) : tab9q 151 args = (zf1).e args := rfl
@[go_sem] theorem zqJ (args : List AV) : tab9q 152 args = (zb8).e args := rfl
theorem ztq (d : Disk) (p : Plan) (g : Geom) (h : DP d p) (hg : g.host ≤ 1000000) : ACall Tryz.prog 95 0 [diskA d, planA p, geomA g] [] (fun r _ => r = .tup [planA (rtake d p g).1, .d (.int .i64 (rtake d p g).2.1), .d (.int .i64 (rtake d p g).2.2)]) := by
 refine zA ?_
 refine zk Tryz.func95 rfl (zu Tryz.func95 (by kernel_rfl) rfl) Tryz.ntmps95 (by simp) (fun base => ?_)
 repeat' (first | ((first | refine za tab9q (zmk) (fun K hK => ?_) | refine zc tab9q (zmk) ?_ | refine zh ?_ | refine zi ?_ | refine zn ?_); simp only [go_sem, aeq, aeq.aeqF, simprocAttr, Tryz.results95]) | refine zq (fun K hK => ?_) | refine zf rfl ?_ | refine zg rfl ?_ | refine zp rfl (fun hc => ?_) (fun hc => ?_) | (refine hK _ ?_; clear hK K) | with_reducible refine And.intro ?_ ?_ | omega | assumption | clear hK K)
 all_goals simp_all [rtake]
noncomputable def zcM : Ent Tryz.prog := .ofL 95 (consL zM (consL zU (consL zhl nilL))) (fun (d, p, g, _) => (DP d p) ∧ (g.host ≤ 1000000)) (fun (d, p, g, _) => .tup [planA (rtake d p g).1, .d (.int .i64 (rtake d p g).2.1), .d (.int .i64 (rtake d p g).2.2)]) (fun (d, p, g, _) hp => ⟨rfl, ztq d p g hp.1 hp.2⟩)
attribute [go_sem] zcM
open Go Go.Proofs
structure Root where
 l1 : Int
 next : Int
 deriving DecidableEq
def rootA (r : Root) : AV := .agg [.d (.int .i64 r.l1), .d (.int .u32 r.next)]
attribute [go_sem] rootA
theorem zsS (r : Root) : Root.mk r.l1 r.next = r := rfl
noncomputable def ziS : PT Root := aggT (consL (intT .i64) (consL (intT .u32) nilL)) (fun p => ⟨p.1, p.2.1⟩) (fun x => (x.l1, x.next, ())) (fun _ => rfl)
attribute [go_sem] ziS
attribute [go_sem] zsS
def zpW : Txt := [67, 79, 70, 82]
def zbP (r : Root) : Txt := zpW ++ putN r.l1.toNat 2 ++ putN r.next.toNat 4
def zfO (r : Root) : Txt := padR (zbP r ++ ze2 (sumOf 0 (zbP r)))
def zcg (s : Txt) : Root := ⟨((takeN ((s.drop 4).take 2) : Nat) : Int), ((takeN ((s.drop 6).take 4) : Nat) : Int)⟩
def rootT (s : Txt) : Root × Int :=
 if s.take 4 ≠ zpW then (⟨0, 0⟩, 14)
 else if ze2 (sumOf 0 (s.take 10)) ≠ (s.take 14).drop 10 then (⟨0, 0⟩, 15)
 else if zR (zcg s).l1 = false ∨ zfO (zcg s) ≠ s then (⟨0, 0⟩, 14)
 else (zcg s, 0)
def zaa (d : Disk) (p : Plan) : Root × Int := if (plook d p 1).2 ≠ 0 then (⟨0, 0⟩, (plook d p 1).2) else rootT (plook d p 1).1
def zcr (p : Plan) (r : Root) : Plan × Int := if zR r.l1 = false then (p, 10) else pset p 1 (zfO r)
theorem zgf (r : Root) : (zbP r).length = 10 := by
 rw [zbP, List.length_append, List.length_append, zar, zar]; rfl
theorem znd (s : Txt) : 0 ≤ (zcg s).l1 ∧ (zcg s).l1 ≤ 65535 ∧ 0 ≤ (zcg s).next ∧ (zcg s).next ≤ 4294967295 := by
 have h1 := zcW (l := (s.drop 4).take 2) (i := 2) (by rw [List.length_take]; omega)
 have h2 := zcW (l := (s.drop 6).take 4) (i := 4) (by rw [List.length_take]; omega)
 simp only [zcg]
 omega
theorem ziT (k : Int) : ACall Tryz.prog 58 0 [.d (.int .i64 k)] [] (fun r _ => r = .d (.bool (zR k))) := by
 refine zk Tryz.func58 rfl (zu Tryz.func58 (by kernel_rfl) rfl) Tryz.ntmps58 (by simp) (fun base => ?_)
 repeat' (first | ((first | refine za noTab (zb _) (fun K hK => ?_) | refine zc noTab (zb _) ?_ | refine zh ?_ | refine zi ?_ | refine zn ?_); simp only [go_sem, aeq, aeq.aeqF, simprocAttr, Tryz.results58]) | refine zq (fun K hK => ?_) | (refine hK _ ?_; clear hK K) | with_reducible refine And.intro ?_ ?_ | omega | assumption | refine fun (hg : (_ : Bool) = (_ : Bool)) => ?_ | clear hK K)
 rfl
noncomputable def zb5 : Ent Tryz.prog := .ofL 58 (consL (intT .i64) nilL) (fun (k, _) => True) (fun (k, _) => .d (.bool (zR k))) (fun (k, _) hp => ⟨rfl, ziT k⟩)
attribute [go_sem] zb5
theorem zsT {x : Int} (h0 : 0 ≤ x) (h1 : x ≤ 4294967295) : IntKind.u32.wrap x = x := by rw [IntKind.wrap_u32]; omega
noncomputable def ze6 : Tab := tabOf [zcz, zfK, zc7, zfC]
theorem ze7 : TabOk Tryz.prog ze6 := zz _
@[go_sem] theorem zpX (args : List AV) : ze6 119 args = (zcz).e args := rfl
@[go_sem] theorem zpY (args : List AV) : ze6 56 args = (zfK).e args := rfl
@[go_sem] theorem zl6 (args : List AV) : ze6 55 args = (zc7).e args := rfl
@[go_sem] theorem zpZ (args : List AV) : ze6 120 args = (zfC).e args := rfl
theorem zne (t : Root) (h0 : 0 ≤ t.l1) (h1 : t.l1 ≤ 65535) (h2 : 0 ≤ t.next) (h3 : t.next ≤ 4294967295) : ACall Tryz.prog 59 0 [rootA t] [] (fun r _ => r = .d (.str (zfO t))) := by
 refine zA ?_
 refine zk Tryz.func59 rfl (zu Tryz.func59 (by kernel_rfl) rfl) Tryz.ntmps59 (by simp) (fun base => ?_)
 have hw1 : IntKind.u64.wrap t.l1 = t.l1 := zaH h0 (by omega)
 have hw2 : IntKind.u64.wrap t.next = t.next := zaH h2 (by omega)
 have hl1 := zar t.l1.toNat 2
 have hl2 := zar t.next.toNat 4
 have hhd : (67 : UInt8) :: 79 :: 70 :: 82 :: putN t.l1.toNat 2 ++ putN t.next.toNat 4 = zbP t := rfl
 have hhl := zgf t
 have hs := zpP 0 (zbP t) (by omega) (by omega)
 have hbl := zd7 (sumOf 0 (zbP t))
 repeat' (first | ((first | refine za ze6 (ze7) (fun K hK => ?_) | refine zc ze6 (ze7) ?_ | refine zE ze6 [] (ze7) mx (fun K hK => ?_) | refine zF ze6 [] (ze7) mx ?_ | refine zh ?_ | refine zi ?_ | refine zn ?_); simp only [go_sem, aeq, aeq.aeqF, simprocAttr, hw1, hw2, zl5, zt1, List.length_cons, List.length_nil, hl1, hl2, hhd, hhl, hbl, List.length_append, Tryz.results59]) | refine zq (fun K hK => ?_) | (refine hK _ ?_; clear hK K) | with_reducible refine And.intro ?_ ?_ | (refine (show zah _ _ = true from ?_); kernel_rfl) | omega | assumption | clear hK K)
 rfl
noncomputable def zdI : Ent Tryz.prog := .ofL 59 (consL ziS nilL) (fun (t, _) => (0 ≤ t.l1) ∧ (t.l1 ≤ 65535) ∧ (0 ≤ t.next) ∧ (t.next ≤ 4294967295)) (fun (t, _) => .d (.str (zfO t))) (fun (t, _) hp => ⟨rfl, zne t hp.1 hp.2.1 hp.2.2.1 hp.2.2.2⟩)
attribute [go_sem] zdI
noncomputable def zdj : Tab := tabOf [zb5, zdI, zcD]
theorem zbD : TabOk Tryz.prog zdj := zz _
@[go_sem] theorem zkf (args : List AV) : zdj 58 args = (zb5).e args := rfl
@[go_sem] theorem znf (args : List AV) : zdj 59 args = (zdI).e args := rfl
@[go_sem] theorem zp0 (args : List AV) : zdj 127 args = (zcD).e args := rfl
theorem zp1 (p : Plan) (t : Root) (hp : pfit p = true) (h2 : 0 ≤ t.next) (h3 : t.next ≤ 4294967295) : ACall Tryz.prog 77 0 [planA p, rootA t] [] (fun r _ => r = .tup [planA (zcr p t).1, .d (.int .i64 (zcr p t).2)]) := by
 refine zA ?_
 refine zk Tryz.func77 rfl (zu Tryz.func77 (by kernel_rfl) rfl) Tryz.ntmps77 (by simp) (fun base => ?_)
 obtain ⟨hl, h24, h64⟩ := zaI hp
 have hpo : PlanOk p := ⟨by omega, by omega⟩
 by_cases hk : zR t.l1 = true
 ·obtain ⟨hk0, hk1⟩ := hostOk_iff.1 hk
  repeat' (first | ((first | refine za zdj (zbD) (fun K hK => ?_) | refine zc zdj (zbD) ?_ | refine zE zdj [] (zbD) mx (fun K hK => ?_) | refine zF zdj [] (zbD) mx ?_ | refine zh ?_ | refine zi ?_ | refine zn ?_); simp only [go_sem, aeq, aeq.aeqF, simprocAttr, hk, Tryz.results77]) | refine zq (fun K hK => ?_) | refine zf rfl ?_ | refine zg rfl ?_ | refine zp rfl (fun hc => ?_) (fun hc => ?_) | (refine hK _ ?_; clear hK K) | with_reducible refine And.intro ?_ ?_ | (refine (show zah _ _ = true from ?_); kernel_rfl) | omega | assumption | clear hK K)
  rw [zcr, if_neg (by rw [hk]; exact fun h => by cases h)]
 ·have hk : zR t.l1 = false := by simpa using hk
  repeat' (first | ((first | refine za zdj (zbD) (fun K hK => ?_) | refine zc zdj (zbD) ?_ | refine zE zdj [] (zbD) mx (fun K hK => ?_) | refine zF zdj [] (zbD) mx ?_ | refine zh ?_ | refine zi ?_ | refine zn ?_); simp only [go_sem, aeq, aeq.aeqF, simprocAttr, hk, Tryz.results77]) | refine zq (fun K hK => ?_) | refine zf rfl ?_ | refine zg rfl ?_ | refine zp rfl (fun hc => ?_) (fun hc => ?_) | (refine hK _ ?_; clear hK K) | with_reducible refine And.intro ?_ ?_ | (refine (show zah _ _ = true from ?_); kernel_rfl) | omega | assumption | clear hK K)
  rw [zcr, if_pos hk]
noncomputable def zex : Ent Tryz.prog := .ofL 77 (consL zU (consL ziS nilL)) (fun (p, t, _) => (pfit p = true) ∧ (0 ≤ t.next) ∧ (t.next ≤ 4294967295)) (fun (p, t, _) => .tup [planA (zcr p t).1, .d (.int .i64 (zcr p t).2)]) (fun (p, t, _) hp => ⟨rfl, zp1 p t hp.1 hp.2.1 hp.2.2⟩)
attribute [go_sem] zex
theorem zng (k : Int) : ACall Tryz.prog 149 0 [.d (.int .i64 k)] [] (fun r _ => r = .d (.bool (!zR k))) := by
 refine zk Tryz.func149 rfl (zu Tryz.func149 (by kernel_rfl) rfl) Tryz.ntmps149 (by simp) (fun base => ?_)
 repeat' (first | ((first | refine za noTab (zb _) (fun K hK => ?_) | refine zc noTab (zb _) ?_ | refine zh ?_ | refine zi ?_ | refine zn ?_); simp only [go_sem, aeq, aeq.aeqF, simprocAttr, Tryz.results149]) | refine zq (fun K hK => ?_) | (refine hK _ ?_; clear hK K) | with_reducible refine And.intro ?_ ?_ | omega | assumption | refine fun (hg : (_ : Bool) = (_ : Bool)) => ?_ | clear hK K)
 rw [zbd]
noncomputable def zdJ : Ent Tryz.prog := .ofL 149 (consL (intT .i64) nilL) (fun (k, _) => True) (fun (k, _) => .d (.bool (!zR k))) (fun (k, _) hp => ⟨rfl, zng k⟩)
attribute [go_sem] zdJ
noncomputable def ze8 : Tab := tabOf [zbO, zby, zaJ, zcX]
theorem ze9 : TabOk Tryz.prog ze8 := zz _
@[go_sem] theorem zsU (args : List AV) : ze8 184 args = (zbO).e args := rfl
@[go_sem] theorem zp2 (args : List AV) : ze8 147 args = (zby).e args := rfl
@[go_sem] theorem zl7 (args : List AV) : ze8 146 args = (zaJ).e args := rfl
@[go_sem] theorem zsV (args : List AV) : ze8 124 args = (zcX).e args := rfl
theorem znh (t : Root) (h0 : 0 ≤ t.l1) (h1 : t.l1 ≤ 65535) (h2 : 0 ≤ t.next) (h3 : t.next ≤ 4294967295) : ACall Tryz.prog 150 0 [rootA t] [] (fun r _ => r = .d (.str (zfO t))) := by
 refine zA ?_
 refine zk Tryz.func150 rfl (zu Tryz.func150 (by kernel_rfl) rfl) Tryz.ntmps150 (by simp) (fun base => ?_)
 have hw1 : IntKind.u64.wrap t.l1 = t.l1 := zaH h0 (by omega)
 have hw2 : IntKind.u64.wrap t.next = t.next := zaH h2 (by omega)
 have hl1 := zar t.l1.toNat 2
 have hl2 := zar t.next.toNat 4
 have hhd : (67 : UInt8) :: 79 :: 70 :: 82 :: putN t.l1.toNat 2 ++ putN t.next.toNat 4 = zbP t := rfl
 have hhl := zgf t
 have hbl := zd7 (sumOf 0 (zbP t))
 repeat' (first | ((first | refine za ze8 (ze9) (fun K hK => ?_) | refine zc ze8 (ze9) ?_ | refine zE ze8 [] (ze9) mx (fun K hK => ?_) | refine zF ze8 [] (ze9) mx ?_ | refine zh ?_ | refine zi ?_ | refine zn ?_); simp only [go_sem, aeq, aeq.aeqF, simprocAttr, hw1, hw2, zl5, zt1, List.length_cons, List.length_nil, hl1, hl2, hhd, hhl, hbl, List.length_append, Tryz.results150]) | refine zq (fun K hK => ?_) | (refine hK _ ?_; clear hK K) | with_reducible refine And.intro ?_ ?_ | (refine (show zah _ _ = true from ?_); kernel_rfl) | omega | assumption | clear hK K)
 rfl
noncomputable def zdK : Ent Tryz.prog := .ofL 150 (consL ziS nilL) (fun (t, _) => (0 ≤ t.l1) ∧ (t.l1 ≤ 65535) ∧ (0 ≤ t.next) ∧ (t.next ≤ 4294967295)) (fun (t, _) => .d (.str (zfO t))) (fun (t, _) hp => ⟨rfl, znh t hp.1 hp.2.1 hp.2.2.1 hp.2.2.2⟩)
attribute [go_sem] zdK
noncomputable def zl8 : Tab := tabOf [zbZ]
theorem zjX : TabOk Tryz.prog zl8 := zz _
@[go_sem] theorem zri (args : List AV) : zl8 131 args = (zbZ).e args := rfl
theorem zni (s : Txt) (at_ : Int) (size : Int) (h0 : 0 ≤ at_) (h1 : at_ ≤ s.length) (hs : s.length ≤ 9223372036854775807) : ACall Tryz.prog 148 0 [.d (.str s), .d (.int .i64 at_), .d (.int .i64 size)] [] (fun r _ => r = .d (.int .u64 (takeS (s.drop at_.toNat) size).1)) := by
 refine zA ?_
 refine zk Tryz.func148 rfl (zu Tryz.func148 (by kernel_rfl) rfl) Tryz.ntmps148 (by simp) (fun base => ?_)
 have htk : List.take s.length s = s := List.take_length
 have hL2 : (List.drop at_.toNat s).length ≤ 9223372036854775807 := by rw [List.length_drop]; omega
 repeat' (first | ((first | refine za zl8 (zjX) (fun K hK => ?_) | refine zc zl8 (zjX) ?_ | refine zh ?_ | refine zi ?_ | refine zn ?_); simp only [go_sem, aeq, aeq.aeqF, simprocAttr, htk, Tryz.results148]) | refine zq (fun K hK => ?_) | (refine hK _ ?_; clear hK K) | with_reducible refine And.intro ?_ ?_ | omega | assumption | clear hK K)
noncomputable def zdL : Ent Tryz.prog := .ofL 148 (consL strT (consL (intT .i64) (consL (intT .i64) nilL))) (fun (s, at_, size, _) => (0 ≤ at_) ∧ (at_ ≤ s.length) ∧ (s.length ≤ 9223372036854775807)) (fun (s, at_, size, _) => .d (.int .u64 (takeS (s.drop at_.toNat) size).1)) (fun (s, at_, size, _) hp => ⟨rfl, zni s at_ size hp.1 hp.2.1 hp.2.2⟩)
attribute [go_sem] zdL
noncomputable def zbJ : Tab := tabOf [zaC, zby, zaJ, zdL, zdJ, zdK, zco]
theorem zbE : TabOk Tryz.prog zbJ := zz _
@[go_sem] theorem zp3 (args : List AV) : zbJ 130 args = (zaC).e args := rfl
@[go_sem] theorem zp4 (args : List AV) : zbJ 147 args = (zby).e args := rfl
@[go_sem] theorem zl9 (args : List AV) : zbJ 146 args = (zaJ).e args := rfl
@[go_sem] theorem znj (args : List AV) : zbJ 148 args = (zdL).e args := rfl
@[go_sem] theorem znk (args : List AV) : zbJ 149 args = (zdJ).e args := rfl
@[go_sem] theorem znl (args : List AV) : zbJ 150 args = (zdK).e args := rfl
@[go_sem] theorem zkP (args : List AV) : zbJ 82 args = (zco).e args := rfl
theorem znm (d : Disk) (p : Plan) (h : DP d p) : ACall Tryz.prog 94 0 [diskA d, planA p] [] (fun r _ => r = .tup [rootA (zaa d p).1, .d (.int .i64 (zaa d p).2)]) := by
 refine zA ?_
 refine zk Tryz.func94 rfl (zu Tryz.func94 (by kernel_rfl) rfl) Tryz.ntmps94 (by simp) (fun base => ?_)
 have h1 := h.dok
 have h2 := h.pok
 have h3 := h.plen
 by_cases he : (plook d p 1).2 = 0
 ·have hb : ((plook d p 1).2 != 0) = false := by simpa using he
  have h64 := ze4 h he
  have hrg : zaa d p = rootT (plook d p 1).1 := by rw [zaa, if_neg (by simpa using he)]
  obtain ⟨S, hS⟩ : ∃ S, S = (plook d p 1).1 := ⟨_, rfl⟩
  rw [← hS] at h64 hrg
  have hr := znd S
  have htk : List.take S.length S = S := List.take_length
  have ht2 := zhm (s := S.drop 4) (z := 2) 2 rfl (by omega) (by omega) (by rw [List.length_drop]; omega)
  have ht4 := zhm (s := S.drop 6) (z := 4) 4 rfl (by omega) (by omega) (by rw [List.length_drop]; omega)
  have hwl : IntKind.i64.wrap (zcg S).l1 = (zcg S).l1 := zD (by omega) (by omega)
  have hwn : IntKind.u32.wrap (zcg S).next = (zcg S).next := zsT (by omega) (by omega)
  simp only [zcg] at hwl hwn hr
  have hL1 : (List.take 10 S).length ≤ 64 := by rw [List.length_take]; omega
  have hpx : List.isPrefixOf [67, 79, 70, 82] S = (S.take 4 == [67, 79, 70, 82]) := by
   rw [Bool.eq_iff_iff, List.isPrefixOf_iff_prefix, List.prefix_iff_eq_take, beq_iff_eq]
   exact ⟨fun h => h.symm, fun h => h.symm⟩
  repeat' (first | ((first | refine za zbJ (zbE) (fun K hK => ?_) | refine zc zbJ (zbE) ?_ | refine zE zbJ [] (zbE) mx (fun K hK => ?_) | refine zF zbJ [] (zbE) mx ?_ | refine zh ?_ | refine zi ?_ | refine zn ?_); simp only [go_sem, aeq, aeq.aeqF, simprocAttr, ← hS, hb, htk, ht2, ht4, hwl, hwn, hpx, Tryz.results94]) | refine zq (fun K hK => ?_) | refine zo ?_ | refine zf rfl ?_ | refine zg rfl ?_ | refine zp rfl (fun hc => ?_) (fun hc => ?_) | (refine hK _ ?_; clear hK K) | with_reducible refine And.intro ?_ ?_ | (refine (show zah _ _ = true from ?_); kernel_rfl) | omega | assumption | refine fun (hg : (_ : Bool) = (_ : Bool)) => ?_ | clear hK K)
  all_goals (rw [hrg, rootT]; clear ht2 ht4 hwl hwn htk hpx; simp_all [zcg, zpW]; done)
 ·have hb : ((plook d p 1).2 != 0) = true := by simpa using he
  repeat' (first | ((first | refine za zbJ (zbE) (fun K hK => ?_) | refine zc zbJ (zbE) ?_ | refine zE zbJ [] (zbE) mx (fun K hK => ?_) | refine zF zbJ [] (zbE) mx ?_ | refine zh ?_ | refine zi ?_ | refine zn ?_); simp only [go_sem, aeq, aeq.aeqF, simprocAttr, hb, Tryz.results94]) | refine zq (fun K hK => ?_) | refine zo ?_ | refine zf rfl ?_ | refine zg rfl ?_ | refine zp rfl (fun hc => ?_) (fun hc => ?_) | (refine hK _ ?_; clear hK K) | with_reducible refine And.intro ?_ ?_ | (refine (show zah _ _ = true from ?_); kernel_rfl) | omega | assumption | refine fun (hg : (_ : Bool) = (_ : Bool)) => ?_ | clear hK K)
  rw [zaa, if_pos he]
noncomputable def zbF : Ent Tryz.prog := .ofL 94 (consL zM (consL zU nilL)) (fun (d, p, _) => DP d p) (fun (d, p, _) => .tup [rootA (zaa d p).1, .d (.int .i64 (zaa d p).2)]) (fun (d, p, _) hp => ⟨rfl, znm d p hp⟩)
attribute [go_sem] zbF
open Go Go.Proofs
structure Ent2 where
 kind : Int
 loc : Int
 deriving DecidableEq
def entA (x : Ent2) : AV := .agg [.d (.int .i64 x.kind), .d (.int .i64 x.loc)]
attribute [go_sem] entA
theorem zuR (x : Ent2) : Ent2.mk x.kind x.loc = x := rfl
noncomputable def zjY : PT Ent2 := aggT (consL (intT .i64) (consL (intT .i64) nilL)) (fun p => ⟨p.1, p.2.1⟩) (fun x => (x.kind, x.loc, ())) (fun _ => rfl)
attribute [go_sem] zjY
attribute [go_sem] zuR
def entOk (x : Ent2) : Bool := if x.kind = 1 then zR x.loc else (x.kind == 0 || x.kind == 2) && x.loc == 0
def zch (x : Ent2) : Txt := [UInt8.ofNat x.kind.toNat, 0, 0, 0] ++ putN x.loc.toNat 4
def entOf (s : Txt) : Ent2 := ⟨((s.getD 0 0).toNat : Int), ((takeN ((s.drop 4).take 4) : Nat) : Int)⟩
def entT (s : Txt) : Ent2 × Int := if entOk (entOf s) = false ∨ zch (entOf s) ≠ s then (⟨0, 0⟩, 14) else (entOf s, 0)
def eRef (table i : Int) : Bool := !zR table || decide (i < 0) || decide (16 ≤ i)
def eget (d : Disk) (p : Plan) (table i : Int) : Ent2 × Int :=
 if eRef table i then (⟨0, 0⟩, 10) else if (plook d p (96 + 2 * table + i / 8)).2 ≠ 0 then (⟨0, 0⟩, (plook d p (96 + 2 * table + i / 8)).2)
 else entT (((plook d p (96 + 2 * table + i / 8)).1.take (i % 8 * 8 + 8).toNat).drop (i % 8 * 8).toNat)
def eset (d : Disk) (p : Plan) (table i : Int) (x : Ent2) : Plan × Int :=
 if eRef table i then (p, 10) else if entOk x = false then (p, 23) else zce d p (96 + 2 * table + i / 8) (i % 8 * 8) (zch x)
def zbe (p : Plan) (tt : Int) (f : Plan → Int → Txt × Int) : Nat → Int → Plan → Plan × Int
 | 0, _, q => (q, 0)
 | m + 1, i, q => if (f q i).2 ≠ 0 then (p, (f q i).2) else if (pset q (96 + 2 * tt + i) (f q i).1).2 ≠ 0 then (p, (pset q (96 + 2 * tt + i) (f q i).1).2)
  else zbe p tt f m (i + 1) (pset q (96 + 2 * tt + i) (f q i).1).1
def z64 : Txt := List.replicate 64 0
def eblank (p : Plan) (table : Int) : Plan × Int := if zR table = false then (p, 10) else zbe p table (fun _ _ => (z64, 0)) 2 0 p
def ecopy (d : Disk) (p : Plan) (fr tt : Int) : Plan × Int := if zR fr = false ∨ zR tt = false then (p, 10) else zbe p tt (fun q i => plook d q (96 + 2 * fr + i)) 2 0 p
def elook (d : Disk) (p : Plan) (l1 guest : Int) : Ent2 × Int :=
 if guest < 0 ∨ 64 ≤ guest then (⟨0, 0⟩, 10) else if (eget d p l1 (guest / 16)).2 ≠ 0 then (⟨0, 0⟩, (eget d p l1 (guest / 16)).2)
 else if (eget d p l1 (guest / 16)).1.kind = 2 then (⟨0, 0⟩, 14) else if (eget d p l1 (guest / 16)).1.kind = 0 then (⟨0, 0⟩, 0)
 else eget d p (eget d p l1 (guest / 16)).1.loc (guest % 16)
theorem zfa {x : Ent2} (h : entOk x = true) : (x.kind = 0 ∨ x.kind = 1 ∨ x.kind = 2) ∧ 0 ≤ x.loc ∧ x.loc < 256 := by
 unfold entOk at h
 split at h
 ·rename_i hk
  have := hostOk_iff.1 h
  omega
 ·simp only [Bool.and_eq_true, Bool.or_eq_true, beq_iff_eq] at h
  omega
theorem zp5 {d : Disk} {p : Plan} {t i : Int} (h : (eget d p t i).2 = 0) : entOk (eget d p t i).1 = true ∧ zR t = true ∧ 0 ≤ i ∧ i < 16 := by
 unfold eget at h ⊢
 split at h
 ·cases h
 rename_i h0
 rw [if_neg h0]
 split at h
 ·rename_i h1; exact absurd h h1
 rename_i h1
 rw [if_neg h1]
 unfold entT at h ⊢
 split at h
 ·cases h
 rename_i h2
 rw [if_neg h2]
 simp only [not_or, Bool.not_eq_false] at h2
 refine ⟨h2.1, ?_⟩
 simp only [eRef, Bool.or_eq_true, decide_eq_true_eq, not_or, Bool.not_eq_true', Bool.not_eq_false] at h0
 exact ⟨h0.1.1, by omega, by omega⟩
theorem zjZ (x : Ent2) : (zch x).length = 8 := by rw [zch, List.length_append, zar]; rfl
theorem zsW {d : Disk} {p : Plan} {t i : Int} {x : Ent2} (h : pfit p = true) : pfit (eset d p t i x).1 = true := by
 unfold eset
 split
 ·exact h
 split
 ·exact h
 ·exact zh8 h
theorem zfP {p : Plan} {tt : Int} {f : Plan → Int → Txt × Int} (h : pfit p = true) : ∀ (m : Nat) (i : Int) (q : Plan), pfit q = true → pfit (zbe p tt f m i q).1 = true
 | 0, _, _, hq => hq
 | m + 1, i, q, hq => by
  rw [zbe]
  split
  ·exact h
  split
  ·exact h
  ·exact zfP h m _ _ (zgx hq)
theorem DP.eset {d : Disk} {p : Plan} (h : DP d p) (t i : Int) (x : Ent2) : DP d (eset d p t i x).1 := ⟨h.d, zsW h.p⟩
theorem DP.eblank {d : Disk} {p : Plan} (h : DP d p) (t : Int) : DP d (eblank p t).1 := ⟨h.d, by unfold Aw.eblank; split; exact h.p; exact zfP h.p _ _ _ h.p⟩
theorem DP.ecopy {d : Disk} {p : Plan} (h : DP d p) (a b : Int) : DP d (ecopy d p a b).1 := ⟨h.d, by unfold Aw.ecopy; split; exact h.p; exact zfP h.p _ _ _ h.p⟩
theorem zkQ {t i : Int} (h : eRef t i = false) : (0 ≤ t ∧ t < 256) ∧ 0 ≤ i ∧ i < 16 := by
 simp only [eRef, Bool.or_eq_false_iff, Bool.not_eq_false', decide_eq_false_iff_not] at h
 exact ⟨hostOk_iff.1 h.1.1, by omega, by omega⟩
theorem zib (p : Plan) (tt : Int) (f : Plan → Int → Txt × Int) (i : Nat) (q : Plan) (hi : i < 2) : zbe p tt f (2 - i) i q = if (f q i).2 ≠ 0 then (p, (f q i).2) else if (pset q (96 + 2 * tt + i) (f q i).1).2 ≠ 0 then (p, (pset q (96 + 2 * tt + i) (f q i).1).2)
  else zbe p tt f (2 - (i + 1)) (i + 1 : Nat) (pset q (96 + 2 * tt + i) (f q i).1).1 := by
 rw [show 2 - i = (2 - (i + 1)) + 1 by omega, zbe]
 rfl
theorem PlanOk.of {p : Plan} (h : pfit p = true) : PlanOk p := by
 obtain ⟨hl, h24, _⟩ := zaI h
 exact ⟨by omega, by omega⟩
open Go Go.Proofs
theorem zuY (k : Int) : ACall Tryz.prog 179 0 [.d (.int .i64 k)] [] (fun r _ => r = .d (.bool (!zR k))) := by
 refine zk Tryz.func179 rfl (zu Tryz.func179 (by kernel_rfl) rfl) Tryz.ntmps179 (by simp) (fun base => ?_)
 repeat' (first | ((first | refine za noTab (zb _) (fun K hK => ?_) | refine zc noTab (zb _) ?_ | refine zh ?_ | refine zi ?_ | refine zn ?_); simp only [go_sem, aeq, aeq.aeqF, simprocAttr, zbd, Tryz.results179]) | refine zq (fun K hK => ?_) | (refine hK _ ?_; clear hK K) | with_reducible refine And.intro ?_ ?_ | omega | assumption | refine fun (hg : (_ : Bool) = (_ : Bool)) => ?_ | clear hK K)
noncomputable def zb6 : Ent Tryz.prog := .ofL 179 (consL (intT .i64) nilL) (fun (k, _) => True) (fun (k, _) => .d (.bool (!zR k))) (fun (k, _) hp => ⟨rfl, zuY k⟩)
attribute [go_sem] zb6
noncomputable def zfd : Tab := tabOf [zb6, zb0]
theorem zcH : TabOk Tryz.prog zfd := zz _
@[go_sem] theorem zrq (args : List AV) : zfd 179 args = (zb6).e args := rfl
@[go_sem] theorem zt4 (args : List AV) : zfd 88 args = (zb0).e args := rfl
theorem zqt (x : Ent2) : ACall Tryz.prog 132 0 [entA x] [] (fun r _ => r = .d (.bool (entOk x))) := by
 refine zk Tryz.func132 rfl (zu Tryz.func132 (by kernel_rfl) rfl) Tryz.ntmps132 (by simp) (fun base => ?_)
 repeat' (first | ((first | refine za zfd (zcH) (fun K hK => ?_) | refine zc zfd (zcH) ?_ | refine zh ?_ | refine zi ?_ | refine zn ?_); simp only [go_sem, aeq, aeq.aeqF, simprocAttr, Tryz.results132]) | refine zq (fun K hK => ?_) | refine zo ?_ | refine zf rfl ?_ | refine zg rfl ?_ | refine zp rfl (fun hc => ?_) (fun hc => ?_) | (refine hK _ ?_; clear hK K) | with_reducible refine And.intro ?_ ?_ | omega | assumption | clear hK K)
 all_goals simp_all [entOk]
noncomputable def zeD : Ent Tryz.prog := .ofL 132 (consL zjY nilL) (fun (x, _) => True) (fun (x, _) => .d (.bool (entOk x))) (fun (x, _) hp => ⟨rfl, zqt x⟩)
attribute [go_sem] zeD
theorem zqu (t : Int) (i : Int) : ACall Tryz.prog 129 0 [.d (.int .i64 t), .d (.int .i64 i)] [] (fun r _ => r = .tup [.d (.int .i64 (if eRef t i then 0 else 96 + 2 * t + i / 8)), .d (.int .i64 (if eRef t i then 0 else i % 8 * 8)), .d (.int .i64 (if eRef t i then 10 else 0))]) := by
 refine zk Tryz.func129 rfl (zu Tryz.func129 (by kernel_rfl) rfl) Tryz.ntmps129 (by simp) (fun base => ?_)
 cases hr : eRef t i with
 | true =>
  have hdec : (!zR t || decide (i < 0) || decide (16 ≤ i)) = true := hr
  repeat' (first | ((first | refine za zfd (zcH) (fun K hK => ?_) | refine zc zfd (zcH) ?_ | refine zh ?_ | refine zi ?_ | refine zn ?_); simp only [go_sem, aeq, aeq.aeqF, simprocAttr, hdec, Tryz.results129]) | refine zq (fun K hK => ?_) | refine zf rfl ?_ | refine zg rfl ?_ | refine zp rfl (fun hc => ?_) (fun hc => ?_) | (refine hK _ ?_; clear hK K) | with_reducible refine And.intro ?_ ?_ | omega | assumption | refine fun (hg : (_ : Bool) = (_ : Bool)) => ?_ | clear hK K)
 | false =>
  have hdec : (!zR t || decide (i < 0) || decide (16 ≤ i)) = false := hr
  obtain ⟨⟨ht0, ht1⟩, hi0, hi1⟩ := zkQ hr
  have hw0 : IntKind.i64.wrap (i * 8) = i * 8 := zD (by omega) (by omega)
  have hw1 : IntKind.i64.wrap ((i * 8).tdiv 64) = i / 8 := by rw [Int.tdiv_eq_ediv_of_nonneg (by omega), zD (by omega) (by omega)]; omega
  have hw2 : IntKind.i64.wrap (96 + 2 * t + i / 8) = 96 + 2 * t + i / 8 := zD (by omega) (by omega)
  have hw3 : (i * 8).tmod 64 = i % 8 * 8 := by rw [Int.tmod_eq_emod_of_nonneg (by omega)]; omega
  repeat' (first | ((first | refine za zfd (zcH) (fun K hK => ?_) | refine zc zfd (zcH) ?_ | refine zh ?_ | refine zi ?_ | refine zn ?_); simp only [go_sem, aeq, aeq.aeqF, simprocAttr, hdec, hw0, hw1, hw2, hw3, Tryz.results129]) | refine zq (fun K hK => ?_) | refine zf rfl ?_ | refine zg rfl ?_ | refine zp rfl (fun hc => ?_) (fun hc => ?_) | (refine hK _ ?_; clear hK K) | with_reducible refine And.intro ?_ ?_ | omega | assumption | refine fun (hg : (_ : Bool) = (_ : Bool)) => ?_ | clear hK K)
noncomputable def zeE : Ent Tryz.prog := .ofL 129 (consL (intT .i64) (consL (intT .i64) nilL)) (fun (t, i, _) => True) (fun (t, i, _) => .tup [.d (.int .i64 (if eRef t i then 0 else 96 + 2 * t + i / 8)), .d (.int .i64 (if eRef t i then 0 else i % 8 * 8)), .d (.int .i64 (if eRef t i then 10 else 0))]) (fun (t, i, _) hp => ⟨rfl, zqu t i⟩)
attribute [go_sem] zeE
theorem zj8 : ∀ k < 3, ∀ l < 256, putN (k * 72057594037927936 + l) 8 = [UInt8.ofNat k, 0, 0, 0] ++ putN l 4 := by decide +kernel
theorem zqv : ∀ k < 3, ∀ l < 256, ibits .or .u64 (ishl .u64 ((k : Nat) : Int) 56) ((l : Nat) : Int) = ((k * 72057594037927936 + l : Nat) : Int) := by decide +kernel
noncomputable def zmi : Tab := tabOf [zbO]
theorem zj9 : TabOk Tryz.prog zmi := zz _
@[go_sem] theorem zth (args : List AV) : zmi 184 args = (zbO).e args := rfl
theorem znz (x : Ent2) (h : entOk x = true) : ACall Tryz.prog 217 0 [entA x] [] (fun r _ => r = .d (.str (zch x))) := by
 refine zA ?_
 refine zk Tryz.func217 rfl (zu Tryz.func217 (by kernel_rfl) rfl) Tryz.ntmps217 (by simp) (fun base => ?_)
 obtain ⟨hk, ha0, ha1⟩ := zfa h
 obtain ⟨kind, loc⟩ := x
 simp only at hk ha0 ha1
 obtain ⟨k, rfl⟩ : ∃ k : Nat, kind = k := ⟨kind.toNat, by omega⟩
 obtain ⟨l, rfl⟩ : ∃ l : Nat, loc = l := ⟨loc.toNat, by omega⟩
 have h1 := zj8 k (by omega) l (by omega)
 have h2 := zqv k (by omega) l (by omega)
 have hw1 : IntKind.u64.wrap (k : Int) = k := zaH (by omega) (by omega)
 have hw2 : IntKind.u64.wrap (l : Int) = l := zaH (by omega) (by omega)
 repeat' (first | ((first | refine za zmi (zj9) (fun K hK => ?_) | refine zc zmi (zj9) ?_ | refine zh ?_ | refine zi ?_ | refine zn ?_); simp only [go_sem, aeq, aeq.aeqF, simprocAttr, hw1, hw2, h2, zvM, Int.toNat_natCast, h1, Tryz.results217]) | refine zq (fun K hK => ?_) | (refine hK _ ?_; clear hK K) | with_reducible refine And.intro ?_ ?_ | omega | assumption | clear hK K)
 rfl
noncomputable def zdS : Ent Tryz.prog := .ofL 217 (consL zjY nilL) (fun (x, _) => entOk x = true) (fun (x, _) => .d (.str (zch x))) (fun (x, _) hp => ⟨rfl, znz x hp⟩)
attribute [go_sem] zdS
theorem zti (n : Nat) : ishr .u64 (n : Int) 56 = ((n / 72057594037927936 : Nat) : Int) := by
 unfold ishr
 rw [show min ((56 : Int).toNat) IntKind.u64.bits = 56 from rfl]
 rw [Int.fdiv_eq_ediv_of_nonneg _ (by decide)]
 norm_cast
theorem ztj (n : Nat) (hn : n < 18446744073709551616) : ibits .and .u64 (n : Int) 72057594037927935 = ((n % 72057594037927936 : Nat) : Int) := by
 show IntKind.u64.wrap (((BitVec.ofInt 64 (n : Int) &&& BitVec.ofInt 64 72057594037927935).toNat : Nat) : Int) = _
 have h2 : BitVec.ofInt 64 72057594037927935 = BitVec.ofNat 64 72057594037927935 := by decide
 rw [h2, BitVec.ofInt_natCast, BitVec.toNat_and, BitVec.toNat_ofNat, BitVec.toNat_ofNat]
 rw [Nat.mod_eq_of_lt (by omega), show 72057594037927935 % 2 ^ 64 = 2 ^ 56 - 1 by decide, Nat.and_two_pow_sub_one_eq_mod, zaH (by omega) (by omega)]
theorem zk7 (e f g h : UInt8) : putN (takeN [e, f, g, h]) 4 = [e, f, g, h] := by
 simp only [takeN, putN, List.foldl, List.nil_append, List.cons_append]
 have := e.toNat_lt; have := f.toNat_lt; have := g.toNat_lt; have := h.toNat_lt
 have key : ∀ (n : Nat) (c : UInt8), n % 256 = c.toNat → UInt8.ofNat n = c := fun n c hh => by
  apply UInt8.toNat_inj.1
  rw [UInt8.toNat_ofNat']
  simpa using hh
 rw [key _ e (by omega), key _ f (by omega), key _ g (by omega), key _ h (by omega)]
theorem ztk (s : Txt) (hs : s.length = 8) : entT s = if entOk ⟨((takeN s / 72057594037927936 : Nat) : Int), ((takeN s % 72057594037927936 : Nat) : Int)⟩ = true then (⟨((takeN s / 72057594037927936 : Nat) : Int), ((takeN s % 72057594037927936 : Nat) : Int)⟩, 0) else (⟨0, 0⟩, 14) := by
 match s, hs with
 | [a, b, c, d, e, f, g, h], _ =>
  obtain ⟨L, hL⟩ : ∃ L, L = takeN [e, f, g, h] := ⟨_, rfl⟩
  have hL4 : L < 4294967296 := by
   have h1 := zcW (l := [e, f, g, h]) (i := 4) (by simp)
   have h2 : 256 ^ 4 = 4294967296 := by decide
   omega
  have hpt : putN L 4 = [e, f, g, h] := by rw [hL]; exact zk7 e f g h
  have ha := a.toNat_lt; have hb := b.toNat_lt; have hc := c.toNat_lt; have hd := d.toNat_lt
  have hn : takeN [a, b, c, d, e, f, g, h] = ((a.toNat * 256 + b.toNat) * 256 + c.toNat) * 256 * 4294967296 + d.toNat * 4294967296 + L := by
   rw [hL]
   simp only [takeN, List.foldl]
   omega
  rw [hn]
  have h1 : (((a.toNat * 256 + b.toNat) * 256 + c.toNat) * 256 * 4294967296 + d.toNat * 4294967296 + L) / 72057594037927936 = a.toNat := by omega
  have h2 : (((a.toNat * 256 + b.toNat) * 256 + c.toNat) * 256 * 4294967296 + d.toNat * 4294967296 + L) % 72057594037927936 = (b.toNat * 256 + c.toNat) * 256 * 4294967296 + d.toNat * 4294967296 + L := by omega
  rw [h1, h2]
  have he : entOf [a, b, c, d, e, f, g, h] = ⟨(a.toNat : Int), (L : Int)⟩ := by rw [hL]; rfl
  have hby : zch ⟨(a.toNat : Int), (L : Int)⟩ = [a, 0, 0, 0, e, f, g, h] := by
   rw [zch]
   simp only [Int.toNat_natCast, hpt]
   rw [show UInt8.ofNat a.toNat = a by simp]
   rfl
  rw [entT, he, hby]
  by_cases hz : b = 0 ∧ c = 0 ∧ d = 0
  ·obtain ⟨rfl, rfl, rfl⟩ := hz
   simp only [UInt8.toNat_zero, Nat.zero_mul, Nat.zero_add]
   cases hk : entOk ⟨(a.toNat : Int), (L : Int)⟩ <;> simp
  ·have hne : ([a, 0, 0, 0, e, f, g, h] : Txt) ≠ [a, b, c, d, e, f, g, h] := by
    intro hh
    simp only [List.cons.injEq, true_and] at hh
    exact hz ⟨hh.1.symm, hh.2.1.symm, hh.2.2.1.symm⟩
   rw [if_pos (.inr hne), if_neg]
   intro hk
   obtain ⟨_, _, hlt⟩ := zfa hk
   simp only at hlt
   apply hz
   have hb0 : b.toNat = 0 ∧ c.toNat = 0 ∧ d.toNat = 0 := by omega
   exact ⟨UInt8.toNat_inj.1 hb0.1, UInt8.toNat_inj.1 hb0.2.1, UInt8.toNat_inj.1 hb0.2.2⟩
noncomputable def zaM : Tab := tabOf [zeE, zaC, zbZ, zeD, zdS, zb3]
theorem zab : TabOk Tryz.prog zaM := zz _
@[go_sem] theorem zn4 (args : List AV) : zaM 129 args = (zeE).e args := rfl
@[go_sem] theorem zqw (args : List AV) : zaM 130 args = (zaC).e args := rfl
@[go_sem] theorem zrr (args : List AV) : zaM 131 args = (zbZ).e args := rfl
@[go_sem] theorem zn5 (args : List AV) : zaM 132 args = (zeD).e args := rfl
@[go_sem] theorem znA (args : List AV) : zaM 217 args = (zdS).e args := rfl
@[go_sem] theorem zn6 (args : List AV) : zaM 186 args = (zb3).e args := rfl
open Go Go.Proofs
theorem zuZ (d : Disk) (p : Plan) (t : Int) (i : Int) (h : DP d p) : ACall Tryz.prog 80 0 [diskA d, planA p, .d (.int .i64 t), .d (.int .i64 i)] [] (fun r _ => r = .tup [entA (eget d p t i).1, .d (.int .i64 (eget d p t i).2)]) := by
 refine zA ?_
 refine zk Tryz.func80 rfl (zu Tryz.func80 (by kernel_rfl) rfl) Tryz.ntmps80 (by simp) (fun base => ?_)
 have h1 := h.dok
 have h2 := h.pok
 have h3 := h.plen
 by_cases hr : eRef t i = true
 ·repeat' (first | ((first | refine za zaM (zab) (fun K hK => ?_) | refine zc zaM (zab) ?_ | refine zh ?_ | refine zi ?_ | refine zn ?_); simp only [go_sem, aeq, aeq.aeqF, simprocAttr, hr, if_true, Tryz.results80]) | refine zq (fun K hK => ?_) | refine zf rfl ?_ | refine zg rfl ?_ | refine zp rfl (fun hc => ?_) (fun hc => ?_) | (refine hK _ ?_; clear hK K) | with_reducible refine And.intro ?_ ?_ | omega | assumption | clear hK K)
  rw [eget, if_pos hr]
 have hr : eRef t i = false := by simpa using hr
 have hif : ∀ (a b : Int), (if eRef t i = true then a else b) = b := fun a b => by rw [if_neg (by rw [hr]; exact Bool.false_ne_true)]
 obtain ⟨⟨ht0, ht1⟩, hi0, hi1⟩ := zkQ hr
 obtain ⟨A, hA⟩ : ∃ A, A = 96 + 2 * t + i / 8 := ⟨_, rfl⟩
 have hrg0 : eget d p t i = if (plook d p A).2 ≠ 0 then (⟨0, 0⟩, (plook d p A).2) else entT (((plook d p A).1.take (i % 8 * 8 + 8).toNat).drop (i % 8 * 8).toNat) := by
  rw [eget, if_neg (by rw [hr]; exact Bool.false_ne_true), hA]
 by_cases he : (plook d p A).2 = 0
 ·have hb : ((plook d p A).2 != 0) = false := by simpa using he
  have h64 := ze4 h he
  rw [if_neg (by simpa using he)] at hrg0
  obtain ⟨S, hS⟩ : ∃ S, S = ((plook d p A).1.drop (i % 8 * 8).toNat).take 8 := ⟨_, rfl⟩
  have hS2 : ((plook d p A).1.take (i % 8 * 8 + 8).toNat).drop (i % 8 * 8).toNat = S := by
   rw [List.drop_take, hS, show (i % 8 * 8 + 8).toNat - (i % 8 * 8).toNat = 8 by omega]
  rw [hS2] at hrg0
  have hSl : S.length = 8 := by rw [hS, List.length_take, List.length_drop]; omega
  rw [ztk S hSl] at hrg0
  have hnl := zcW (l := S) (i := 8) (by omega)
  have ht8 := zhm (s := (plook d p A).1.drop (i % 8 * 8).toNat) (z := 8) 8 rfl (by omega) (by omega) (by rw [List.length_drop]; omega)
  rw [← hS] at ht8
  obtain ⟨n, hn⟩ : ∃ n, n = takeN S := ⟨_, rfl⟩
  rw [← hn] at ht8 hrg0 hnl
  have hsh := zti n
  have had := ztj n (by omega)
  have hw1 : IntKind.i64.wrap ((n / 72057594037927936 : Nat) : Int) = ((n / 72057594037927936 : Nat) : Int) := zD (by omega) (by omega)
  have hw2 : IntKind.i64.wrap ((n % 72057594037927936 : Nat) : Int) = ((n % 72057594037927936 : Nat) : Int) := zD (by omega) (by omega)
  have hld : ((plook d p A).1.drop (i % 8 * 8).toNat).length ≤ 64 := by rw [List.length_drop]; omega
  have htk : List.take (plook d p A).1.length (plook d p A).1 = (plook d p A).1 := List.take_length
  obtain ⟨x, hx⟩ : ∃ x : Ent2, x = ⟨((n / 72057594037927936 : Nat) : Int), ((n % 72057594037927936 : Nat) : Int)⟩ := ⟨_, rfl⟩
  rw [← hx] at hrg0
  have hx1 : ((n / 72057594037927936 : Nat) : Int) = x.kind := by rw [hx]
  have hx2 : ((n % 72057594037927936 : Nat) : Int) = x.loc := by rw [hx]
  rw [hx1] at hw1 hsh
  rw [hx2] at hw2 had
  repeat' (first | ((first | refine za zaM (zab) (fun K hK => ?_) | refine zc zaM (zab) ?_ | refine zh ?_ | refine zi ?_ | refine zn ?_); simp only [go_sem, aeq, aeq.aeqF, simprocAttr, hif, ← hA, hb, ht8, htk, hsh, had, hw1, hw2, Tryz.results80]) | refine zq (fun K hK => ?_) | refine zf rfl ?_ | refine zg rfl ?_ | refine zp rfl (fun hc => ?_) (fun hc => ?_) | (refine hK _ ?_; clear hK K) | with_reducible refine And.intro ?_ ?_ | omega | assumption | clear hK K)
  all_goals (rw [hrg0]; simp_all; done)
 ·have hb : ((plook d p A).2 != 0) = true := by simpa using he
  rw [if_pos he] at hrg0
  repeat' (first | ((first | refine za zaM (zab) (fun K hK => ?_) | refine zc zaM (zab) ?_ | refine zh ?_ | refine zi ?_ | refine zn ?_); simp only [go_sem, aeq, aeq.aeqF, simprocAttr, hif, ← hA, hb, Tryz.results80]) | refine zq (fun K hK => ?_) | refine zf rfl ?_ | refine zg rfl ?_ | refine zp rfl (fun hc => ?_) (fun hc => ?_) | (refine hK _ ?_; clear hK K) | with_reducible refine And.intro ?_ ?_ | omega | assumption | clear hK K)
  rw [hrg0]
noncomputable def zdT : Ent Tryz.prog := .ofL 80 (consL zM (consL zU (consL (intT .i64) (consL (intT .i64) nilL)))) (fun (d, p, t, i, _) => DP d p) (fun (d, p, t, i, _) => .tup [entA (eget d p t i).1, .d (.int .i64 (eget d p t i).2)]) (fun (d, p, t, i, _) hp => ⟨rfl, zuZ d p t i hp⟩)
attribute [go_sem] zdT
theorem zu0 (d : Disk) (p : Plan) (t : Int) (i : Int) (x : Ent2) (h : DP d p) : ACall Tryz.prog 199 0 [diskA d, planA p, .d (.int .i64 t), .d (.int .i64 i), entA x] [] (fun r _ => r = .tup [planA (eset d p t i x).1, .d (.int .i64 (eset d p t i x).2)]) := by
 refine zA ?_
 refine zk Tryz.func199 rfl (zu Tryz.func199 (by kernel_rfl) rfl) Tryz.ntmps199 (by simp) (fun base => ?_)
 have h1 := h.dok
 have h2 := h.puts
 have h3 := h.p
 by_cases hr : eRef t i = true
 ·repeat' (first | ((first | refine za zaM (zab) (fun K hK => ?_) | refine zc zaM (zab) ?_ | refine ze zaM (zab) mx (fun K hK => ?_) | refine zj zaM (zab) mx ?_ | refine zh ?_ | refine zi ?_ | refine zn ?_); simp only [go_sem, aeq, aeq.aeqF, simprocAttr, hr, if_true, Tryz.results199]) | refine zq (fun K hK => ?_) | refine zo ?_ | refine zf rfl ?_ | refine zg rfl ?_ | refine zp rfl (fun hc => ?_) (fun hc => ?_) | (refine hK _ ?_; clear hK K) | with_reducible refine And.intro ?_ ?_ | (refine (show zt _ _ = true from ?_); kernel_rfl) | omega | assumption | clear hK K)
  rw [eset, if_pos hr]
 have hr : eRef t i = false := by simpa using hr
 have hif : ∀ (a b : Int), (if eRef t i = true then a else b) = b := fun a b => by rw [if_neg (by rw [hr]; exact Bool.false_ne_true)]
 obtain ⟨⟨ht0, ht1⟩, hi0, hi1⟩ := zkQ hr
 by_cases hx : entOk x = true
 ·have hl := zjZ x
  repeat' (first | ((first | refine za zaM (zab) (fun K hK => ?_) | refine zc zaM (zab) ?_ | refine ze zaM (zab) mx (fun K hK => ?_) | refine zj zaM (zab) mx ?_ | refine zh ?_ | refine zi ?_ | refine zn ?_); simp only [go_sem, aeq, aeq.aeqF, simprocAttr, hif, hx, hl, Tryz.results199]) | refine zq (fun K hK => ?_) | refine zo ?_ | refine zf rfl ?_ | refine zg rfl ?_ | refine zp rfl (fun hc => ?_) (fun hc => ?_) | (refine hK _ ?_; clear hK K) | with_reducible refine And.intro ?_ ?_ | (refine (show zt _ _ = true from ?_); kernel_rfl) | omega | assumption | clear hK K)
  rw [eset, if_neg (by rw [hr]; exact Bool.false_ne_true), if_neg (by rw [hx]; exact fun h => by cases h)]
 ·have hx : entOk x = false := by simpa using hx
  repeat' (first | ((first | refine za zaM (zab) (fun K hK => ?_) | refine zc zaM (zab) ?_ | refine ze zaM (zab) mx (fun K hK => ?_) | refine zj zaM (zab) mx ?_ | refine zh ?_ | refine zi ?_ | refine zn ?_); simp only [go_sem, aeq, aeq.aeqF, simprocAttr, hif, hx, Tryz.results199]) | refine zq (fun K hK => ?_) | refine zo ?_ | refine zf rfl ?_ | refine zg rfl ?_ | refine zp rfl (fun hc => ?_) (fun hc => ?_) | (refine hK _ ?_; clear hK K) | with_reducible refine And.intro ?_ ?_ | (refine (show zt _ _ = true from ?_); kernel_rfl) | omega | assumption | clear hK K)
  rw [eset, if_neg (by rw [hr]; exact Bool.false_ne_true), if_pos hx]
noncomputable def zhs : Ent Tryz.prog := .ofL 199 (consL zM (consL zU (consL (intT .i64) (consL (intT .i64) (consL zjY nilL))))) (fun (d, p, t, i, x, _) => DP d p) (fun (d, p, t, i, x, _) => .tup [planA (eset d p t i x).1, .d (.int .i64 (eset d p t i x).2)]) (fun (d, p, t, i, x, _) hp => ⟨rfl, zu0 d p t i x hp⟩)
attribute [go_sem] zhs
noncomputable def zif : Tab := tabOf [zdT]
theorem zfe : TabOk Tryz.prog zif := zz _
@[go_sem] theorem zrs (args : List AV) : zif 80 args = (zdT).e args := rfl
theorem ztl (d : Disk) (p : Plan) (l1 : Int) (g : Int) (h : DP d p) : ACall Tryz.prog 29 0 [diskA d, planA p, .d (.int .i64 l1), .d (.int .i64 g)] [] (fun r _ => r = .tup [entA (elook d p l1 g).1, .d (.int .i64 (elook d p l1 g).2)]) := by
 refine zA ?_
 refine zk Tryz.func29 rfl (zu Tryz.func29 (by kernel_rfl) rfl) Tryz.ntmps29 (by simp) (fun base => ?_)
 by_cases hg : g < 0 ∨ 64 ≤ g
 ·have hdec : (decide (g < 0) || decide (64 ≤ g)) = true := by simpa using hg
  repeat' (first | ((first | refine za zif (zfe) (fun K hK => ?_) | refine zc zif (zfe) ?_ | refine zh ?_ | refine zi ?_ | refine zn ?_); simp only [go_sem, aeq, aeq.aeqF, simprocAttr, hdec, Tryz.results29]) | refine zq (fun K hK => ?_) | refine zo ?_ | refine zf rfl ?_ | refine zg rfl ?_ | refine zp rfl (fun hc => ?_) (fun hc => ?_) | (refine hK _ ?_; clear hK K) | with_reducible refine And.intro ?_ ?_ | omega | assumption | refine fun (hg : (_ : Bool) = (_ : Bool)) => ?_ | clear hK K)
  rw [elook, if_pos hg]
 ·have hdec : (decide (g < 0) || decide (64 ≤ g)) = false := by simpa using hg
  have hw1 : IntKind.i64.wrap (g.tdiv 16) = g / 16 := by rw [Int.tdiv_eq_ediv_of_nonneg (by omega), zD (by omega) (by omega)]
  have hw2 : g.tmod 16 = g % 16 := Int.tmod_eq_emod_of_nonneg (by omega)
  repeat' (first | ((first | refine za zif (zfe) (fun K hK => ?_) | refine zc zif (zfe) ?_ | refine zh ?_ | refine zi ?_ | refine zn ?_); simp only [go_sem, aeq, aeq.aeqF, simprocAttr, hdec, hw1, hw2, Tryz.results29]) | refine zq (fun K hK => ?_) | refine zo ?_ | refine zf rfl ?_ | refine zg rfl ?_ | refine zp rfl (fun hc => ?_) (fun hc => ?_) | (refine hK _ ?_; clear hK K) | with_reducible refine And.intro ?_ ?_ | omega | assumption | refine fun (hg : (_ : Bool) = (_ : Bool)) => ?_ | clear hK K)
  all_goals (rw [elook, if_neg hg]; by_cases e1 : (eget d p l1 (g / 16)).2 = 0 <;> by_cases e2 : (eget d p l1 (g / 16)).1.kind = 2 <;> by_cases e3 : (eget d p l1 (g / 16)).1.kind = 0 <;> simp_all; done)
noncomputable def zcI : Ent Tryz.prog := .ofL 29 (consL zM (consL zU (consL (intT .i64) (consL (intT .i64) nilL)))) (fun (d, p, l1, g, _) => DP d p) (fun (d, p, l1, g, _) => .tup [entA (elook d p l1 g).1, .d (.int .i64 (elook d p l1 g).2)]) (fun (d, p, l1, g, _) hp => ⟨rfl, ztl d p l1 g hp⟩)
attribute [go_sem] zcI
open Go Go.Proofs
noncomputable def zej : Tab := tabOf [za9, zb0, zaC]
theorem zcJ : TabOk Tryz.prog zej := zz _
@[go_sem] theorem zn7 (args : List AV) : zej 30 args = (za9).e args := rfl
@[go_sem] theorem zt5 (args : List AV) : zej 88 args = (zb0).e args := rfl
@[go_sem] theorem zqx (args : List AV) : zej 130 args = (zaC).e args := rfl
theorem znB (p : Plan) (i : Int) : ACall Tryz.prog 214 0 [planA p, .d (.int .i64 i)] [] (fun r _ => r = .tup [.d (.str z64), .d (.int .i64 0)]) := by
 refine zk Tryz.func214 rfl (zu Tryz.func214 (by kernel_rfl) rfl) Tryz.ntmps214 (by simp) (fun base => ?_)
 repeat' (first | ((first | refine za zej (zcJ) (fun K hK => ?_) | refine zc zej (zcJ) ?_ | refine zh ?_ | refine zi ?_ | refine zn ?_); simp only [go_sem, aeq, aeq.aeqF, simprocAttr, Tryz.results214]) | refine zq (fun K hK => ?_) | (refine hK _ ?_; clear hK K) | with_reducible refine And.intro ?_ ?_ | omega | assumption | clear hK K)
 rfl
noncomputable def zdU : Ent Tryz.prog := .ofL 214 (consL zU (consL (intT .i64) nilL)) (fun (p, i, _) => True) (fun (p, i, _) => .tup [.d (.str z64), .d (.int .i64 0)]) (fun (p, i, _) hp => ⟨rfl, znB p i⟩)
attribute [go_sem] zdU
theorem zqy (q : Plan) (i : Int) (d : Disk) (a : Int) (hd : DiskOk d) (hq : PlanOk q) (hl : q.targets.length = q.texts.length) (h0 : 0 ≤ a) (h1 : a < 256) (h2 : 0 ≤ i) (h3 : i < 2) : ACall Tryz.prog 216 0 [planA q, .d (.int .i64 i), .dp (diskC d), .dp [.d (.int .i64 a)]] [] (fun r _ => r = .tup [.d (.str (plook d q (96 + 2 * a + i)).1), .d (.int .i64 (plook d q (96 + 2 * a + i)).2)]) := by
 refine zk Tryz.func216 rfl (zu Tryz.func216 (by kernel_rfl) rfl) Tryz.ntmps216 (by simp) (fun base => ?_)
 have hw1 : IntKind.i64.wrap (96 + 2 * a + i) = 96 + 2 * a + i := zD (by omega) (by omega)
 repeat' (first | ((first | refine za zej (zcJ) (fun K hK => ?_) | refine zc zej (zcJ) ?_ | refine ze zej (zcJ) mx (fun K hK => ?_) | refine zj zej (zcJ) mx ?_ | refine zh ?_ | refine zi ?_ | refine zn ?_); simp only [go_sem, aeq, aeq.aeqF, simprocAttr, hw1, Tryz.results216]) | refine zq (fun K hK => ?_) | (refine hK _ ?_; clear hK K) | with_reducible refine And.intro ?_ ?_ | (refine (show zt _ _ = true from ?_); kernel_rfl) | omega | assumption | clear hK K)
noncomputable def zeF : Ent Tryz.prog := .ofL 216 (consL zU (consL (intT .i64) (consL zgZ (consL (dpT (consL (intT .i64) nilL) (fun p => p) (fun p => p) (fun _ => rfl)) nilL)))) (fun (q, i, d, (a, _), _) => (DiskOk d) ∧ (PlanOk q) ∧ (q.targets.length = q.texts.length) ∧ (0 ≤ a) ∧ (a < 256) ∧ (0 ≤ i) ∧ (i < 2)) (fun (q, i, d, (a, _), _) => .tup [.d (.str (plook d q (96 + 2 * a + i)).1), .d (.int .i64 (plook d q (96 + 2 * a + i)).2)]) (fun (q, i, d, (a, _), _) hp => ⟨rfl, zqy q i d a hp.1 hp.2.1 hp.2.2.1 hp.2.2.2.1 hp.2.2.2.2.1 hp.2.2.2.2.2.1 hp.2.2.2.2.2.2⟩)
attribute [go_sem] zeF
noncomputable def zaj : Tab := tabOf [zdU, zeF, zb0, zdG]
theorem zO : TabOk Tryz.prog zaj := zz _
@[go_sem] theorem znC (args : List AV) : zaj 214 args = (zdU).e args := rfl
@[go_sem] theorem zn8 (args : List AV) : zaj 216 args = (zeF).e args := rfl
@[go_sem] theorem zt6 (args : List AV) : zaj 88 args = (zb0).e args := rfl
@[go_sem] theorem zrt (args : List AV) : zaj 210 args = (zdG).e args := rfl
theorem zqz (p : Plan) (t : Int) (hp : pfit p = true) (ht0 : 0 ≤ t) (ht1 : t < 256) : ACall Tryz.prog 213 0 [planA p, .d (.int .i64 t), .fn (.func 214) [] []] [] (fun r _ => r = .tup [planA (zbe p t (fun _ _ => (z64, 0)) 2 0 p).1, .d (.int .i64 (zbe p t (fun _ _ => (z64, 0)) 2 0 p).2)]) := by
 refine zA ?_
 refine zk Tryz.func213 rfl (zu Tryz.func213 (by kernel_rfl) rfl) Tryz.ntmps213 (by simp) (fun base => ?_)
 obtain ⟨f, hf⟩ : ∃ f : Plan → Int → Txt × Int, f = fun _ _ => (z64, 0) := ⟨_, rfl⟩
 rw [← hf]
 repeat' (first | ((first | refine za zaj (zO) (fun K hK => ?_) | refine zc zaj (zO) ?_ | refine ze zaj (zO) mx (fun K hK => ?_) | refine zj zaj (zO) mx ?_ | refine zh ?_ | refine zi ?_ | refine zn ?_); simp only [go_sem, aeq, aeq.aeqF, simprocAttr, Tryz.results213]) | refine zq (fun K hK => ?_) | refine zo ?_ | refine zf rfl ?_ | refine zg rfl ?_ | refine zp rfl (fun hc => ?_) (fun hc => ?_) | (refine hK _ ?_; clear hK K) | with_reducible refine And.intro ?_ ?_ | (refine (show zt _ _ = true from ?_); kernel_rfl) | omega | assumption | clear hK K)
 refine zL (fun q : { q : Nat × Plan // q.1 ≤ 2 ∧ pfit q.2 = true ∧ zbe p t f 2 0 p = zbe p t f (2 - q.1) q.1 q.2 } => ⟨[(1, true, .d (.int .i64 t)), (2, true, .fn (.func 214) [] []), (3, true, .vp 0 0), (6, true, .vp 1 0), (8, true, .vp 2 0), (13, true, .d (.int .i64 q.1.1))], [(2, (.var [.d (.sl 1 (q.1.2.targets.map intD)), .d (.sl 1 (q.1.2.texts.map strD))])), (1, .var [.nils 1, .nils 1]), (0, (.var [.d (.sl 1 (p.targets.map intD)), .d (.sl 1 (p.texts.map strD))]))], some []⟩) (fun q => 2 - q.1.1) ⟨(0, p), Nat.zero_le 2, hp, rfl⟩ (by simp only [AS.le, leT, leH, zr, AsgK, AV.le, AV.leL, AObj.le, inH, idsT, idsH, AV.ids, AV.idsL, AV.idsR, AObj.ids, lk, hget, go_sem, aeq, aeq.aeqF, simprocAttr] <;> and_intros <;> rfl) (fun q => ?_)
 obtain ⟨⟨i, q⟩, hi, hq, hf2⟩ := q
 simp only at hi hq hf2 ⊢
 have hqo := PlanOk.of hq
 obtain ⟨hql, hq24, _⟩ := zaI hq
 rcases Nat.lt_or_ge i 2 with hlt | hge
 ·have hcmp : decide ((i : Int) < 2) = true := decide_eq_true (by omega)
  have hwi := zP (i := i) (by omega)
  have hw1 : IntKind.i64.wrap (96 + 2 * t + (i : Int)) = 96 + 2 * t + i := zD (by omega) (by omega)
  rw [zib p t f i q hlt] at hf2
  have hf0 : f q i = (z64, 0) := by rw [hf]
  simp only [hf0] at hf2
  rw [if_neg (show ¬ (0 : Int) ≠ 0 by decide)] at hf2
  repeat' (first | ((first | refine za zaj (zO) (fun K hK => ?_) | refine zc zaj (zO) ?_ | refine ze zaj (zO) mx (fun K hK => ?_) | refine zj zaj (zO) mx ?_ | refine zh ?_ | refine zi ?_ | refine zn ?_); simp only [go_sem, aeq, aeq.aeqF, simprocAttr, hcmp, hw1, Tryz.results213]) | refine zq (fun K hK => ?_) | refine zo ?_ | refine zf rfl ?_ | refine zg rfl ?_ | refine zp rfl (fun hc => ?_) (fun hc => ?_) | (refine hK _ ?_; clear hK K) | with_reducible refine And.intro ?_ ?_ | (refine (show zt _ _ = true from ?_); kernel_rfl) | omega | assumption | clear hK K)
  ·have hc : (pset q (96 + 2 * t + i) z64).2 ≠ 0 := by simpa using hc
   rw [hf2, if_pos hc]
  ·have hc : ¬ (pset q (96 + 2 * t + i) z64).2 ≠ 0 := by simpa using hc
   rw [if_neg hc] at hf2
   exact ⟨⟨(i + 1, (pset q (96 + 2 * t + i) z64).1), by omega, zgx hq, hf2⟩, by simp only [AS.le, leT, leH, zr, AsgK, AV.le, AV.leL, AObj.le, inH, idsT, idsH, AV.ids, AV.idsL, AV.idsR, AObj.ids, lk, hget, go_sem, aeq, aeq.aeqF, simprocAttr, hwi], by simp; omega⟩
 ·have hcmp : decide ((i : Int) < 2) = false := decide_eq_false (by omega)
  repeat' (first | ((first | refine za zaj (zO) (fun K hK => ?_) | refine zc zaj (zO) ?_ | refine ze zaj (zO) mx (fun K hK => ?_) | refine zj zaj (zO) mx ?_ | refine zh ?_ | refine zi ?_ | refine zn ?_); simp only [go_sem, aeq, aeq.aeqF, simprocAttr, hcmp, Tryz.results213]) | refine zq (fun K hK => ?_) | refine zo ?_ | refine zf rfl ?_ | refine zg rfl ?_ | refine zp rfl (fun hc => ?_) (fun hc => ?_) | (refine hK _ ?_; clear hK K) | with_reducible refine And.intro ?_ ?_ | (refine (show zt _ _ = true from ?_); kernel_rfl) | omega | assumption | clear hK K)
  rw [hf2, show 2 - i = 0 by omega]
  rfl
noncomputable def zeG : Ent Tryz.prog := .ofL 213 (consL zU (consL (intT .i64) (consL (fnT 214 nilL) nilL))) (fun (p, t, _, _) => (pfit p = true) ∧ (0 ≤ t) ∧ (t < 256)) (fun (p, t, _, _) => .tup [planA (zbe p t (fun _ _ => (z64, 0)) 2 0 p).1, .d (.int .i64 (zbe p t (fun _ _ => (z64, 0)) 2 0 p).2)]) (fun (p, t, _, _) hp => ⟨rfl, zqz p t hp.1 hp.2.1 hp.2.2⟩)
attribute [go_sem] zeG
theorem zqA (p : Plan) (t : Int) (d : Disk) (a : Int) (h : DP d p) (ht0 : 0 ≤ t) (ht1 : t < 256) (h0 : 0 ≤ a) (h1 : a < 256) : ACall Tryz.prog 213 4 [planA p, .d (.int .i64 t), .fn (.func 216) [] [.vp 0 0, .vp 2 0]] [(3, .var [.nils 1, .nils 1]), (2, .var [.d (.int .i64 a)]), (1, (.var [.d (.sl 1 (p.targets.map intD)), .d (.sl 1 (p.texts.map strD))])), (0, (.var [.d (.str d.data), .d (.sl 2 (d.cache.map putD)), .d (.int .i64 d.fuse), .d (.bool d.off), .d (.sl 1 (d.bad.map intD))]))] (fun r h' => r = .tup [planA (zbe p t (fun q i => plook d q (96 + 2 * a + i)) 2 0 p).1, .d (.int .i64 (zbe p t (fun q i => plook d q (96 + 2 * a + i)) 2 0 p).2)] ∧ h' = [(3, .var [.nils 1, .nils 1]), (2, .var [.d (.int .i64 a)]), (1, (.var [.d (.sl 1 (p.targets.map intD)), .d (.sl 1 (p.texts.map strD))])), (0, (.var [.d (.str d.data), .d (.sl 2 (d.cache.map putD)), .d (.int .i64 d.fuse), .d (.bool d.off), .d (.sl 1 (d.bad.map intD))]))]) := by
 refine zW (fun i => decide (i < 4)) ?_
 refine zk Tryz.func213 rfl (zu Tryz.func213 (by kernel_rfl) rfl) Tryz.ntmps213 (by simp) (fun base => ?_)
 have hp := h.p
 have hdo := h.dok
 obtain ⟨f, hf⟩ : ∃ f : Plan → Int → Txt × Int, f = fun q i => plook d q (96 + 2 * a + i) := ⟨_, rfl⟩
 rw [← hf]
 repeat' (first | ((first | refine za zaj (zO) (fun K hK => ?_) | refine zc zaj (zO) ?_ | refine ze zaj (zO) mx (fun K hK => ?_) | refine zj zaj (zO) mx ?_ | refine zh ?_ | refine zi ?_ | refine zn ?_); simp only [go_sem, aeq, aeq.aeqF, simprocAttr, Tryz.results213]) | refine zq (fun K hK => ?_) | refine zo ?_ | refine zf rfl ?_ | refine zg rfl ?_ | refine zp rfl (fun hc => ?_) (fun hc => ?_) | (refine hK _ ?_; clear hK K) | with_reducible refine And.intro ?_ ?_ | (refine (show zt _ _ = true from ?_); kernel_rfl) | omega | assumption | clear hK K)
 refine zL (fun q : { q : Nat × Plan // q.1 ≤ 2 ∧ pfit q.2 = true ∧ zbe p t f 2 0 p = zbe p t f (2 - q.1) q.1 q.2 } => ⟨[(1, true, .d (.int .i64 t)), (2, true, .fn (.func 216) [] [.vp 0 0, .vp 2 0]), (3, true, .vp 4 0), (6, true, .vp 5 0), (8, true, .vp 6 0), (13, true, .d (.int .i64 q.1.1))], [(6, (.var [.d (.sl 1 (q.1.2.targets.map intD)), .d (.sl 1 (q.1.2.texts.map strD))])), (5, .var [.nils 1, .nils 1]), (4, (.var [.d (.sl 1 (p.targets.map intD)), .d (.sl 1 (p.texts.map strD))])), (3, .var [.nils 1, .nils 1]), (2, .var [.d (.int .i64 a)]), (1, (.var [.d (.sl 1 (p.targets.map intD)), .d (.sl 1 (p.texts.map strD))])), (0, (.var [.d (.str d.data), .d (.sl 2 (d.cache.map putD)), .d (.int .i64 d.fuse), .d (.bool d.off), .d (.sl 1 (d.bad.map intD))]))], some []⟩) (fun q => 2 - q.1.1) ⟨(0, p), Nat.zero_le 2, hp, rfl⟩ (by simp only [AS.le, leT, leH, zr, AsgK, AV.le, AV.leL, AObj.le, inH, idsT, idsH, AV.ids, AV.idsL, AV.idsR, AObj.ids, lk, hget, go_sem, aeq, aeq.aeqF, simprocAttr] <;> and_intros <;> rfl) (fun q => ?_)
 obtain ⟨⟨i, q⟩, hi, hq, hf2⟩ := q
 simp only at hi hq hf2 ⊢
 have hqo := PlanOk.of hq
 obtain ⟨hql, hq24, _⟩ := zaI hq
 have hdq : DP d q := ⟨h.d, hq⟩
 rcases Nat.lt_or_ge i 2 with hlt | hge
 ·have hcmp : decide ((i : Int) < 2) = true := decide_eq_true (by omega)
  have hwi := zP (i := i) (by omega)
  have hw1 : IntKind.i64.wrap (96 + 2 * t + (i : Int)) = 96 + 2 * t + i := zD (by omega) (by omega)
  rw [zib p t f i q hlt] at hf2
  have hf0 : f q i = plook d q (96 + 2 * a + i) := by rw [hf]
  simp only [hf0] at hf2
  by_cases he : (plook d q (96 + 2 * a + i)).2 = 0
  ·have hb : ((plook d q (96 + 2 * a + i)).2 != 0) = false := by simpa using he
   have h64 := ze4 hdq he
   rw [if_neg (by simpa using he)] at hf2
   repeat' (first | ((first | refine za zaj (zO) (fun K hK => ?_) | refine zc zaj (zO) ?_ | refine ze zaj (zO) mx (fun K hK => ?_) | refine zj zaj (zO) mx ?_ | refine zh ?_ | refine zi ?_ | refine zn ?_); simp only [go_sem, aeq, aeq.aeqF, simprocAttr, hcmp, hw1, hb, Tryz.results213]) | refine zq (fun K hK => ?_) | refine zo ?_ | refine zf rfl ?_ | refine zg rfl ?_ | refine zp rfl (fun hc => ?_) (fun hc => ?_) | (refine hK _ ?_; clear hK K) | with_reducible refine And.intro ?_ ?_ | (refine (show zt _ _ = true from ?_); kernel_rfl) | omega | assumption | clear hK K)
   ·have hc : (pset q (96 + 2 * t + i) (plook d q (96 + 2 * a + i)).1).2 ≠ 0 := by simpa using hc
    rw [if_pos hc] at hf2
    rw [hf2]
   ·have hc : ¬ (pset q (96 + 2 * t + i) (plook d q (96 + 2 * a + i)).1).2 ≠ 0 := by simpa using hc
    rw [if_neg hc] at hf2
    exact ⟨⟨(i + 1, (pset q (96 + 2 * t + i) (plook d q (96 + 2 * a + i)).1).1), by omega, zgx hq, hf2⟩, by simp only [AS.le, leT, leH, zr, AsgK, AV.le, AV.leL, AObj.le, inH, idsT, idsH, AV.ids, AV.idsL, AV.idsR, AObj.ids, lk, hget, go_sem, aeq, aeq.aeqF, simprocAttr, hwi], by simp; omega⟩
  ·have hb : ((plook d q (96 + 2 * a + i)).2 != 0) = true := by simpa using he
   rw [if_pos (by simpa using he)] at hf2
   repeat' (first | ((first | refine za zaj (zO) (fun K hK => ?_) | refine zc zaj (zO) ?_ | refine ze zaj (zO) mx (fun K hK => ?_) | refine zj zaj (zO) mx ?_ | refine zh ?_ | refine zi ?_ | refine zn ?_); simp only [go_sem, aeq, aeq.aeqF, simprocAttr, hcmp, hb, Tryz.results213]) | refine zq (fun K hK => ?_) | refine zo ?_ | refine zf rfl ?_ | refine zg rfl ?_ | refine zp rfl (fun hc => ?_) (fun hc => ?_) | (refine hK _ ?_; clear hK K) | with_reducible refine And.intro ?_ ?_ | (refine (show zt _ _ = true from ?_); kernel_rfl) | omega | assumption | clear hK K)
   rw [hf2]
 ·have hcmp : decide ((i : Int) < 2) = false := decide_eq_false (by omega)
  repeat' (first | ((first | refine za zaj (zO) (fun K hK => ?_) | refine zc zaj (zO) ?_ | refine ze zaj (zO) mx (fun K hK => ?_) | refine zj zaj (zO) mx ?_ | refine zh ?_ | refine zi ?_ | refine zn ?_); simp only [go_sem, aeq, aeq.aeqF, simprocAttr, hcmp, Tryz.results213]) | refine zq (fun K hK => ?_) | refine zo ?_ | refine zf rfl ?_ | refine zg rfl ?_ | refine zp rfl (fun hc => ?_) (fun hc => ?_) | (refine hK _ ?_; clear hK K) | with_reducible refine And.intro ?_ ?_ | (refine (show zt _ _ = true from ?_); kernel_rfl) | omega | assumption | clear hK K)
  rw [hf2, show 2 - i = 0 by omega]
  rfl
noncomputable def zht : Tab := tabOf [zb6, zeG]
theorem zff : TabOk Tryz.prog zht := zz _
@[go_sem] theorem zru (args : List AV) : zht 179 args = (zb6).e args := rfl
@[go_sem] theorem zn9 (args : List AV) : zht 213 args = (zeG).e args := rfl
noncomputable def zfg : Tab := tabOf [zb6]
theorem zcK : TabOk Tryz.prog zfg := zz _
@[go_sem] theorem zrv (args : List AV) : zfg 179 args = (zb6).e args := rfl
theorem zqB (p : Plan) (t : Int) (hp : pfit p = true) : ACall Tryz.prog 192 0 [planA p, .d (.int .i64 t)] [] (fun r _ => r = .tup [planA (eblank p t).1, .d (.int .i64 (eblank p t).2)]) := by
 refine zA ?_
 refine zk Tryz.func192 rfl (zu Tryz.func192 (by kernel_rfl) rfl) Tryz.ntmps192 (by simp) (fun base => ?_)
 by_cases hk : zR t = true
 ·obtain ⟨ht0, ht1⟩ := hostOk_iff.1 hk
  have hbl : eblank p t = zbe p t (fun _ _ => (z64, 0)) 2 0 p := by rw [eblank, if_neg (by rw [hk]; exact fun h => by cases h)]
  repeat' (first | ((first | refine za zht (zff) (fun K hK => ?_) | refine zc zht (zff) ?_ | refine zh ?_ | refine zi ?_ | refine zn ?_); simp only [go_sem, aeq, aeq.aeqF, simprocAttr, hk, Tryz.results192]) | refine zq (fun K hK => ?_) | refine zf rfl ?_ | refine zg rfl ?_ | refine zp rfl (fun hc => ?_) (fun hc => ?_) | (refine hK _ ?_; clear hK K) | with_reducible refine And.intro ?_ ?_ | omega | assumption | clear hK K)
  rw [hbl]
 ·have hk : zR t = false := by simpa using hk
  repeat' (first | ((first | refine za zht (zff) (fun K hK => ?_) | refine zc zht (zff) ?_ | refine zh ?_ | refine zi ?_ | refine zn ?_); simp only [go_sem, aeq, aeq.aeqF, simprocAttr, hk, Tryz.results192]) | refine zq (fun K hK => ?_) | refine zf rfl ?_ | refine zg rfl ?_ | refine zp rfl (fun hc => ?_) (fun hc => ?_) | (refine hK _ ?_; clear hK K) | with_reducible refine And.intro ?_ ?_ | omega | assumption | clear hK K)
  rw [eblank, if_pos hk]
noncomputable def zeH : Ent Tryz.prog := .ofL 192 (consL zU (consL (intT .i64) nilL)) (fun (p, t, _) => pfit p = true) (fun (p, t, _) => .tup [planA (eblank p t).1, .d (.int .i64 (eblank p t).2)]) (fun (p, t, _) hp => ⟨rfl, zqB p t hp⟩)
attribute [go_sem] zeH
theorem ztm (d : Disk) (p : Plan) (a : Int) (t : Int) (h : DP d p) : ACall Tryz.prog 195 0 [diskA d, planA p, .d (.int .i64 a), .d (.int .i64 t)] [] (fun r _ => r = .tup [planA (ecopy d p a t).1, .d (.int .i64 (ecopy d p a t).2)]) := by
 refine zA ?_
 refine zk Tryz.func195 rfl (zu Tryz.func195 (by kernel_rfl) rfl) Tryz.ntmps195 (by simp) (fun base => ?_)
 by_cases hk : zR a = false ∨ zR t = false
 ·have hdec : (!zR a || !zR t) = true := by simpa using hk
  repeat' (first | ((first | refine za zfg (zcK) (fun K hK => ?_) | refine zc zfg (zcK) ?_ | refine zh ?_ | refine zi ?_ | refine zn ?_); simp only [go_sem, aeq, aeq.aeqF, simprocAttr, hdec, Tryz.results195]) | refine zq (fun K hK => ?_) | refine zf rfl ?_ | refine zg rfl ?_ | refine zp rfl (fun hc => ?_) (fun hc => ?_) | (refine hK _ ?_; clear hK K) | with_reducible refine And.intro ?_ ?_ | omega | assumption | refine fun (hg : (_ : Bool) = (_ : Bool)) => ?_ | clear hK K)
  rw [ecopy, if_pos hk]
 ·have hdec : (!zR a || !zR t) = false := by simpa using hk
  have hcp : ecopy d p a t = zbe p t (fun q i => plook d q (96 + 2 * a + i)) 2 0 p := by rw [ecopy, if_neg hk]
  simp only [not_or, Bool.not_eq_false] at hk
  obtain ⟨ha0, ha1⟩ := hostOk_iff.1 hk.1
  obtain ⟨ht0, ht1⟩ := hostOk_iff.1 hk.2
  have hnt : ∀ a, zfg 213 a = none := fun a => rfl
  repeat' (first | ((first | refine za zfg (zcK) (fun K hK => ?_) | refine zc zfg (zcK) ?_ | refine zh ?_ | refine zi ?_ | refine zn ?_); simp only [go_sem, aeq, aeq.aeqF, simprocAttr, hdec, hnt, hk.1, hk.2, Tryz.results195]) | refine zq (fun K hK => ?_) | refine zf rfl ?_ | refine zg rfl ?_ | refine zp rfl (fun hc => ?_) (fun hc => ?_) | (refine hK _ ?_; clear hK K) | with_reducible refine And.intro ?_ ?_ | omega | assumption | refine fun (hg : (_ : Bool) = (_ : Bool)) => ?_ | clear hK K)
  refine ((zqA p t d a h ht0 ht1 ha0 ha1).whole (zT rfl) (by omega) (by rintro r h' ⟨_, rfl⟩ i hi; exact hi)).mono ?_
  rintro r h' ⟨rfl, rfl⟩
  simp only [go_sem, aeq, aeq.aeqF, simprocAttr]
  repeat' (first | ((first | refine za zfg (zcK) (fun K hK => ?_) | refine zc zfg (zcK) ?_ | refine zh ?_ | refine zi ?_ | refine zn ?_); simp only [go_sem, aeq, aeq.aeqF, simprocAttr, Tryz.results195]) | refine zq (fun K hK => ?_) | refine zf rfl ?_ | refine zg rfl ?_ | refine zp rfl (fun hc => ?_) (fun hc => ?_) | (refine hK _ ?_; clear hK K) | with_reducible refine And.intro ?_ ?_ | omega | assumption | refine fun (hg : (_ : Bool) = (_ : Bool)) => ?_ | clear hK K)
  rw [hcp]
noncomputable def zfY : Ent Tryz.prog := .ofL 195 (consL zM (consL zU (consL (intT .i64) (consL (intT .i64) nilL)))) (fun (d, p, a, t, _) => DP d p) (fun (d, p, a, t, _) => .tup [planA (ecopy d p a t).1, .d (.int .i64 (ecopy d p a t).2)]) (fun (d, p, a, t, _) hp => ⟨rfl, ztm d p a t hp⟩)
attribute [go_sem] zfY
open Go Go.Proofs
def pfill (d : Disk) (p : Plan) (fr k : Int) : Plan × Int := if fr < 0 then eblank p k else ecopy d p fr k
def pless (d : Disk) (p : Plan) (fr : Int) : Plan × Int := if fr < 0 then (p, 0) else radd d p fr (-1)
def pfresh (d : Disk) (p : Plan) (g : Geom) (l1 i fr : Int) : Plan × Int × Int :=
 if (rtake d p g).2.2 ≠ 0 then (p, 0, (rtake d p g).2.2)
 else if (pfill d (rtake d p g).1 fr (rtake d p g).2.1).2 ≠ 0 then (p, 0, (pfill d (rtake d p g).1 fr (rtake d p g).2.1).2)
 else if (pless d (pfill d (rtake d p g).1 fr (rtake d p g).2.1).1 fr).2 ≠ 0 then (p, 0, (pless d (pfill d (rtake d p g).1 fr (rtake d p g).2.1).1 fr).2)
 else if (eset d (pless d (pfill d (rtake d p g).1 fr (rtake d p g).2.1).1 fr).1 l1 i ⟨1, (rtake d p g).2.1⟩).2 ≠ 0 then (p, 0, (eset d (pless d (pfill d (rtake d p g).1 fr (rtake d p g).2.1).1 fr).1 l1 i ⟨1, (rtake d p g).2.1⟩).2)
 else ((eset d (pless d (pfill d (rtake d p g).1 fr (rtake d p g).2.1).1 fr).1 l1 i ⟨1, (rtake d p g).2.1⟩).1, (rtake d p g).2.1, 0)
def pown2 (d : Disk) (p : Plan) (g : Geom) (l1 i : Int) : Plan × Int × Int :=
 if (eget d p l1 i).2 ≠ 0 then (p, 0, (eget d p l1 i).2) else if (eget d p l1 i).1.kind = 2 then (p, 0, 14)
 else if (eget d p l1 i).1.kind = 0 then pfresh d p g l1 i (-1) else if (rget d p (eget d p l1 i).1.loc).2 ≠ 0 then (p, 0, (rget d p (eget d p l1 i).1.loc).2)
 else if (rget d p (eget d p l1 i).1.loc).1 ≤ 1 then (p, (eget d p l1 i).1.loc, 0) else pfresh d p g l1 i (eget d p l1 i).1.loc
def pown (d : Disk) (p : Plan) (g : Geom) (guest : Int) : Plan × Int × Int :=
 if guest < 0 ∨ g.guest ≤ guest then (p, 0, 10) else if (zaa d p).2 ≠ 0 then (p, 0, (zaa d p).2) else pown2 d p g (zaa d p).1.l1 (guest / 16)
def zhn (d : Disk) (p q : Plan) (t i : Int) (x : Ent2) : Plan × Int :=
  if (eget d q t i).2 ≠ 0 then (p, (eget d q t i).2)
  else if (eget d q t i).1.kind = 1 then
    (if (radd d q (eget d q t i).1.loc (-1)).2 ≠ 0 then (p, (radd d q (eget d q t i).1.loc (-1)).2)
     else if (eset d (radd d q (eget d q t i).1.loc (-1)).1 t i x).2 ≠ 0 then (p, (eset d (radd d q (eget d q t i).1.loc (-1)).1 t i x).2) else ((eset d (radd d q (eget d q t i).1.loc (-1)).1 t i x).1, 0))
  else if (eset d q t i x).2 ≠ 0 then (p, (eset d q t i x).2) else ((eset d q t i x).1, 0)
def ppoint (d : Disk) (p : Plan) (g : Geom) (guest : Int) (x : Ent2) : Plan × Int :=
 if (pown d p g guest).2.2 ≠ 0 then (p, (pown d p g guest).2.2) else zhn d p (pown d p g guest).1 (pown d p g guest).2.1 (guest % 16) x
theorem DP.pfill {d : Disk} {p : Plan} (h : DP d p) (a b : Int) : DP d (pfill d p a b).1 := by unfold Aw.pfill; split; exact h.eblank _; exact h.ecopy _ _
theorem DP.pless {d : Disk} {p : Plan} (h : DP d p) (a : Int) : DP d (pless d p a).1 := by unfold Aw.pless; split; exact h; exact h.radd _ _
theorem DP.pfresh {d : Disk} {p : Plan} (h : DP d p) (g : Geom) (l1 i fr : Int) : DP d (pfresh d p g l1 i fr).1 := by
 unfold Aw.pfresh
 split
 ·exact h
 split
 ·exact h
 split
 ·exact h
 split
 ·exact h
 ·exact (((h.rtake g).pfill _ _).pless _).eset _ _ _
theorem DP.pown {d : Disk} {p : Plan} (h : DP d p) (g : Geom) (guest : Int) : DP d (pown d p g guest).1 := by
 unfold Aw.pown
 split
 ·exact h
 split
 ·exact h
 unfold Aw.pown2
 split
 ·exact h
 split
 ·exact h
 split
 ·exact h.pfresh _ _ _ _
 split
 ·exact h
 split
 ·exact h
 ·exact h.pfresh _ _ _ _
theorem DP.ppoint {d : Disk} {p : Plan} (h : DP d p) (g : Geom) (guest : Int) (x : Ent2) : DP d (ppoint d p g guest x).1 := by
 have ho := h.pown g guest
 unfold Aw.ppoint
 split
 ·exact h
 unfold zhn
 split
 ·exact h
 split
 ·split
  ·exact h
  split
  ·exact h
  ·exact (ho.radd _ _).eset _ _ _
 ·split
  ·exact h
  ·exact ho.eset _ _ _
open Go Go.Proofs
open Go Go.Proofs
open Go Go.Proofs
def wkP (q : Plan) (g : Geom) (d : Disk) (e : Int) : List AV := [.d (.sl 1 (q.targets.map intD)), .d (.sl 1 (q.texts.map strD)), .d (.int .i64 g.guest), .d (.int .i64 g.host), .d (.str d.data), .d (.sl 2 (d.cache.map putD)), .d (.int .i64 d.fuse), .d (.bool d.off), .d (.sl 1 (d.bad.map intD)), .d (.int .i64 e)]
attribute [go_sem] wkP
theorem zhw {fl fl' : Nat} {f : FuncId} {caps : List AV} {h : AHeap} {K : AHeap → Prop} {q : Plan} {g : Geom} {d : Disk} {e : Int} (hfl : ∀ i, (hget h i).isSome → i < fl) (hle : fl' ≤ fl) (hw : hget h 5 = some (.var (wkP q g d e)))
  (hk : ∀ h', K h' → ∀ i, (hget h i).isSome → (hget h' i).isSome)
  (h1 : e ≠ 0 → K h)
  (h2 : e = 0 → ACallAt Tryz.prog fl f caps h (fun r h' => ∃ q' e', r = .tup [planA q', .d (.int .i64 e')] ∧ hget h' 5 = some (.var (wkP q g d e)) ∧ K (hset h' 5 (.var (wkP q' g d e'))))) :
  ACallAt Tryz.prog fl' 188 [.vp 5 0, .fn (.func f) [] caps] h (fun r h' => r = .tup [] ∧ K h') := by
 refine ACall.whole (fl := fl) ?_ hfl hle (fun r h' hr => hk h' hr.2)
 refine zk Tryz.func188 rfl (zu Tryz.func188 (by kernel_rfl) rfl) Tryz.ntmps188 (by simp) (fun base => ?_)
 cases he : (e == 0) with
 | false =>
  have he' : e ≠ 0 := by simpa using he
  simp only [wkP] at hw
  repeat' (first | ((first | refine za noTab (zb _) (fun K hK => ?_) | refine zc noTab (zb _) ?_ | refine zh ?_ | refine zi ?_ | refine zn ?_); simp only [go_sem, aeq, aeq.aeqF, simprocAttr, hw, he, Tryz.results188]) | refine zq (fun K hK => ?_) | refine zf rfl ?_ | refine zg rfl ?_ | refine zp rfl (fun hc => ?_) (fun hc => ?_) | (refine hK _ ?_; clear hK K) | refine fun (nb : Bool) (hnb : nb = true → _) => ?_ | with_reducible refine And.intro ?_ ?_ | omega | assumption | clear hK K)
  exact h1 he'
 | true =>
  have he' : e = 0 := by simpa using he
  have h2 := h2 he'
  simp only [wkP] at hw
  repeat' (first | ((first | refine za noTab (zb _) (fun K hK => ?_) | refine zc noTab (zb _) ?_ | refine zh ?_ | refine zi ?_ | refine zn ?_); simp only [go_sem, aeq, aeq.aeqF, simprocAttr, hw, he, Tryz.results188]) | refine zq (fun K hK => ?_) | refine zf rfl ?_ | refine zg rfl ?_ | refine zp rfl (fun hc => ?_) (fun hc => ?_) | (refine hK _ ?_; clear hK K) | refine fun (nb : Bool) (hnb : nb = true → _) => ?_ | with_reducible refine And.intro ?_ ?_ | omega | assumption | clear hK K)
  refine h2.mono ?_
  rintro r h' ⟨q', e', rfl, hw', hK⟩
  simp only [wkP] at hw'
  have hs1 : ∀ o, hget (hset h' 5 o) 5 = some o := fun o => zw hw'
  have hs2 : ∀ a b, hset (hset h' 5 a) 5 b = hset h' 5 b := fun a b => zfS h' 5 a b
  simp only [go_sem, hw', hs1, hs2]
  repeat' (first | ((first | refine za noTab (zb _) (fun K hK => ?_) | refine zc noTab (zb _) ?_ | refine zh ?_ | refine zi ?_ | refine zn ?_); simp only [go_sem, aeq, aeq.aeqF, simprocAttr, hw', hs1, hs2, Tryz.results188]) | refine zq (fun K hK => ?_) | refine zf rfl ?_ | refine zg rfl ?_ | refine zp rfl (fun hc => ?_) (fun hc => ?_) | (refine hK _ ?_; clear hK K) | refine fun (nb : Bool) (hnb : nb = true → _) => ?_ | with_reducible refine And.intro ?_ ?_ | omega | assumption | clear hK K)
structure Wk where
 q : Plan
 e : Int
def wcount (d : Disk) (s : Wk) (k by_ : Int) : Wk := if s.e ≠ 0 then s else ⟨(radd d s.q k by_).1, (radd d s.q k by_).2⟩
def wset (d : Disk) (s : Wk) (t i : Int) (x : Ent2) : Wk := if s.e ≠ 0 then s else ⟨(eset d s.q t i x).1, (eset d s.q t i x).2⟩
def wget (d : Disk) (s : Wk) (t i : Int) : Ent2 × Wk := if s.e ≠ 0 then (⟨0, 0⟩, s) else ((eget d s.q t i).1, ⟨s.q, (eget d s.q t i).2⟩)
def zbQ (d : Disk) (s : Wk) (k : Int) : Int × Wk := if s.e ≠ 0 then (0, s) else ((rget d s.q k).1, ⟨s.q, (rget d s.q k).2⟩)
noncomputable def z7 : Tab := tabOf [zb8, zhs, zdT, zaK, zcM, zbF, zeH, zfY]
theorem zK : TabOk Tryz.prog z7 := zz _
@[go_sem] theorem zoc (args : List AV) : z7 152 args = (zb8).e args := rfl
@[go_sem] theorem zrA (args : List AV) : z7 199 args = (zhs).e args := rfl
@[go_sem] theorem zrB (args : List AV) : z7 80 args = (zdT).e args := rfl
@[go_sem] theorem zod (args : List AV) : z7 99 args = (zaK).e args := rfl
@[go_sem] theorem zqK (args : List AV) : z7 95 args = (zcM).e args := rfl
@[go_sem] theorem znK (args : List AV) : z7 94 args = (zbF).e args := rfl
@[go_sem] theorem zoe (args : List AV) : z7 192 args = (zeH).e args := rfl
@[go_sem] theorem zqL (args : List AV) : z7 195 args = (zfY).e args := rfl
abbrev zhx (g : Geom) (d : Disk) (s : Wk) (k by_ : Int) : AHeap := [(42, .var [.d (.int .i64 by_)]), (41, .var [.d (.int .i64 k)]), (40, .var [.vp 5 0]), (5, .var (wkP s.q g d s.e))]
theorem zqM (g : Geom) (d : Disk) (s : Wk) (k by_ : Int) (h : DP d s.q) : ACall Tryz.prog 197 80 [.vp 40 0, .vp 41 0, .vp 42 0] (zhx g d s k by_) (fun r h' => r = .tup [planA (radd d s.q k by_).1, .d (.int .i64 (radd d s.q k by_).2)] ∧ h' = zhx g d s k by_) := by
 refine zW (fun i => decide (i < 80)) ?_
 refine zk Tryz.func197 rfl (zu Tryz.func197 (by kernel_rfl) rfl) Tryz.ntmps197 (by simp) (fun base => ?_)
 repeat' (first | ((first | refine za z7 (zK) (fun K hK => ?_) | refine zc z7 (zK) ?_ | refine ze z7 (zK) mx (fun K hK => ?_) | refine zj z7 (zK) mx ?_ | refine zh ?_ | refine zi ?_ | refine zn ?_); simp only [go_sem, aeq, aeq.aeqF, simprocAttr, zhx, Tryz.results197]) | refine zq (fun K hK => ?_) | (refine hK _ ?_; clear hK K) | refine fun (nb : Bool) (hnb : nb = true → _) => ?_ | with_reducible refine And.intro ?_ ?_ | (refine (show zt _ _ = true from ?_); kernel_rfl) | omega | assumption | clear hK K)
theorem zml (g : Geom) (d : Disk) (s : Wk) (k by_ : Int) (h : DP d s.q) : ACall Tryz.prog 156 40 [.vp 5 0, .d (.int .i64 k), .d (.int .i64 by_)] [(5, .var (wkP s.q g d s.e))] (fun r h' => ∃ ob', h' = [(5, ob')] ∧ r = .tup [] ∧ ob' = .var (wkP (wcount d s k by_).q g d (wcount d s k by_).e)) := by
 refine zW (fun i => decide (i < 40)) ?_
 refine zk Tryz.func156 rfl (zu Tryz.func156 (by kernel_rfl) rfl) Tryz.ntmps156 (by simp) (fun base => ?_)
 repeat' (first | ((first | refine za noTab (zb _) (fun K hK => ?_) | refine zc noTab (zb _) ?_ | refine zh ?_ | refine zi ?_ | refine zn ?_); simp only [go_sem, aeq, aeq.aeqF, simprocAttr, Tryz.results156]) | refine zq (fun K hK => ?_) | (refine hK _ ?_; clear hK K) | with_reducible refine And.intro ?_ ?_ | omega | assumption | clear hK K)
 refine (zhw (fl := 60) (K := fun h' => (s.e ≠ 0 ∧ h' = zhx g d s k by_) ∨ (s.e = 0 ∧ h' = hset (zhx g d s k by_) 5 (.var (wkP (radd d s.q k by_).1 g d (radd d s.q k by_).2)))) (zT rfl) (by omega) rfl ?_ ?_ ?_).mono ?_
 ·rintro h' (⟨_, rfl⟩ | ⟨_, rfl⟩) i hi
  ·exact hi
  ·rw [zap (by rfl)]
   revert hi
   simp only [hget]
   repeat' split
   all_goals simp
 ·intro he; exact .inl ⟨he, rfl⟩
 ·intro he
  refine ((zqM g d s k by_ h).whole (zT rfl) (by omega) (by
   rintro r h' ⟨_, rfl⟩ i hi
   revert hi
   simp only [hget]
   repeat' split
   all_goals simp)).mono ?_
  rintro r h' ⟨rfl, rfl⟩
  exact ⟨_, _, rfl, rfl, .inr ⟨he, rfl⟩⟩
 ·rintro r h' ⟨rfl, (⟨he, rfl⟩ | ⟨he, rfl⟩)⟩
  ·have hm : wcount d s k by_ = s := by rw [wcount, if_pos he]
   rw [hm]
   repeat' (first | ((first | refine za noTab (zb _) (fun K hK => ?_) | refine zc noTab (zb _) ?_ | refine zh ?_ | refine zi ?_ | refine zn ?_); simp only [go_sem, aeq, aeq.aeqF, simprocAttr, zhx, Tryz.results156]) | refine zq (fun K hK => ?_) | (refine hK _ ?_; clear hK K) | with_reducible refine And.intro ?_ ?_ | omega | assumption | clear hK K)
   all_goals first | rfl | exact ⟨_, rfl, rfl⟩ | exact ⟨_, rfl, by rw [hm]⟩ | skip
  ·have hm : wcount d s k by_ = ⟨(radd d s.q k by_).1, (radd d s.q k by_).2⟩ := by rw [wcount, if_neg (by rw [he]; decide)]
   rw [hm]
   repeat' (first | ((first | refine za noTab (zb _) (fun K hK => ?_) | refine zc noTab (zb _) ?_ | refine zh ?_ | refine zi ?_ | refine zn ?_); simp only [go_sem, aeq, aeq.aeqF, simprocAttr, zhx, Tryz.results156]) | refine zq (fun K hK => ?_) | (refine hK _ ?_; clear hK K) | with_reducible refine And.intro ?_ ?_ | omega | assumption | clear hK K)
   all_goals first | rfl | exact ⟨_, rfl, rfl⟩ | exact ⟨_, rfl, by rw [hm]⟩ | skip
abbrev hSet (g : Geom) (d : Disk) (s : Wk) (t i : Int) (x : Ent2) : AHeap := [(43, .var [.d (.int .i64 x.kind), .d (.int .i64 x.loc)]), (42, .var [.d (.int .i64 i)]), (41, .var [.d (.int .i64 t)]), (40, .var [.vp 5 0]), (5, .var (wkP s.q g d s.e))]
theorem zu1 (g : Geom) (d : Disk) (s : Wk) (t i : Int) (x : Ent2) (h : DP d s.q) : ACall Tryz.prog 198 80 [.vp 40 0, .vp 41 0, .vp 42 0, .vp 43 0] (hSet g d s t i x) (fun r h' => r = .tup [planA (eset d s.q t i x).1, .d (.int .i64 (eset d s.q t i x).2)] ∧ h' = hSet g d s t i x) := by
 refine zW (fun i => decide (i < 80)) ?_
 refine zk Tryz.func198 rfl (zu Tryz.func198 (by kernel_rfl) rfl) Tryz.ntmps198 (by simp) (fun base => ?_)
 repeat' (first | ((first | refine za z7 (zK) (fun K hK => ?_) | refine zc z7 (zK) ?_ | refine ze z7 (zK) mx (fun K hK => ?_) | refine zj z7 (zK) mx ?_ | refine zh ?_ | refine zi ?_ | refine zn ?_); simp only [go_sem, aeq, aeq.aeqF, simprocAttr, hSet, Tryz.results198]) | refine zq (fun K hK => ?_) | (refine hK _ ?_; clear hK K) | refine fun (nb : Bool) (hnb : nb = true → _) => ?_ | with_reducible refine And.intro ?_ ?_ | (refine (show zt _ _ = true from ?_); kernel_rfl) | omega | assumption | clear hK K)
theorem zmm (g : Geom) (d : Disk) (s : Wk) (t i : Int) (x : Ent2) (h : DP d s.q) : ACall Tryz.prog 157 40 [.vp 5 0, .d (.int .i64 t), .d (.int .i64 i), entA x] [(5, .var (wkP s.q g d s.e))] (fun r h' => ∃ ob', h' = [(5, ob')] ∧ r = .tup [] ∧ ob' = .var (wkP (wset d s t i x).q g d (wset d s t i x).e)) := by
 refine zW (fun i => decide (i < 40)) ?_
 refine zk Tryz.func157 rfl (zu Tryz.func157 (by kernel_rfl) rfl) Tryz.ntmps157 (by simp) (fun base => ?_)
 repeat' (first | ((first | refine za noTab (zb _) (fun K hK => ?_) | refine zc noTab (zb _) ?_ | refine zh ?_ | refine zi ?_ | refine zn ?_); simp only [go_sem, aeq, aeq.aeqF, simprocAttr, Tryz.results157]) | refine zq (fun K hK => ?_) | (refine hK _ ?_; clear hK K) | with_reducible refine And.intro ?_ ?_ | omega | assumption | clear hK K)
 refine (zhw (fl := 60) (K := fun h' => (s.e ≠ 0 ∧ h' = hSet g d s t i x) ∨ (s.e = 0 ∧ h' = hset (hSet g d s t i x) 5 (.var (wkP (eset d s.q t i x).1 g d (eset d s.q t i x).2)))) (zT rfl) (by omega) rfl ?_ ?_ ?_).mono ?_
 ·rintro h' (⟨_, rfl⟩ | ⟨_, rfl⟩) i hi
  ·exact hi
  ·rw [zap (by rfl)]
   revert hi
   simp only [hget]
   repeat' split
   all_goals simp
 ·intro he; exact .inl ⟨he, rfl⟩
 ·intro he
  refine ((zu1 g d s t i x h).whole (zT rfl) (by omega) (by
   rintro r h' ⟨_, rfl⟩ i hi
   revert hi
   simp only [hget]
   repeat' split
   all_goals simp)).mono ?_
  rintro r h' ⟨rfl, rfl⟩
  exact ⟨_, _, rfl, rfl, .inr ⟨he, rfl⟩⟩
 ·rintro r h' ⟨rfl, (⟨he, rfl⟩ | ⟨he, rfl⟩)⟩
  ·have hm : wset d s t i x = s := by rw [wset, if_pos he]
   rw [hm]
   repeat' (first | ((first | refine za noTab (zb _) (fun K hK => ?_) | refine zc noTab (zb _) ?_ | refine zh ?_ | refine zi ?_ | refine zn ?_); simp only [go_sem, aeq, aeq.aeqF, simprocAttr, hSet, Tryz.results157]) | refine zq (fun K hK => ?_) | (refine hK _ ?_; clear hK K) | with_reducible refine And.intro ?_ ?_ | omega | assumption | clear hK K)
   all_goals first | rfl | exact ⟨_, rfl, rfl⟩ | exact ⟨_, rfl, by rw [hm]⟩ | skip
  ·have hm : wset d s t i x = ⟨(eset d s.q t i x).1, (eset d s.q t i x).2⟩ := by rw [wset, if_neg (by rw [he]; decide)]
   rw [hm]
   repeat' (first | ((first | refine za noTab (zb _) (fun K hK => ?_) | refine zc noTab (zb _) ?_ | refine zh ?_ | refine zi ?_ | refine zn ?_); simp only [go_sem, aeq, aeq.aeqF, simprocAttr, hSet, Tryz.results157]) | refine zq (fun K hK => ?_) | (refine hK _ ?_; clear hK K) | with_reducible refine And.intro ?_ ?_ | omega | assumption | clear hK K)
   all_goals first | rfl | exact ⟨_, rfl, rfl⟩ | exact ⟨_, rfl, by rw [hm]⟩ | skip
abbrev hGet (g : Geom) (d : Disk) (s : Wk) (t i : Int) : AHeap := [(43, .var [.d (.int .i64 0), .d (.int .i64 0)]), (42, .var [.d (.int .i64 i)]), (41, .var [.d (.int .i64 t)]), (40, .var [.vp 5 0]), (5, .var (wkP s.q g d s.e))]
abbrev hGet2 (g : Geom) (d : Disk) (s : Wk) (t i : Int) : AHeap := [(43, .var [.d (.int .i64 (eget d s.q t i).1.kind), .d (.int .i64 (eget d s.q t i).1.loc)]), (42, .var [.d (.int .i64 i)]), (41, .var [.d (.int .i64 t)]), (40, .var [.vp 5 0]), (5, .var (wkP s.q g d s.e))]
theorem zu2 (g : Geom) (d : Disk) (s : Wk) (t i : Int) (h : DP d s.q) : ACall Tryz.prog 196 80 [.vp 40 0, .vp 41 0, .vp 42 0, .vp 43 0] (hGet g d s t i) (fun r h' => r = .tup [planA s.q, .d (.int .i64 (eget d s.q t i).2)] ∧ h' = hGet2 g d s t i) := by
 refine zW (fun i => decide (i < 80)) ?_
 refine zk Tryz.func196 rfl (zu Tryz.func196 (by kernel_rfl) rfl) Tryz.ntmps196 (by simp) (fun base => ?_)
 repeat' (first | ((first | refine za z7 (zK) (fun K hK => ?_) | refine zc z7 (zK) ?_ | refine ze z7 (zK) mx (fun K hK => ?_) | refine zj z7 (zK) mx ?_ | refine zh ?_ | refine zi ?_ | refine zn ?_); simp only [go_sem, aeq, aeq.aeqF, simprocAttr, hGet, hGet2, Tryz.results196]) | refine zq (fun K hK => ?_) | (refine hK _ ?_; clear hK K) | refine fun (nb : Bool) (hnb : nb = true → _) => ?_ | with_reducible refine And.intro ?_ ?_ | (refine (show zt _ _ = true from ?_); kernel_rfl) | omega | assumption | clear hK K)
theorem zub (g : Geom) (d : Disk) (s : Wk) (t i : Int) (h : DP d s.q) : ACall Tryz.prog 155 40 [.vp 5 0, .d (.int .i64 t), .d (.int .i64 i)] [(5, .var (wkP s.q g d s.e))] (fun r h' => ∃ ob', h' = [(5, ob')] ∧ r = entA (wget d s t i).1 ∧ ob' = .var (wkP ((wget d s t i).2).q g d ((wget d s t i).2).e)) := by
 refine zW (fun i => decide (i < 40)) ?_
 refine zk Tryz.func155 rfl (zu Tryz.func155 (by kernel_rfl) rfl) Tryz.ntmps155 (by simp) (fun base => ?_)
 repeat' (first | ((first | refine za noTab (zb _) (fun K hK => ?_) | refine zc noTab (zb _) ?_ | refine zh ?_ | refine zi ?_ | refine zn ?_); simp only [go_sem, aeq, aeq.aeqF, simprocAttr, Tryz.results155]) | refine zq (fun K hK => ?_) | (refine hK _ ?_; clear hK K) | with_reducible refine And.intro ?_ ?_ | omega | assumption | clear hK K)
 refine (zhw (fl := 60) (K := fun h' => (s.e ≠ 0 ∧ h' = hGet g d s t i) ∨ (s.e = 0 ∧ h' = hset (hGet2 g d s t i) 5 (.var (wkP s.q g d (eget d s.q t i).2)))) (zT rfl) (by omega) rfl ?_ ?_ ?_).mono ?_
 ·rintro h' (⟨_, rfl⟩ | ⟨_, rfl⟩) i hi
  ·exact hi
  ·rw [zap (by rfl)]
   revert hi
   simp only [hget]
   repeat' split
   all_goals simp
 ·intro he; exact .inl ⟨he, rfl⟩
 ·intro he
  refine ((zu2 g d s t i h).whole (zT rfl) (by omega) (by
   rintro r h' ⟨_, rfl⟩ i hi
   revert hi
   simp only [hget]
   repeat' split
   all_goals simp)).mono ?_
  rintro r h' ⟨rfl, rfl⟩
  exact ⟨_, _, rfl, rfl, .inr ⟨he, rfl⟩⟩
 ·rintro r h' ⟨rfl, (⟨he, rfl⟩ | ⟨he, rfl⟩)⟩
  ·have hm : wget d s t i = (⟨0, 0⟩, s) := by rw [wget, if_pos he]
   repeat' (first | ((first | refine za noTab (zb _) (fun K hK => ?_) | refine zc noTab (zb _) ?_ | refine zh ?_ | refine zi ?_ | refine zn ?_); simp only [go_sem, aeq, aeq.aeqF, simprocAttr, hGet, hm, Tryz.results155]) | refine zq (fun K hK => ?_) | (refine hK _ ?_; clear hK K) | with_reducible refine And.intro ?_ ?_ | omega | assumption | clear hK K)
   all_goals first | rfl | exact ⟨_, rfl, rfl⟩ | exact ⟨_, rfl, by rw [hm]⟩ | skip
  ·have hm : wget d s t i = ((eget d s.q t i).1, ⟨s.q, (eget d s.q t i).2⟩) := by rw [wget, if_neg (by rw [he]; decide)]
   repeat' (first | ((first | refine za noTab (zb _) (fun K hK => ?_) | refine zc noTab (zb _) ?_ | refine zh ?_ | refine zi ?_ | refine zn ?_); simp only [go_sem, aeq, aeq.aeqF, simprocAttr, hGet, hGet2, hm, Tryz.results155]) | refine zq (fun K hK => ?_) | (refine hK _ ?_; clear hK K) | with_reducible refine And.intro ?_ ?_ | omega | assumption | clear hK K)
   all_goals first | rfl | exact ⟨_, rfl, rfl⟩ | exact ⟨_, rfl, by rw [hm]⟩ | skip
abbrev zfi (g : Geom) (d : Disk) (s : Wk) (k : Int) : AHeap := [(42, .var [.d (.int .i64 0)]), (41, .var [.d (.int .i64 k)]), (40, .var [.vp 5 0]), (5, .var (wkP s.q g d s.e))]
abbrev zfj (g : Geom) (d : Disk) (s : Wk) (k : Int) : AHeap := [(42, .var [.d (.int .i64 (rget d s.q k).1)]), (41, .var [.d (.int .i64 k)]), (40, .var [.vp 5 0]), (5, .var (wkP s.q g d s.e))]
theorem zlb (g : Geom) (d : Disk) (s : Wk) (k : Int) (h : DP d s.q) : ACall Tryz.prog 215 80 [.vp 40 0, .vp 41 0, .vp 42 0] (zfi g d s k) (fun r h' => r = .tup [planA s.q, .d (.int .i64 (rget d s.q k).2)] ∧ h' = zfj g d s k) := by
 refine zW (fun i => decide (i < 80)) ?_
 refine zk Tryz.func215 rfl (zu Tryz.func215 (by kernel_rfl) rfl) Tryz.ntmps215 (by simp) (fun base => ?_)
 repeat' (first | ((first | refine za z7 (zK) (fun K hK => ?_) | refine zc z7 (zK) ?_ | refine ze z7 (zK) mx (fun K hK => ?_) | refine zj z7 (zK) mx ?_ | refine zh ?_ | refine zi ?_ | refine zn ?_); simp only [go_sem, aeq, aeq.aeqF, simprocAttr, zfi, zfj, Tryz.results215]) | refine zq (fun K hK => ?_) | (refine hK _ ?_; clear hK K) | refine fun (nb : Bool) (hnb : nb = true → _) => ?_ | with_reducible refine And.intro ?_ ?_ | (refine (show zt _ _ = true from ?_); kernel_rfl) | omega | assumption | clear hK K)
theorem znL (g : Geom) (d : Disk) (s : Wk) (k : Int) (h : DP d s.q) : ACall Tryz.prog 193 40 [.vp 5 0, .d (.int .i64 k)] [(5, .var (wkP s.q g d s.e))] (fun r h' => ∃ ob', h' = [(5, ob')] ∧ r = .d (.int .i64 (zbQ d s k).1) ∧ ob' = .var (wkP ((zbQ d s k).2).q g d ((zbQ d s k).2).e)) := by
 refine zW (fun i => decide (i < 40)) ?_
 refine zk Tryz.func193 rfl (zu Tryz.func193 (by kernel_rfl) rfl) Tryz.ntmps193 (by simp) (fun base => ?_)
 repeat' (first | ((first | refine za noTab (zb _) (fun K hK => ?_) | refine zc noTab (zb _) ?_ | refine zh ?_ | refine zi ?_ | refine zn ?_); simp only [go_sem, aeq, aeq.aeqF, simprocAttr, Tryz.results193]) | refine zq (fun K hK => ?_) | (refine hK _ ?_; clear hK K) | with_reducible refine And.intro ?_ ?_ | omega | assumption | clear hK K)
 refine (zhw (fl := 60) (K := fun h' => (s.e ≠ 0 ∧ h' = zfi g d s k) ∨ (s.e = 0 ∧ h' = hset (zfj g d s k) 5 (.var (wkP s.q g d (rget d s.q k).2)))) (zT rfl) (by omega) rfl ?_ ?_ ?_).mono ?_
 ·rintro h' (⟨_, rfl⟩ | ⟨_, rfl⟩) i hi
  ·exact hi
  ·rw [zap (by rfl)]
   revert hi
   simp only [hget]
   repeat' split
   all_goals simp
 ·intro he; exact .inl ⟨he, rfl⟩
 ·intro he
  refine ((zlb g d s k h).whole (zT rfl) (by omega) (by
   rintro r h' ⟨_, rfl⟩ i hi
   revert hi
   simp only [hget]
   repeat' split
   all_goals simp)).mono ?_
  rintro r h' ⟨rfl, rfl⟩
  exact ⟨_, _, rfl, rfl, .inr ⟨he, rfl⟩⟩
 ·rintro r h' ⟨rfl, (⟨he, rfl⟩ | ⟨he, rfl⟩)⟩
  ·have hm : zbQ d s k = (0, s) := by rw [zbQ, if_pos he]
   repeat' (first | ((first | refine za noTab (zb _) (fun K hK => ?_) | refine zc noTab (zb _) ?_ | refine zh ?_ | refine zi ?_ | refine zn ?_); simp only [go_sem, aeq, aeq.aeqF, simprocAttr, zfi, hm, Tryz.results193]) | refine zq (fun K hK => ?_) | (refine hK _ ?_; clear hK K) | with_reducible refine And.intro ?_ ?_ | omega | assumption | clear hK K)
   all_goals first | rfl | exact ⟨_, rfl, rfl⟩ | exact ⟨_, rfl, by rw [hm]⟩ | skip
  ·have hm : zbQ d s k = ((rget d s.q k).1, ⟨s.q, (rget d s.q k).2⟩) := by rw [zbQ, if_neg (by rw [he]; decide)]
   repeat' (first | ((first | refine za noTab (zb _) (fun K hK => ?_) | refine zc noTab (zb _) ?_ | refine zh ?_ | refine zi ?_ | refine zn ?_); simp only [go_sem, aeq, aeq.aeqF, simprocAttr, zfi, zfj, hm, Tryz.results193]) | refine zq (fun K hK => ?_) | (refine hK _ ?_; clear hK K) | with_reducible refine And.intro ?_ ?_ | omega | assumption | clear hK K)
   all_goals first | rfl | exact ⟨_, rfl, rfl⟩ | exact ⟨_, rfl, by rw [hm]⟩ | skip
open Go Go.Proofs
def zbK (d : Disk) (g : Geom) (s : Wk) : Int × Wk := if s.e ≠ 0 then (0, s) else ((rtake d s.q g).2.1, ⟨(rtake d s.q g).1, (rtake d s.q g).2.2⟩)
def wtake (d : Disk) (g : Geom) (s : Wk) (F : Plan → Int → Plan × Int) : Int × Wk :=
 ((zbK d g s).1, if (zbK d g s).2.e ≠ 0 then (zbK d g s).2 else ⟨(F (zbK d g s).2.q (zbK d g s).1).1, (F (zbK d g s).2.q (zbK d g s).1).2⟩)
abbrev hOwn (g : Geom) (d : Disk) (s : Wk) (x : Ent2) (l1 nx : Int) : AHeap := [(22, .var [.d (.int .i64 x.kind), .d (.int .i64 x.loc)]), (5, .var (wkP s.q g d s.e)), (21, .var [.d (.int .i64 l1), .d (.int .u32 nx)]), (20, .var [.vp 5 0])]
abbrev hTak (g : Geom) (d : Disk) (s : Wk) (x : Ent2) (l1 nx : Int) (f : FuncId) (caps : List AV) (k : Int) : AHeap := [(42, .var [.d (.int .i64 k)]), (41, .var [.fn (.func f) [] caps]), (40, .var [.vp 5 0]), (22, .var [.d (.int .i64 x.kind), .d (.int .i64 x.loc)]), (5, .var (wkP s.q g d s.e)), (21, .var [.d (.int .i64 l1), .d (.int .u32 nx)]), (20, .var [.vp 5 0])]
theorem ztr (g : Geom) (d : Disk) (s : Wk) (x : Ent2) (l1 nx : Int) (f : FuncId) (caps : List AV) (hcap : AV.idsL caps = [20] ∨ AV.idsL caps = [20, 22]) (h : DP d s.q) (hg : g.host ≤ 1000000) : ACall Tryz.prog 211 80 [.vp 40 0, .vp 42 0] (hTak g d s x l1 nx f caps 0) (fun r h' => r = .tup [planA (rtake d s.q g).1, .d (.int .i64 (rtake d s.q g).2.2)] ∧ h' = hTak g d s x l1 nx f caps (rtake d s.q g).2.1) := by
 refine zW (fun i => decide (i < 80)) ?_
 refine zk Tryz.func211 rfl (zu Tryz.func211 (by kernel_rfl) rfl) Tryz.ntmps211 (by simp) (fun base => ?_)
 repeat' (first | ((first | refine za z7 (zK) (fun K hK => ?_) | refine zc z7 (zK) ?_ | refine ze z7 (zK) mx (fun K hK => ?_) | refine zj z7 (zK) mx ?_ | refine zh ?_ | refine zi ?_ | refine zn ?_); simp only [go_sem, aeq, aeq.aeqF, simprocAttr, hTak, Tryz.results211]) | refine zq (fun K hK => ?_) | (refine hK _ ?_; clear hK K) | refine fun (nb : Bool) (hnb : nb = true → _) => ?_ | with_reducible refine And.intro ?_ ?_ | (refine (show zt _ _ = true from ?_); kernel_rfl) | omega | assumption | clear hK K)
 rcases hcap with e | e <;> (rw [e]; rfl)
abbrev hFil (g : Geom) (d : Disk) (s : Wk) (x : Ent2) (l1 nx : Int) (f : FuncId) (caps : List AV) (k : Int) : AHeap := (80, .var [.nils 1, .nils 1]) :: hTak g d s x l1 nx f caps k
theorem zts (g : Geom) (d : Disk) (s : Wk) (x : Ent2) (l1 nx : Int) (f : FuncId) (caps : List AV) (k : Int) (F : Plan × Int) (hcap : AV.idsL caps = [20] ∨ AV.idsL caps = [20, 22])
  (hF : ACallAt Tryz.prog 80 f (.d (.int .i64 k) :: caps) (hFil g d s x l1 nx f caps k) (fun r h' => r = .tup [planA F.1, .d (.int .i64 F.2)] ∧ h' = hFil g d s x l1 nx f caps k)) : ACall Tryz.prog 212 80 [.vp 41 0, .vp 42 0] (hTak g d s x l1 nx f caps k) (fun r h' => r = .tup [planA F.1, .d (.int .i64 F.2)] ∧ h' = hTak g d s x l1 nx f caps k) := by
 refine zW (fun i => decide (i < 80)) ?_
 refine zk Tryz.func212 rfl (zu Tryz.func212 (by kernel_rfl) rfl) Tryz.ntmps212 (by simp) (fun base => ?_)
 repeat' (first | ((first | refine za noTab (zb _) (fun K hK => ?_) | refine zc noTab (zb _) ?_ | refine zh ?_ | refine zi ?_ | refine zn ?_); simp only [go_sem, aeq, aeq.aeqF, simprocAttr, hTak, Tryz.results212]) | refine zq (fun K hK => ?_) | (refine hK _ ?_; clear hK K) | with_reducible refine And.intro ?_ ?_ | omega | assumption | clear hK K)
 refine hF.mono ?_
 rintro r h' ⟨rfl, rfl⟩
 simp only [go_sem, aeq, aeq.aeqF, simprocAttr]
 repeat' (first | ((first | refine za noTab (zb _) (fun K hK => ?_) | refine zc noTab (zb _) ?_ | refine zh ?_ | refine zi ?_ | refine zn ?_); simp only [go_sem, aeq, aeq.aeqF, simprocAttr, hTak, Tryz.results212]) | refine zq (fun K hK => ?_) | (refine hK _ ?_; clear hK K) | with_reducible refine And.intro ?_ ?_ | omega | assumption | clear hK K)
 rcases hcap with e | e <;> (rw [e]; rfl)
theorem zmn (g : Geom) (d : Disk) (s : Wk) (x : Ent2) (l1 nx : Int) (f : FuncId) (caps : List AV) (F : Plan → Int → Plan × Int) (hcap : AV.idsL caps = [20] ∨ AV.idsL caps = [20, 22]) (h : DP d s.q) (hg : g.host ≤ 1000000)
  (hF : ∀ (s1 : Wk) (k : Int), DP d s1.q → ACallAt Tryz.prog 80 f (.d (.int .i64 k) :: caps) (hFil g d s1 x l1 nx f caps k) (fun r h' => r = .tup [planA (F s1.q k).1, .d (.int .i64 (F s1.q k).2)] ∧ h' = hFil g d s1 x l1 nx f caps k)) :
  ACall Tryz.prog 190 40 [.vp 5 0, .fn (.func f) [] caps] (hOwn g d s x l1 nx) (fun r h' => r = .d (.int .i64 (wtake d g s F).1) ∧ h' = hOwn g d (wtake d g s F).2 x l1 nx) := by
 refine zW (fun i => decide (i < 40)) ?_
 refine zk Tryz.func190 rfl (zu Tryz.func190 (by kernel_rfl) rfl) Tryz.ntmps190 (by simp) (fun base => ?_)
 repeat' (first | ((first | refine za noTab (zb _) (fun K hK => ?_) | refine zc noTab (zb _) ?_ | refine zh ?_ | refine zi ?_ | refine zn ?_); simp only [go_sem, aeq, aeq.aeqF, simprocAttr, hOwn, Tryz.results190]) | refine zq (fun K hK => ?_) | (refine hK _ ?_; clear hK K) | with_reducible refine And.intro ?_ ?_ | omega | assumption | clear hK K)
 obtain ⟨s1, hs1⟩ : ∃ s1, s1 = (zbK d g s).2 := ⟨_, rfl⟩
 obtain ⟨k, hk⟩ : ∃ k, k = (zbK d g s).1 := ⟨_, rfl⟩
 have hd1 : DP d s1.q := by rw [hs1]; unfold zbK; split; exact h; exact h.rtake g
 refine (zhw (fl := 60) (q := s.q) (g := g) (d := d) (e := s.e) (K := fun h' => h' = hTak g d s1 x l1 nx f caps k) (zT rfl) (by omega) rfl ?_ ?_ ?_).mono ?_
 ·rintro h' rfl i hi
  revert hi
  simp only [hget]
  repeat' split
  all_goals simp
 ·intro he
  rw [hs1, hk, zbK, if_pos he]
  rfl
 ·intro he
  refine ((ztr g d s x l1 nx f caps hcap h hg).whole (zT rfl) (by omega) (by
   rintro r h' ⟨_, rfl⟩ i hi
   revert hi
   simp only [hget]
   repeat' split
   all_goals simp)).mono ?_
  rintro r h' ⟨rfl, rfl⟩
  refine ⟨_, _, rfl, rfl, ?_⟩
  rw [hs1, hk, zbK, if_neg (by rw [he]; decide)]
  rfl
 rintro r h' ⟨rfl, rfl⟩
 repeat' (first | ((first | refine za noTab (zb _) (fun K hK => ?_) | refine zc noTab (zb _) ?_ | refine zh ?_ | refine zi ?_ | refine zn ?_); simp only [go_sem, aeq, aeq.aeqF, simprocAttr, hOwn, hTak, Tryz.results190]) | refine zq (fun K hK => ?_) | (refine hK _ ?_; clear hK K) | with_reducible refine And.intro ?_ ?_ | omega | assumption | clear hK K)
 refine (zhw (fl := 60) (q := s1.q) (g := g) (d := d) (e := s1.e) (K := fun h' => h' = hTak g d (wtake d g s F).2 x l1 nx f caps k) (zT rfl) (by omega) rfl ?_ ?_ ?_).mono ?_
 ·rintro h' rfl i hi
  revert hi
  simp only [hget]
  repeat' split
  all_goals simp
 ·intro he
  rw [wtake, ← hs1, ← hk, if_pos he]
  rfl
 ·intro he
  refine ((zts g d s1 x l1 nx f caps k (F s1.q k) hcap (hF s1 k hd1)).whole (zT rfl) (by omega) (by
   rintro r h' ⟨_, rfl⟩ i hi
   revert hi
   simp only [hget]
   repeat' split
   all_goals simp)).mono ?_
  rintro r h' ⟨rfl, rfl⟩
  refine ⟨_, _, rfl, rfl, ?_⟩
  rw [wtake, ← hs1, ← hk, if_neg (by rw [he]; decide)]
  rfl
 rintro r h' ⟨rfl, rfl⟩
 repeat' (first | ((first | refine za noTab (zb _) (fun K hK => ?_) | refine zc noTab (zb _) ?_ | refine zh ?_ | refine zi ?_ | refine zn ?_); simp only [go_sem, aeq, aeq.aeqF, simprocAttr, hOwn, hTak, Tryz.results190]) | refine zq (fun K hK => ?_) | (refine hK _ ?_; clear hK K) | with_reducible refine And.intro ?_ ?_ | omega | assumption | clear hK K)
 rw [wtake, ← hk]
theorem zu3 (g : Geom) (d : Disk) (s1 : Wk) (x : Ent2) (l1 nx : Int) (k : Int) (h : DP d s1.q) : ACallAt Tryz.prog 80 191 (.d (.int .i64 k) :: [.vp 20 0]) (hFil g d s1 x l1 nx 191 [.vp 20 0] k) (fun r h' => r = .tup [planA (eblank s1.q k).1, .d (.int .i64 (eblank s1.q k).2)] ∧ h' = hFil g d s1 x l1 nx 191 [.vp 20 0] k) := by
 have hp := h.p
 refine ACall.whole (fl := 100) ?_ (zT rfl) (by omega) (by rintro r h' ⟨_, rfl⟩ i hi; exact hi)
 refine zW (fun i => decide (i < 100)) ?_
 refine zk Tryz.func191 rfl (zu Tryz.func191 (by kernel_rfl) rfl) Tryz.ntmps191 (by simp) (fun base => ?_)
 repeat' (first | ((first | refine za z7 (zK) (fun K hK => ?_) | refine zc z7 (zK) ?_ | refine zh ?_ | refine zi ?_ | refine zn ?_); simp only [go_sem, aeq, aeq.aeqF, simprocAttr, hFil, hTak, Tryz.results191]) | refine zq (fun K hK => ?_) | (refine hK _ ?_; clear hK K) | refine fun (nb : Bool) (hnb : nb = true → _) => ?_ | with_reducible refine And.intro ?_ ?_ | omega | assumption | clear hK K)
theorem zu4 (g : Geom) (d : Disk) (s1 : Wk) (x : Ent2) (l1 nx : Int) (k : Int) (h : DP d s1.q) : ACallAt Tryz.prog 80 194 (.d (.int .i64 k) :: [.vp 20 0, .vp 22 0]) (hFil g d s1 x l1 nx 194 [.vp 20 0, .vp 22 0] k) (fun r h' => r = .tup [planA (ecopy d s1.q x.loc k).1, .d (.int .i64 (ecopy d s1.q x.loc k).2)] ∧ h' = hFil g d s1 x l1 nx 194 [.vp 20 0, .vp 22 0] k) := by
 refine ACall.whole (fl := 100) ?_ (zT rfl) (by omega) (by rintro r h' ⟨_, rfl⟩ i hi; exact hi)
 refine zW (fun i => decide (i < 100)) ?_
 refine zk Tryz.func194 rfl (zu Tryz.func194 (by kernel_rfl) rfl) Tryz.ntmps194 (by simp) (fun base => ?_)
 repeat' (first | ((first | refine za z7 (zK) (fun K hK => ?_) | refine zc z7 (zK) ?_ | refine ze z7 (zK) mx (fun K hK => ?_) | refine zj z7 (zK) mx ?_ | refine zh ?_ | refine zi ?_ | refine zn ?_); simp only [go_sem, aeq, aeq.aeqF, simprocAttr, hFil, hTak, Tryz.results194]) | refine zq (fun K hK => ?_) | (refine hK _ ?_; clear hK K) | refine fun (nb : Bool) (hnb : nb = true → _) => ?_ | with_reducible refine And.intro ?_ ?_ | (refine (show zt _ _ = true from ?_); kernel_rfl) | omega | assumption | clear hK K)
abbrev hOw1 (g : Geom) (d : Disk) (s : Wk) (l1 nx : Int) : AHeap := [(21, .var [.d (.int .i64 l1), .d (.int .u32 nx)]), (20, .var [.vp 5 0]), (5, .var (wkP s.q g d s.e))]
theorem zu5 (g : Geom) (d : Disk) (s : Wk) (h : DP d s.q) : ACall Tryz.prog 189 80 [.vp 20 0, .vp 21 0] (hOw1 g d s 0 0) (fun r h' => r = .tup [planA s.q, .d (.int .i64 (zaa d s.q).2)] ∧ h' = hOw1 g d s (zaa d s.q).1.l1 (zaa d s.q).1.next) := by
 refine zW (fun i => decide (i < 80)) ?_
 refine zk Tryz.func189 rfl (zu Tryz.func189 (by kernel_rfl) rfl) Tryz.ntmps189 (by simp) (fun base => ?_)
 repeat' (first | ((first | refine za z7 (zK) (fun K hK => ?_) | refine zc z7 (zK) ?_ | refine ze z7 (zK) mx (fun K hK => ?_) | refine zj z7 (zK) mx ?_ | refine zh ?_ | refine zi ?_ | refine zn ?_); simp only [go_sem, aeq, aeq.aeqF, simprocAttr, hOw1, Tryz.results189]) | refine zq (fun K hK => ?_) | (refine hK _ ?_; clear hK K) | refine fun (nb : Bool) (hnb : nb = true → _) => ?_ | with_reducible refine And.intro ?_ ?_ | (refine (show zt _ _ = true from ?_); kernel_rfl) | omega | assumption | clear hK K)
open Go Go.Proofs
def wless (d : Disk) (s : Wk) (fr : Int) : Wk := if fr < 0 then s else wcount d s fr (-1)
def wnew (d : Disk) (p : Plan) (g : Geom) (l1 i fr : Int) : Int × Wk :=
 ((wtake d g ⟨p, 0⟩ (fun q k => pfill d q fr k)).1, wset d (wless d (wtake d g ⟨p, 0⟩ (fun q k => pfill d q fr k)).2 fr) l1 i ⟨1, (wtake d g ⟨p, 0⟩ (fun q k => pfill d q fr k)).1⟩)
theorem DP.wtake {d : Disk} {s : Wk} {g : Geom} {F : Plan → Int → Plan × Int} (h : DP d s.q) (hF : ∀ q k, DP d q → DP d (F q k).1) : DP d (wtake d g s F).2.q := by
 have h1 : DP d (zbK d g s).2.q := by
  unfold zbK; split
  ·exact h
  ·exact h.rtake g
 unfold Aw.wtake
 show DP d (if (zbK d g s).2.e ≠ 0 then _ else _ : Wk).q
 split
 ·exact h1
 ·exact hF _ _ h1
theorem DP.wcount {d : Disk} {s : Wk} (h : DP d s.q) (k b : Int) : DP d (wcount d s k b).q := by
 unfold Aw.wcount; split
 ·exact h
 ·exact h.radd _ _
theorem DP.wset {d : Disk} {s : Wk} (h : DP d s.q) (t i : Int) (x : Ent2) : DP d (wset d s t i x).q := by
 unfold Aw.wset; split
 ·exact h
 ·exact h.eset _ _ _
theorem zqN {d : Disk} {p : Plan} {g : Geom} {l1 i fr : Int} (h : DP d p) : (wnew d p g l1 i fr).2.e = (pfresh d p g l1 i fr).2.2 ∧ ((wnew d p g l1 i fr).2.e = 0 → (wnew d p g l1 i fr).2.q = (pfresh d p g l1 i fr).1 ∧ (wnew d p g l1 i fr).1 = (pfresh d p g l1 i fr).2.1) ∧ DP d (wnew d p g l1 i fr).2.q := by
 refine ⟨?_, ?_, ?_⟩
 rotate_left
 rotate_left
 ·have hw := DP.wtake (d := d) (s := ⟨p, 0⟩) (g := g) (F := fun q k => pfill d q fr k) h (fun q k hq => hq.pfill fr k)
  unfold wnew
  refine DP.wset ?_ _ _ _
  unfold wless; split
  ·exact hw
  ·exact hw.wcount _ _
 all_goals by_cases h1 : (rtake d p g).2.2 = 0 <;> by_cases h2 : (pfill d (rtake d p g).1 fr (rtake d p g).2.1).2 = 0 <;> by_cases h3 : fr < 0
 all_goals simp only [wnew, pfresh, wtake, zbK, wless, pless, wcount, wset, h1, h2, h3, ne_eq, not_true_eq_false, not_false_eq_true, if_true, if_false, ite_true, ite_false, implies_true, true_implies, and_self]
 all_goals clear h
 all_goals (repeat' split) <;> simp_all
def OwnR (d : Disk) (p : Plan) (g : Geom) (guest : Int) (r : AV) (ob : AObj) : Prop :=
 ∃ (k : Int) (s : Wk), r = .d (.int .i64 k) ∧ ob = .var (wkP s.q g d s.e) ∧ s.e = (pown d p g guest).2.2 ∧ (s.e = 0 → s.q = (pown d p g guest).1 ∧ k = (pown d p g guest).2.1) ∧ DP d s.q
theorem zvO (g : Geom) (d : Disk) (p : Plan) (guest : Int) (h : DP d p) (hg : g.host ≤ 1000000) (hgg : g.guest ≤ 1000000) : ACall Tryz.prog 154 20 [.vp 5 0, .d (.int .i64 guest)] [(5, .var (wkP p g d 0))] (fun r h' => ∃ ob', h' = [(5, ob')] ∧ OwnR d p g guest r ob') := by
 refine zW (fun i => decide (i < 20)) ?_
 refine zk Tryz.func154 rfl (zu Tryz.func154 (by kernel_rfl) rfl) Tryz.ntmps154 (by simp) (fun base => ?_)
 by_cases hr : guest < 0 ∨ g.guest ≤ guest
 ·have hdec : (decide (guest < 0) || decide (g.guest ≤ guest)) = true := by simpa using hr
  repeat' (first | ((first | refine za noTab (zb _) (fun K hK => ?_) | refine zc noTab (zb _) ?_ | refine zh ?_ | refine zi ?_ | refine zn ?_); simp only [go_sem, aeq, aeq.aeqF, simprocAttr, hdec, Tryz.results154]) | refine zq (fun K hK => ?_) | refine zo ?_ | refine zf rfl ?_ | refine zg rfl ?_ | refine zp rfl (fun hc => ?_) (fun hc => ?_) | (refine hK _ ?_; clear hK K) | refine fun (nb : Bool) (hnb : nb = true → _) => ?_ | with_reducible refine And.intro ?_ ?_ | omega | assumption | refine fun (hg : (_ : Bool) = (_ : Bool)) => ?_ | clear hK K)
  all_goals first | rfl | exact ⟨_, rfl, 0, ⟨p, 10⟩, rfl, rfl, by rw [pown, if_pos hr], (fun e => absurd e (show ¬ (10 : Int) = 0 by decide)), h⟩
 have hdec : (decide (guest < 0) || decide (g.guest ≤ guest)) = false := by simpa using hr
 have hw1 : IntKind.i64.wrap (guest.tdiv 16) = guest / 16 := by
  rw [not_or] at hr
  rw [Int.tdiv_eq_ediv_of_nonneg (by omega)]
  exact zD (by omega) (by omega)
 repeat' (first | ((first | refine za noTab (zb _) (fun K hK => ?_) | refine zc noTab (zb _) ?_ | refine zh ?_ | refine zi ?_ | refine zn ?_); simp only [go_sem, aeq, aeq.aeqF, simprocAttr, hdec, Tryz.results154]) | refine zq (fun K hK => ?_) | refine zo ?_ | refine zf rfl ?_ | refine zg rfl ?_ | refine zp rfl (fun hc => ?_) (fun hc => ?_) | (refine hK _ ?_; clear hK K) | refine fun (nb : Bool) (hnb : nb = true → _) => ?_ | with_reducible refine And.intro ?_ ?_ | omega | assumption | refine fun (hg : (_ : Bool) = (_ : Bool)) => ?_ | clear hK K)
 obtain ⟨R, hR⟩ : ∃ R, R = zaa d p := ⟨_, rfl⟩
 refine (zhw (fl := 40) (q := p) (g := g) (d := d) (e := 0) (K := fun h' => h' = hOw1 g d ⟨p, R.2⟩ R.1.l1 R.1.next) (zT rfl) (by omega) rfl ?_ (fun e => absurd rfl e) ?_).mono ?_
 ·rintro h' rfl i hi
  revert hi
  simp only [hget]
  repeat' split
  all_goals simp
 ·intro he
  refine ((zu5 g d ⟨p, 0⟩ h).whole (zT rfl) (by omega) (by
   rintro r h' ⟨_, rfl⟩ i hi
   revert hi
   simp only [hget]
   repeat' split
   all_goals simp)).mono ?_
  rintro r h' ⟨rfl, rfl⟩
  refine ⟨_, _, rfl, rfl, ?_⟩
  rw [hR]
  rfl
 rintro r h' ⟨rfl, rfl⟩
 repeat' (first | ((first | refine za noTab (zb _) (fun K hK => ?_) | refine zc noTab (zb _) ?_ | refine zh ?_ | refine zi ?_ | refine zn ?_); simp only [go_sem, aeq, aeq.aeqF, simprocAttr, hOw1, hw1, Tryz.results154]) | refine zq (fun K hK => ?_) | refine zo ?_ | refine zf rfl ?_ | refine zg rfl ?_ | refine zp rfl (fun hc => ?_) (fun hc => ?_) | (refine hK _ ?_; clear hK K) | refine fun (nb : Bool) (hnb : nb = true → _) => ?_ | with_reducible refine And.intro ?_ ?_ | omega | assumption | refine fun (hg : (_ : Bool) = (_ : Bool)) => ?_ | clear hK K)
 obtain ⟨X, hX⟩ : ∃ X, X = wget d ⟨p, R.2⟩ R.1.l1 (guest / 16) := ⟨_, rfl⟩
 have hXq : X.2.q = p := by rw [hX]; unfold wget; split <;> rfl
 refine ((zub g d ⟨p, R.2⟩ R.1.l1 (guest / 16) h).one (fl' := 20) rfl rfl (zT rfl) rfl (by simp [AObj.ids, AV.idsL, AV.ids, wkP]) (by simp [AV.idsL, AV.ids]) (by omega)).mono ?_
 rintro r h' ⟨ob', ⟨rfl, rfl⟩, rfl⟩
 rw [← hX, hXq]
 simp only [go_sem, aeq, aeq.aeqF, simprocAttr]
 have hpn : pown d p g guest = if R.2 ≠ 0 then (p, 0, R.2) else pown2 d p g R.1.l1 (guest / 16) := by rw [pown, if_neg hr, hR]
 by_cases he : X.2.e = 0
 ·have hR0 : R.2 = 0 := by
   rcases Int.lt_trichotomy R.2 0 with hh | hh | hh
   ·rw [hX, wget, if_pos (show R.2 ≠ 0 by omega)] at he; exact he
   ·exact hh
   ·rw [hX, wget, if_pos (show R.2 ≠ 0 by omega)] at he; exact he
  have hXe : X = ((eget d p R.1.l1 (guest / 16)).1, ⟨p, (eget d p R.1.l1 (guest / 16)).2⟩) := by rw [hX, wget, if_neg (show ¬ R.2 ≠ 0 by omega)]
  have he2 : (eget d p R.1.l1 (guest / 16)).2 = 0 := by rw [hXe] at he; exact he
  obtain ⟨hx1, _⟩ := zp5 he2
  have hk3 := (zfa hx1).1
  obtain ⟨x, hx⟩ : ∃ x, x = (eget d p R.1.l1 (guest / 16)).1 := ⟨_, rfl⟩
  have hX1 : X.1 = x := by rw [hXe, hx]
  rw [← hx] at hk3 hx1
  rw [hX1, he]
  have hpn2 : pown d p g guest = pown2 d p g R.1.l1 (guest / 16) := by rw [hpn, if_neg (by rw [hR0]; decide)]
  have hp2 : pown2 d p g R.1.l1 (guest / 16) = if x.kind = 2 then (p, 0, 14) else if x.kind = 0 then pfresh d p g R.1.l1 (guest / 16) (-1) else if (rget d p x.loc).2 ≠ 0 then (p, 0, (rget d p x.loc).2) else if (rget d p x.loc).1 ≤ 1 then (p, x.loc, 0) else pfresh d p g R.1.l1 (guest / 16) x.loc := by
   rw [pown2, if_neg (by rw [he2]; decide), ← hx]
  rw [← hpn2] at hp2
  rcases hk3 with hk | hk | hk
  ·-- nothing there
   rw [if_neg (by omega), if_pos hk] at hp2
   repeat' (first | ((first | refine za noTab (zb _) (fun K hK => ?_) | refine zc noTab (zb _) ?_ | refine zh ?_ | refine zi ?_ | refine zn ?_); simp only [go_sem, aeq, aeq.aeqF, simprocAttr, hk, Tryz.results154]) | refine zq (fun K hK => ?_) | refine zo ?_ | refine zf rfl ?_ | refine zg rfl ?_ | refine zp rfl (fun hc => ?_) (fun hc => ?_) | (refine hK _ ?_; clear hK K) | refine fun (nb : Bool) (hnb : nb = true → _) => ?_ | with_reducible refine And.intro ?_ ?_ | omega | assumption | refine fun (hg : (_ : Bool) = (_ : Bool)) => ?_ | clear hK K)
   refine (zmn g d ⟨p, 0⟩ ⟨0, x.loc⟩ R.1.l1 R.1.next 191 [.vp 20 0] (fun q k => pfill d q (-1) k) (.inl rfl) h hg (fun s1 k hd => by
    rw [show pfill d s1.q (-1) k = eblank s1.q k from if_pos (by decide)]
    exact zu3 g d s1 ⟨0, x.loc⟩ R.1.l1 R.1.next k hd)).whole (fl := 40) (fl' := 20) (zT rfl) (by omega) ?_ |>.mono ?_
   ·rintro r h' ⟨_, rfl⟩ i hi
    revert hi
    simp only [hget]
    repeat' split
    all_goals simp
   rintro r h' ⟨rfl, rfl⟩
   repeat' (first | ((first | refine za noTab (zb _) (fun K hK => ?_) | refine zc noTab (zb _) ?_ | refine zh ?_ | refine zi ?_ | refine zn ?_); simp only [go_sem, aeq, aeq.aeqF, simprocAttr, hOwn, Tryz.results154]) | refine zq (fun K hK => ?_) | refine zo ?_ | refine zf rfl ?_ | refine zg rfl ?_ | refine zp rfl (fun hc => ?_) (fun hc => ?_) | (refine hK _ ?_; clear hK K) | refine fun (nb : Bool) (hnb : nb = true → _) => ?_ | with_reducible refine And.intro ?_ ?_ | omega | assumption | refine fun (hg : (_ : Bool) = (_ : Bool)) => ?_ | clear hK K)
   obtain ⟨W, hW⟩ : ∃ W, W = wtake d g ⟨p, 0⟩ (fun q k => pfill d q (-1) k) := ⟨_, rfl⟩
   have hDW : DP d W.2.q := by rw [hW]; exact DP.wtake h (fun q k hq => hq.pfill _ _)
   refine ((zmm g d (wtake d g ⟨p, 0⟩ (fun q k => pfill d q (-1) k)).2 R.1.l1 (guest / 16) ⟨1, (wtake d g ⟨p, 0⟩ (fun q k => pfill d q (-1) k)).1⟩ (by rw [← hW]; exact hDW)).one (fl' := 20) rfl rfl (zT rfl) rfl (by simp [AObj.ids, AV.idsL, AV.ids, wkP]) (by simp [AV.idsL, AV.ids, entA]) (by omega)).mono ?_
   rintro r h' ⟨ob', ⟨rfl, rfl⟩, rfl⟩
   simp only [go_sem, aeq, aeq.aeqF, simprocAttr]
   repeat' (first | ((first | refine za noTab (zb _) (fun K hK => ?_) | refine zc noTab (zb _) ?_ | refine zh ?_ | refine zi ?_ | refine zn ?_); simp only [go_sem, aeq, aeq.aeqF, simprocAttr, Tryz.results154]) | refine zq (fun K hK => ?_) | refine zo ?_ | refine zf rfl ?_ | refine zg rfl ?_ | refine zp rfl (fun hc => ?_) (fun hc => ?_) | (refine hK _ ?_; clear hK K) | refine fun (nb : Bool) (hnb : nb = true → _) => ?_ | with_reducible refine And.intro ?_ ?_ | omega | assumption | refine fun (hg : (_ : Bool) = (_ : Bool)) => ?_ | clear hK K)
   all_goals first | rfl | skip
   have hn := zqN (g := g) (l1 := R.1.l1) (i := guest / 16) (fr := -1) h
   rw [← hp2] at hn
   exact ⟨_, rfl, (wnew d p g R.1.l1 (guest / 16) (-1)).1, (wnew d p g R.1.l1 (guest / 16) (-1)).2, rfl, rfl, hn⟩
  ·-- a table
   rw [if_neg (by omega), if_neg (by omega)] at hp2
   repeat' (first | ((first | refine za noTab (zb _) (fun K hK => ?_) | refine zc noTab (zb _) ?_ | refine zh ?_ | refine zi ?_ | refine zn ?_); simp only [go_sem, aeq, aeq.aeqF, simprocAttr, hk, Tryz.results154]) | refine zq (fun K hK => ?_) | refine zo ?_ | refine zf rfl ?_ | refine zg rfl ?_ | refine zp rfl (fun hc => ?_) (fun hc => ?_) | (refine hK _ ?_; clear hK K) | refine fun (nb : Bool) (hnb : nb = true → _) => ?_ | with_reducible refine And.intro ?_ ?_ | omega | assumption | refine fun (hg : (_ : Bool) = (_ : Bool)) => ?_ | clear hK K)
   refine ((znL g d ⟨p, 0⟩ x.loc h).one (fl' := 20) rfl rfl (zT rfl) rfl (by simp [AObj.ids, AV.idsL, AV.ids, wkP]) (by simp [AV.idsL, AV.ids]) (by omega)).mono ?_
   rintro r h' ⟨ob', ⟨rfl, rfl⟩, rfl⟩
   have hwc : zbQ d ⟨p, 0⟩ x.loc = ((rget d p x.loc).1, ⟨p, (rget d p x.loc).2⟩) := by rw [zbQ, if_neg (by simp)]
   simp only [hwc]
   simp only [go_sem, aeq, aeq.aeqF, simprocAttr]
   obtain ⟨N, hN⟩ : ∃ N, N = rget d p x.loc := ⟨_, rfl⟩
   rw [← hN] at hp2 ⊢
   by_cases hN1 : N.1 ≤ 1
   ·have hb : decide (N.1 ≤ 1) = true := by simpa using hN1
    simp only [hb]
    repeat' (first | ((first | refine za noTab (zb _) (fun K hK => ?_) | refine zc noTab (zb _) ?_ | refine zh ?_ | refine zi ?_ | refine zn ?_); simp only [go_sem, aeq, aeq.aeqF, simprocAttr, Tryz.results154]) | refine zq (fun K hK => ?_) | refine zo ?_ | refine zf rfl ?_ | refine zg rfl ?_ | refine zp rfl (fun hc => ?_) (fun hc => ?_) | (refine hK _ ?_; clear hK K) | refine fun (nb : Bool) (hnb : nb = true → _) => ?_ | with_reducible refine And.intro ?_ ?_ | omega | assumption | refine fun (hg : (_ : Bool) = (_ : Bool)) => ?_ | clear hK K)
    all_goals first | rfl | skip
    refine ⟨_, rfl, x.loc, ⟨p, N.2⟩, rfl, rfl, ?_, ?_, h⟩
    ·show N.2 = _
     rw [hp2]
     by_cases hN2 : N.2 = 0
     ·rw [if_neg (by omega), if_pos hN1, hN2]
     ·rw [if_pos hN2]
    ·intro (e : N.2 = 0)
     rw [hp2, if_neg (by omega), if_pos hN1]
     exact ⟨rfl, rfl⟩
   ·have hb : decide (N.1 ≤ 1) = false := by simpa using hN1
    have hN2 : N.2 = 0 := by
     rw [hN, rget] at hN1 ⊢
     split
     ·rename_i hh; rw [if_pos hh] at hN1; exact absurd (show (0 : Int) ≤ 1 by decide) hN1
     ·rename_i hh; rw [if_neg hh] at hN1
      split
      ·rename_i hh2; rw [if_pos hh2] at hN1; exact absurd (show (0 : Int) ≤ 1 by decide) hN1
      ·rfl
    rw [if_neg (by omega), if_neg hN1] at hp2
    simp only [hb, hN2]
    repeat' ((fail_if_success refine hds 9 (by rfl) ?_); first | ((first | refine za noTab (zb _) (fun K hK => ?_) | refine zc noTab (zb _) ?_ | refine zh ?_ | refine zi ?_ | refine zn ?_); simp only [go_sem, aeq, aeq.aeqF, simprocAttr, Tryz.results154]) | refine zq (fun K hK => ?_) | refine zo ?_ | refine zf rfl ?_ | refine zg rfl ?_ | refine zp rfl (fun hc => ?_) (fun hc => ?_) | (refine hK _ ?_; clear hK K) | refine fun (nb : Bool) (hnb : nb = true → _) => ?_ | with_reducible refine And.intro ?_ ?_ | omega | assumption | refine fun (hg : (_ : Bool) = (_ : Bool)) => ?_ | clear hK K)
    refine aw_le ⟨[(2, true, .vp 20 0), (5, true, .vp 21 0), (6, true, .d (.int .i64 (guest / 16))), (7, true, .vp 22 0)], hOwn g d ⟨p, 0⟩ ⟨1, x.loc⟩ R.1.l1 R.1.next, some []⟩ (by simp only [AS.le, leT, leH, zr, AsgK, AV.le, AV.leL, AObj.le, inH, idsT, idsH, AV.ids, AV.idsL, AV.idsR, AObj.ids, lk, hget, go_sem, aeq, aeq.aeqF, simprocAttr, hOwn, wkP]) ?_
    repeat' (first | ((first | refine za noTab (zb _) (fun K hK => ?_) | refine zc noTab (zb _) ?_ | refine zh ?_ | refine zi ?_ | refine zn ?_); simp only [go_sem, aeq, aeq.aeqF, simprocAttr, hOwn, Tryz.results154]) | refine zq (fun K hK => ?_) | refine zo ?_ | refine zf rfl ?_ | refine zg rfl ?_ | refine zp rfl (fun hc => ?_) (fun hc => ?_) | (refine hK _ ?_; clear hK K) | refine fun (nb : Bool) (hnb : nb = true → _) => ?_ | with_reducible refine And.intro ?_ ?_ | omega | assumption | refine fun (hg : (_ : Bool) = (_ : Bool)) => ?_ | clear hK K)
    have hf0 : ¬ x.loc < 0 := by have := (zfa hx1).2.1; omega
    refine (zmn g d ⟨p, 0⟩ ⟨1, x.loc⟩ R.1.l1 R.1.next 194 [.vp 20 0, .vp 22 0] (fun q k => pfill d q x.loc k) (.inr rfl) h hg (fun s1 k hd => by
     rw [show pfill d s1.q x.loc k = ecopy d s1.q x.loc k from if_neg hf0]
     exact zu4 g d s1 ⟨1, x.loc⟩ R.1.l1 R.1.next k hd)).whole (fl := 40) (fl' := 20) (zT rfl) (by omega) ?_ |>.mono ?_
    ·rintro r h' ⟨_, rfl⟩ i hi
     revert hi
     simp only [hget]
     repeat' split
     all_goals simp
    rintro r h' ⟨rfl, rfl⟩
    repeat' (first | ((first | refine za noTab (zb _) (fun K hK => ?_) | refine zc noTab (zb _) ?_ | refine zh ?_ | refine zi ?_ | refine zn ?_); simp only [go_sem, aeq, aeq.aeqF, simprocAttr, hOwn, Tryz.results154]) | refine zq (fun K hK => ?_) | refine zo ?_ | refine zf rfl ?_ | refine zg rfl ?_ | refine zp rfl (fun hc => ?_) (fun hc => ?_) | (refine hK _ ?_; clear hK K) | refine fun (nb : Bool) (hnb : nb = true → _) => ?_ | with_reducible refine And.intro ?_ ?_ | omega | assumption | refine fun (hg : (_ : Bool) = (_ : Bool)) => ?_ | clear hK K)
    obtain ⟨W, hW⟩ : ∃ W, W = wtake d g ⟨p, 0⟩ (fun q k => pfill d q x.loc k) := ⟨_, rfl⟩
    have hDW : DP d W.2.q := by rw [hW]; exact DP.wtake h (fun q k hq => hq.pfill _ _)
    refine ((zml g d (wtake d g ⟨p, 0⟩ (fun q k => pfill d q x.loc k)).2 x.loc (-1) (by rw [← hW]; exact hDW)).one (fl' := 20) rfl rfl (zT rfl) rfl (by simp [AObj.ids, AV.idsL, AV.ids, wkP]) (by simp [AV.idsL, AV.ids]) (by omega)).mono ?_
    rintro r h' ⟨ob', ⟨rfl, rfl⟩, rfl⟩
    simp only [go_sem, aeq, aeq.aeqF, simprocAttr]
    repeat' (first | ((first | refine za noTab (zb _) (fun K hK => ?_) | refine zc noTab (zb _) ?_ | refine zh ?_ | refine zi ?_ | refine zn ?_); simp only [go_sem, aeq, aeq.aeqF, simprocAttr, Tryz.results154]) | refine zq (fun K hK => ?_) | refine zo ?_ | refine zf rfl ?_ | refine zg rfl ?_ | refine zp rfl (fun hc => ?_) (fun hc => ?_) | (refine hK _ ?_; clear hK K) | refine fun (nb : Bool) (hnb : nb = true → _) => ?_ | with_reducible refine And.intro ?_ ?_ | omega | assumption | refine fun (hg : (_ : Bool) = (_ : Bool)) => ?_ | clear hK K)
    refine ((zmm g d (wcount d (wtake d g ⟨p, 0⟩ (fun q k => pfill d q x.loc k)).2 x.loc (-1)) R.1.l1 (guest / 16) ⟨1, (wtake d g ⟨p, 0⟩ (fun q k => pfill d q x.loc k)).1⟩ (by rw [← hW]; exact hDW.wcount _ _)).one (fl' := 20) rfl rfl (zT rfl) rfl (by simp [AObj.ids, AV.idsL, AV.ids, wkP]) (by simp [AV.idsL, AV.ids, entA]) (by omega)).mono ?_
    rintro r h' ⟨ob', ⟨rfl, rfl⟩, rfl⟩
    simp only [go_sem, aeq, aeq.aeqF, simprocAttr]
    repeat' (first | ((first | refine za noTab (zb _) (fun K hK => ?_) | refine zc noTab (zb _) ?_ | refine zh ?_ | refine zi ?_ | refine zn ?_); simp only [go_sem, aeq, aeq.aeqF, simprocAttr, Tryz.results154]) | refine zq (fun K hK => ?_) | refine zo ?_ | refine zf rfl ?_ | refine zg rfl ?_ | refine zp rfl (fun hc => ?_) (fun hc => ?_) | (refine hK _ ?_; clear hK K) | refine fun (nb : Bool) (hnb : nb = true → _) => ?_ | with_reducible refine And.intro ?_ ?_ | omega | assumption | refine fun (hg : (_ : Bool) = (_ : Bool)) => ?_ | clear hK K)
    all_goals first | rfl | skip
    have hn := zqN (g := g) (l1 := R.1.l1) (i := guest / 16) (fr := x.loc) h
    rw [← hp2] at hn
    refine ⟨_, rfl, (wnew d p g R.1.l1 (guest / 16) x.loc).1, (wnew d p g R.1.l1 (guest / 16) x.loc).2, rfl, ?_, hn⟩
    rw [wnew, wless, if_neg hf0]
    rfl
  ·rw [if_pos hk] at hp2
   repeat' (first | ((first | refine za noTab (zb _) (fun K hK => ?_) | refine zc noTab (zb _) ?_ | refine zh ?_ | refine zi ?_ | refine zn ?_); simp only [go_sem, aeq, aeq.aeqF, simprocAttr, hk, Tryz.results154]) | refine zq (fun K hK => ?_) | refine zo ?_ | refine zf rfl ?_ | refine zg rfl ?_ | refine zp rfl (fun hc => ?_) (fun hc => ?_) | (refine hK _ ?_; clear hK K) | refine fun (nb : Bool) (hnb : nb = true → _) => ?_ | with_reducible refine And.intro ?_ ?_ | omega | assumption | refine fun (hg : (_ : Bool) = (_ : Bool)) => ?_ | clear hK K)
   all_goals first | rfl | exact ⟨_, rfl, 0, ⟨p, 14⟩, rfl, rfl, by rw [hp2], (fun e => absurd e (show ¬ (14 : Int) = 0 by decide)), h⟩
 ·have hb : (X.2.e != 0) = true := by simpa using he
  repeat' (first | ((first | refine za noTab (zb _) (fun K hK => ?_) | refine zc noTab (zb _) ?_ | refine zh ?_ | refine zi ?_ | refine zn ?_); simp only [go_sem, aeq, aeq.aeqF, simprocAttr, hb, Tryz.results154]) | refine zq (fun K hK => ?_) | refine zo ?_ | refine zf rfl ?_ | refine zg rfl ?_ | refine zp rfl (fun hc => ?_) (fun hc => ?_) | (refine hK _ ?_; clear hK K) | refine fun (nb : Bool) (hnb : nb = true → _) => ?_ | with_reducible refine And.intro ?_ ?_ | omega | assumption | refine fun (hg : (_ : Bool) = (_ : Bool)) => ?_ | clear hK K)
  refine ⟨_, rfl, 0, ⟨p, X.2.e⟩, rfl, rfl, ?_, (fun e => absurd e he), h⟩
  show X.2.e = _
  rw [hpn, hX, wget]
  by_cases hR0 : R.2 = 0
  ·rw [if_neg (show ¬ R.2 ≠ 0 by omega), if_neg (show ¬ R.2 ≠ 0 by omega), pown2]
   rw [hX, wget, if_neg (show ¬ R.2 ≠ 0 by omega)] at he
   rw [if_pos he]
  ·rw [if_pos hR0, if_pos hR0]
open Go Go.Proofs
theorem DP.wget {d : Disk} {s : Wk} (h : DP d s.q) (t i : Int) : DP d (wget d s t i).2.q := by
 unfold Aw.wget; split <;> exact h
def zmo (d : Disk) (s : Wk) (y : Ent2) : Wk := if y.kind = 1 then wcount d s y.loc (-1) else s
def zih (d : Disk) (s : Wk) (k i : Int) (x : Ent2) : Wk := wset d (zmo d (wget d s k i).2 (wget d s k i).1) k i x
theorem zqO {d : Disk} {p q : Plan} {k i : Int} {x : Ent2} : (if (zih d ⟨q, 0⟩ k i x).e ≠ 0 then (p, (zih d ⟨q, 0⟩ k i x).e) else ((zih d ⟨q, 0⟩ k i x).q, 0)) = zhn d p q k i x := by
 by_cases h1 : (eget d q k i).2 = 0 <;> by_cases h2 : (eget d q k i).1.kind = 1
 all_goals simp only [zih, zmo, wget, zhn, wcount, wset, h1, h2, ne_eq, not_true_eq_false, not_false_eq_true, if_true, if_false, ite_true, ite_false, implies_true, true_implies, and_self]
 all_goals (repeat' split) <;> simp_all
theorem ztt (d : Disk) (p : Plan) (g : Geom) (k : Int) (x : Ent2) (h : DP d p) (hg : g.host ≤ 1000000) (hgg : g.guest ≤ 1000000) : ACall Tryz.prog 98 0 [diskA d, planA p, geomA g, .d (.int .i64 k), entA x] [] (fun r _ => r = .tup [planA (ppoint d p g k x).1, .d (.int .i64 (ppoint d p g k x).2)]) := by
 refine zk Tryz.func98 rfl (zu Tryz.func98 (by kernel_rfl) rfl) Tryz.ntmps98 (by simp) (fun base => ?_)
 repeat' (first | ((first | refine za noTab (zb _) (fun K hK => ?_) | refine zc noTab (zb _) ?_ | refine ze noTab (zb _) mx (fun K hK => ?_) | refine zj noTab (zb _) mx ?_ | refine zh ?_ | refine zi ?_ | refine zn ?_); simp only [go_sem, aeq, aeq.aeqF, simprocAttr, Tryz.results98]) | refine zq (fun K hK => ?_) | refine zf rfl ?_ | refine zg rfl ?_ | refine zp rfl (fun hc => ?_) (fun hc => ?_) | (refine hK _ ?_; clear hK K) | refine fun (nb : Bool) (hnb : nb = true → _) => ?_ | with_reducible refine And.intro ?_ ?_ | (refine (show zt _ _ = true from ?_); kernel_rfl) | omega | assumption | clear hK K)
 refine ((zvO g d p k h hg hgg).one (fl' := 0) rfl rfl (zT rfl) rfl (by simp [AObj.ids, AV.idsL, AV.ids, wkP]) (by simp [AV.idsL, AV.ids, entA]) (by omega)).mono ?_
 rintro r h' ⟨ob', ⟨t, s, rfl, rfl, he, hs, hd⟩, rfl⟩
 have hpp : ppoint d p g k x = if s.e ≠ 0 then (p, s.e) else zhn d p (pown d p g k).1 (pown d p g k).2.1 (k % 16) x := by rw [ppoint, ← he]
 simp only [go_sem, aeq, aeq.aeqF, simprocAttr]
 by_cases he0 : s.e = 0
 ·obtain ⟨hq, rfl⟩ := hs he0
  have hk0 : 0 ≤ k ∧ k < g.guest := by
   rw [he0] at he
   unfold pown at he
   by_cases hk : k < 0 ∨ g.guest ≤ k
   ·rw [if_pos hk] at he; cases he
   ·omega
  have hw2 : k.tmod 16 = k % 16 := Int.tmod_eq_emod_of_nonneg (by omega)
  rw [if_neg (by omega), ← hq] at hpp
  obtain ⟨t, ht⟩ : ∃ t, t = (pown d p g k).2.1 := ⟨_, rfl⟩
  rw [← ht] at hpp ⊢
  simp only [he0]
  repeat' (first | ((first | refine za noTab (zb _) (fun K hK => ?_) | refine zc noTab (zb _) ?_ | refine ze noTab (zb _) mx (fun K hK => ?_) | refine zj noTab (zb _) mx ?_ | refine zh ?_ | refine zi ?_ | refine zn ?_); simp only [go_sem, aeq, aeq.aeqF, simprocAttr, hw2, Tryz.results98]) | refine zq (fun K hK => ?_) | refine zf rfl ?_ | refine zg rfl ?_ | refine zp rfl (fun hc => ?_) (fun hc => ?_) | (refine hK _ ?_; clear hK K) | refine fun (nb : Bool) (hnb : nb = true → _) => ?_ | with_reducible refine And.intro ?_ ?_ | (refine (show zt _ _ = true from ?_); kernel_rfl) | omega | assumption | clear hK K)
  refine ((zub g d ⟨s.q, 0⟩ t (k % 16) hd).one (fl' := 0) rfl rfl (zT rfl) rfl (by simp [AObj.ids, AV.idsL, AV.ids, wkP]) (by simp [AV.idsL, AV.ids, entA]) (by omega)).mono ?_
  rintro r h' ⟨ob', ⟨rfl, rfl⟩, rfl⟩
  simp only [go_sem, aeq, aeq.aeqF, simprocAttr]
  obtain ⟨G, hG⟩ : ∃ G, G = wget d ⟨s.q, 0⟩ t (k % 16) := ⟨_, rfl⟩
  have hdG : DP d G.2.q := by rw [hG]; exact DP.wget (s := ⟨s.q, 0⟩) hd _ _
  rw [← hG]
  have hfin : ∀ S, S = zih d ⟨s.q, 0⟩ t (k % 16) x → ppoint d p g k x = if S.e ≠ 0 then (p, S.e) else (S.q, 0) := fun S hS => by rw [hpp, hS, zqO]
  rw [zih, ← hG] at hfin
  by_cases hk1 : G.1.kind = 1
  ·rw [zmo, if_pos hk1] at hfin
   repeat' (first | ((first | refine za noTab (zb _) (fun K hK => ?_) | refine zc noTab (zb _) ?_ | refine ze noTab (zb _) mx (fun K hK => ?_) | refine zj noTab (zb _) mx ?_ | refine zh ?_ | refine zi ?_ | refine zn ?_); simp only [go_sem, aeq, aeq.aeqF, simprocAttr, hw2, hk1, Tryz.results98]) | refine zq (fun K hK => ?_) | refine zf rfl ?_ | refine zg rfl ?_ | refine zp rfl (fun hc => ?_) (fun hc => ?_) | (refine hK _ ?_; clear hK K) | refine fun (nb : Bool) (hnb : nb = true → _) => ?_ | with_reducible refine And.intro ?_ ?_ | (refine (show zt _ _ = true from ?_); kernel_rfl) | omega | assumption | clear hK K)
   refine ((zml g d G.2 G.1.loc (-1) hdG).one (fl' := 0) rfl rfl (zT rfl) rfl (by simp [AObj.ids, AV.idsL, AV.ids, wkP]) (by simp [AV.idsL, AV.ids, entA]) (by omega)).mono ?_
   rintro r h' ⟨ob', ⟨rfl, rfl⟩, rfl⟩
   simp only [go_sem, aeq, aeq.aeqF, simprocAttr]
   repeat' (first | ((first | refine za noTab (zb _) (fun K hK => ?_) | refine zc noTab (zb _) ?_ | refine ze noTab (zb _) mx (fun K hK => ?_) | refine zj noTab (zb _) mx ?_ | refine zh ?_ | refine zi ?_ | refine zn ?_); simp only [go_sem, aeq, aeq.aeqF, simprocAttr, hw2, Tryz.results98]) | refine zq (fun K hK => ?_) | refine zf rfl ?_ | refine zg rfl ?_ | refine zp rfl (fun hc => ?_) (fun hc => ?_) | (refine hK _ ?_; clear hK K) | refine fun (nb : Bool) (hnb : nb = true → _) => ?_ | with_reducible refine And.intro ?_ ?_ | (refine (show zt _ _ = true from ?_); kernel_rfl) | omega | assumption | clear hK K)
   refine ((zmm g d (wcount d G.2 G.1.loc (-1)) t (k % 16) x (hdG.wcount _ _)).one (fl' := 0) rfl rfl (zT rfl) rfl (by simp [AObj.ids, AV.idsL, AV.ids, wkP]) (by simp [AV.idsL, AV.ids, entA]) (by omega)).mono ?_
   rintro r h' ⟨ob', ⟨rfl, rfl⟩, rfl⟩
   simp only [go_sem, aeq, aeq.aeqF, simprocAttr]
   obtain ⟨S, hS⟩ : ∃ S, S = wset d (wcount d G.2 G.1.loc (-1)) t (k % 16) x := ⟨_, rfl⟩
   have hfin := hfin S hS
   rw [← hS]
   by_cases hS0 : S.e = 0
   ·have hb : (S.e != 0) = false := by simpa using hS0
    repeat' (first | ((first | refine za noTab (zb _) (fun K hK => ?_) | refine zc noTab (zb _) ?_ | refine ze noTab (zb _) mx (fun K hK => ?_) | refine zj noTab (zb _) mx ?_ | refine zh ?_ | refine zi ?_ | refine zn ?_); simp only [go_sem, aeq, aeq.aeqF, simprocAttr, hb, Tryz.results98]) | refine zq (fun K hK => ?_) | refine zf rfl ?_ | refine zg rfl ?_ | refine zp rfl (fun hc => ?_) (fun hc => ?_) | (refine hK _ ?_; clear hK K) | refine fun (nb : Bool) (hnb : nb = true → _) => ?_ | with_reducible refine And.intro ?_ ?_ | (refine (show zt _ _ = true from ?_); kernel_rfl) | omega | assumption | clear hK K)
    all_goals rw [hfin, if_neg (by omega)]
   ·have hb : (S.e != 0) = true := by simpa using hS0
    repeat' (first | ((first | refine za noTab (zb _) (fun K hK => ?_) | refine zc noTab (zb _) ?_ | refine ze noTab (zb _) mx (fun K hK => ?_) | refine zj noTab (zb _) mx ?_ | refine zh ?_ | refine zi ?_ | refine zn ?_); simp only [go_sem, aeq, aeq.aeqF, simprocAttr, hb, Tryz.results98]) | refine zq (fun K hK => ?_) | refine zf rfl ?_ | refine zg rfl ?_ | refine zp rfl (fun hc => ?_) (fun hc => ?_) | (refine hK _ ?_; clear hK K) | refine fun (nb : Bool) (hnb : nb = true → _) => ?_ | with_reducible refine And.intro ?_ ?_ | (refine (show zt _ _ = true from ?_); kernel_rfl) | omega | assumption | clear hK K)
    all_goals rw [hfin, if_pos hS0]
  ·rw [zmo, if_neg hk1] at hfin
   have hk2 : (G.1.kind == 1) = false := by simpa using hk1
   repeat' (first | ((first | refine za noTab (zb _) (fun K hK => ?_) | refine zc noTab (zb _) ?_ | refine ze noTab (zb _) mx (fun K hK => ?_) | refine zj noTab (zb _) mx ?_ | refine zh ?_ | refine zi ?_ | refine zn ?_); simp only [go_sem, aeq, aeq.aeqF, simprocAttr, hw2, hk2, Tryz.results98]) | refine zq (fun K hK => ?_) | refine zf rfl ?_ | refine zg rfl ?_ | refine zp rfl (fun hc => ?_) (fun hc => ?_) | (refine hK _ ?_; clear hK K) | refine fun (nb : Bool) (hnb : nb = true → _) => ?_ | with_reducible refine And.intro ?_ ?_ | (refine (show zt _ _ = true from ?_); kernel_rfl) | omega | assumption | clear hK K)
   refine ((zmm g d G.2 t (k % 16) x hdG).one (fl' := 0) rfl rfl (zT rfl) rfl (by simp [AObj.ids, AV.idsL, AV.ids, wkP]) (by simp [AV.idsL, AV.ids, entA]) (by omega)).mono ?_
   rintro r h' ⟨ob', ⟨rfl, rfl⟩, rfl⟩
   simp only [go_sem, aeq, aeq.aeqF, simprocAttr]
   obtain ⟨S, hS⟩ : ∃ S, S = wset d G.2 t (k % 16) x := ⟨_, rfl⟩
   have hfin := hfin S hS
   rw [← hS]
   by_cases hS0 : S.e = 0
   ·have hb : (S.e != 0) = false := by simpa using hS0
    repeat' (first | ((first | refine za noTab (zb _) (fun K hK => ?_) | refine zc noTab (zb _) ?_ | refine ze noTab (zb _) mx (fun K hK => ?_) | refine zj noTab (zb _) mx ?_ | refine zh ?_ | refine zi ?_ | refine zn ?_); simp only [go_sem, aeq, aeq.aeqF, simprocAttr, hb, Tryz.results98]) | refine zq (fun K hK => ?_) | refine zf rfl ?_ | refine zg rfl ?_ | refine zp rfl (fun hc => ?_) (fun hc => ?_) | (refine hK _ ?_; clear hK K) | refine fun (nb : Bool) (hnb : nb = true → _) => ?_ | with_reducible refine And.intro ?_ ?_ | (refine (show zt _ _ = true from ?_); kernel_rfl) | omega | assumption | clear hK K)
    all_goals rw [hfin, if_neg (by omega)]
   ·have hb : (S.e != 0) = true := by simpa using hS0
    repeat' (first | ((first | refine za noTab (zb _) (fun K hK => ?_) | refine zc noTab (zb _) ?_ | refine ze noTab (zb _) mx (fun K hK => ?_) | refine zj noTab (zb _) mx ?_ | refine zh ?_ | refine zi ?_ | refine zn ?_); simp only [go_sem, aeq, aeq.aeqF, simprocAttr, hb, Tryz.results98]) | refine zq (fun K hK => ?_) | refine zf rfl ?_ | refine zg rfl ?_ | refine zp rfl (fun hc => ?_) (fun hc => ?_) | (refine hK _ ?_; clear hK K) | refine fun (nb : Bool) (hnb : nb = true → _) => ?_ | with_reducible refine And.intro ?_ ?_ | (refine (show zt _ _ = true from ?_); kernel_rfl) | omega | assumption | clear hK K)
    all_goals rw [hfin, if_pos hS0]
 ·have hb : (s.e != 0) = true := by simpa using he0
  rw [if_pos he0] at hpp
  repeat' (first | ((first | refine za noTab (zb _) (fun K hK => ?_) | refine zc noTab (zb _) ?_ | refine ze noTab (zb _) mx (fun K hK => ?_) | refine zj noTab (zb _) mx ?_ | refine zh ?_ | refine zi ?_ | refine zn ?_); simp only [go_sem, aeq, aeq.aeqF, simprocAttr, hb, Tryz.results98]) | refine zq (fun K hK => ?_) | refine zf rfl ?_ | refine zg rfl ?_ | refine zp rfl (fun hc => ?_) (fun hc => ?_) | (refine hK _ ?_; clear hK K) | refine fun (nb : Bool) (hnb : nb = true → _) => ?_ | with_reducible refine And.intro ?_ ?_ | (refine (show zt _ _ = true from ?_); kernel_rfl) | omega | assumption | clear hK K)
  rw [hpp]
noncomputable def zf2 : Ent Tryz.prog := .ofL 98 (consL zM (consL zU (consL zhl (consL (intT .i64) (consL zjY nilL))))) (fun (d, p, g, k, x, _) => (DP d p) ∧ (g.host ≤ 1000000) ∧ (g.guest ≤ 1000000)) (fun (d, p, g, k, x, _) => .tup [planA (ppoint d p g k x).1, .d (.int .i64 (ppoint d p g k x).2)]) (fun (d, p, g, k, x, _) hp => ⟨rfl, ztt d p g k x hp.1 hp.2.1 hp.2.2⟩)
attribute [go_sem] zf2
open Go Go.Proofs
structure Dmap where
 name : Txt
 inuse : Bool
 bits : List Bool
 deriving DecidableEq
def dmapD (m : Dmap) : List D := .str m.name :: .bool m.inuse :: m.bits.map .bool
theorem zho : ∀ {a b : List Bool}, a.map D.bool = b.map D.bool → a = b
 | [], [], _ => rfl
 | [], _ :: _, h => by simp at h
 | _ :: _, [], h => by simp at h
 | x :: a, y :: b, h => by
  simp only [List.map_cons, List.cons.injEq, D.bool.injEq] at h
  rw [h.1, zho h.2]
theorem zcF : ∀ a b, dmapD a = dmapD b → a = b := by
 rintro ⟨n, u, b⟩ ⟨n', u', b'⟩ h
 simp only [dmapD, List.cons.injEq, D.str.injEq, D.bool.injEq] at h
 rw [h.1, h.2.1, zho h.2.2]
structure Img where
 disk : Disk
 geom : Geom
 jour : Jour
 maps : List Dmap
 broken : Bool
 deriving DecidableEq
def imgA (x : Img) : AV := .agg [.d (.str x.disk.data), .d (.sl 2 (x.disk.cache.map putD)), .d (.int .i64 x.disk.fuse), .d (.bool x.disk.off), .d (.sl 1 (x.disk.bad.map intD)), .d (.int .i64 x.geom.guest), .d (.int .i64 x.geom.host), .d (.int .u64 x.jour.seq), .d (.int .i64 x.jour.pos), .d (.sl 66 (x.maps.map dmapD)), .d (.bool x.broken)]
attribute [go_sem] imgA
theorem zuS (x : Img) : Img.mk x.disk x.geom x.jour x.maps x.broken = x := rfl
noncomputable def zei : PT Img := aggT (consL strT (consL (slT 2 putD zcT) (consL (intT .i64) (consL boolT (consL (slT 1 intD zbj) (consL (intT .i64) (consL (intT .i64) (consL (intT .u64) (consL (intT .i64) (consL (slT 66 dmapD zcF) (consL boolT nilL))))))))))) (fun p => ⟨⟨p.1, p.2.1, p.2.2.1, p.2.2.2.1, p.2.2.2.2.1⟩, ⟨p.2.2.2.2.2.1, p.2.2.2.2.2.2.1⟩, ⟨p.2.2.2.2.2.2.2.1, p.2.2.2.2.2.2.2.2.1⟩, p.2.2.2.2.2.2.2.2.2.1, p.2.2.2.2.2.2.2.2.2.2.1⟩) (fun x => (x.disk.data, x.disk.cache, x.disk.fuse, x.disk.off, x.disk.bad, x.geom.guest, x.geom.host, x.jour.seq, x.jour.pos, x.maps, x.broken, ())) (fun _ => rfl)
attribute [go_sem] zei
attribute [go_sem] zuS
structure ImgOk (x : Img) : Prop where
 disk : DiskOk x.disk
 maps : x.maps.length ≤ 9223372036854775807
 names : ∀ m ∈ x.maps, m.name.length ≤ 9223372036854775807
 bits : ∀ m ∈ x.maps, m.bits.length = 64
def mfit (n0 : Txt) : Nat → List Dmap → Bool
 | _, [] => true
 | i, m :: r => zbY m.name && m.inuse && !(decide (0 < i) && (n0 == m.name)) && mfit n0 (i + 1) r
def ifit (x : Img) : Bool :=
 zcd x.geom.guest x.geom.host && dfit x.disk && ((dsize x.disk : Int) == zcA x.geom.guest x.geom.host) && jfit x.jour && decide (x.maps.length ≤ 2) && mfit (x.maps.head?.map (·.name) |>.getD []) 0 x.maps
noncomputable def zaU : Tab := tabOf [zcC, zfy, za8, zfE, zfL, zdz]
theorem zai : TabOk Tryz.prog zaU := zz _
@[go_sem] theorem zp6 (args : List AV) : zaU 62 args = (zcC).e args := rfl
@[go_sem] theorem zp7 (args : List AV) : zaU 63 args = (zfy).e args := rfl
@[go_sem] theorem zn0 (args : List AV) : zaU 64 args = (za8).e args := rfl
@[go_sem] theorem zp8 (args : List AV) : zaU 65 args = (zfE).e args := rfl
@[go_sem] theorem zp9 (args : List AV) : zaU 66 args = (zfL).e args := rfl
@[go_sem] theorem znn (args : List AV) : zaU 67 args = (zdz).e args := rfl
theorem zqa (x : Img) (h : ImgOk x) : ACall Tryz.prog 22 0 [imgA x] [] (fun r _ => r = .d (.bool (ifit x))) := by
 refine zA ?_
 refine zk Tryz.func22 rfl (zu Tryz.func22 (by kernel_rfl) rfl) Tryz.ntmps22 (by simp) (fun base => ?_)
 have h1 := h.disk
 have h2 := h.maps
 by_cases hc0 : (!zcd x.geom.guest x.geom.host || !dfit x.disk || ((dsize x.disk : Int) != zcA x.geom.guest x.geom.host) || !jfit x.jour || decide (2 < (x.maps.length : Int))) = true
 ·repeat' (first | ((first | refine za zaU (zai) (fun K hK => ?_) | refine zc zaU (zai) ?_ | refine ze zaU (zai) mx (fun K hK => ?_) | refine zj zaU (zai) mx ?_ | refine zh ?_ | refine zi ?_ | refine zn ?_); simp only [go_sem, aeq, aeq.aeqF, simprocAttr, hc0, Tryz.results22]) | refine zq (fun K hK => ?_) | refine zo ?_ | refine zf rfl ?_ | refine zg rfl ?_ | refine zp rfl (fun hc => ?_) (fun hc => ?_) | (refine hK _ ?_; clear hK K) | with_reducible refine And.intro ?_ ?_ | (refine (show zt _ _ = true from ?_); kernel_rfl) | omega | assumption | refine fun (hg : (_ : Bool) = (_ : Bool)) => ?_ | clear hK K)
  have : ifit x = false := by
   simp only [Bool.or_eq_true, Bool.not_eq_true', bne_iff_ne, decide_eq_true_eq] at hc0
   unfold ifit
   rcases hc0 with (((hh | hh) | hh) | hh) | hh
   ·rw [hh]; simp
   ·rw [hh]; simp
   ·rw [beq_eq_false_iff_ne.2 hh]; simp
   ·rw [hh]; simp
   ·rw [decide_eq_false (p := x.maps.length ≤ 2) (by omega)]; simp
  rw [this]
 have hc0 : (!zcd x.geom.guest x.geom.host || !dfit x.disk || ((dsize x.disk : Int) != zcA x.geom.guest x.geom.host) || !jfit x.jour || decide (2 < (x.maps.length : Int))) = false := by simpa using hc0
 have hfit : ifit x = mfit (x.maps.head?.map (·.name) |>.getD []) 0 x.maps := by
  simp only [Bool.or_eq_false_iff, Bool.not_eq_false', bne_eq_false_iff_eq, decide_eq_false_iff_not] at hc0
  rw [ifit, hc0.1.1.1.1, hc0.1.1.1.2, hc0.1.2, beq_iff_eq.2 hc0.1.1.2, decide_eq_true (p := x.maps.length ≤ 2) (by omega)]
  rfl
 repeat' (first | ((first | refine za zaU (zai) (fun K hK => ?_) | refine zc zaU (zai) ?_ | refine ze zaU (zai) mx (fun K hK => ?_) | refine zj zaU (zai) mx ?_ | refine zh ?_ | refine zi ?_ | refine zn ?_); simp only [go_sem, aeq, aeq.aeqF, simprocAttr, hc0, Tryz.results22]) | refine zq (fun K hK => ?_) | refine zo ?_ | refine zf rfl ?_ | refine zg rfl ?_ | refine zp rfl (fun hc => ?_) (fun hc => ?_) | (refine hK _ ?_; clear hK K) | with_reducible refine And.intro ?_ ?_ | (refine (show zt _ _ = true from ?_); kernel_rfl) | omega | assumption | refine fun (hg : (_ : Bool) = (_ : Bool)) => ?_ | clear hK K)
 obtain ⟨N0, hN0⟩ : ∃ N0, N0 = (x.maps.head?.map (·.name) |>.getD []) := ⟨_, rfl⟩
 rw [← hN0] at hfit
 refine zL (fun q : { i : Nat // i ≤ x.maps.length ∧ ifit x = mfit N0 i (x.maps.drop i) } => ⟨[(1, true, .vp 0 0), (3, true, .d (.int .i64 q.1))], [(0, .var [.d (.str x.disk.data), .d (.sl 2 (x.disk.cache.map putD)), .d (.int .i64 x.disk.fuse), .d (.bool x.disk.off), .d (.sl 1 (x.disk.bad.map intD)), .d (.int .i64 x.geom.guest), .d (.int .i64 x.geom.host), .d (.int .u64 x.jour.seq), .d (.int .i64 x.jour.pos), .d (.sl 66 (x.maps.map dmapD)), .d (.bool x.broken)])], some []⟩) (fun q => x.maps.length - q.1) ⟨0, Nat.zero_le _, hfit⟩ (by simp only [AS.le, leT, leH, zr, AsgK, AV.le, AV.leL, AObj.le, inH, idsT, idsH, AV.ids, AV.idsL, AV.idsR, AObj.ids, lk, hget, go_sem, aeq, aeq.aeqF, simprocAttr] <;> and_intros <;> rfl) (fun q => ?_)
 obtain ⟨i, hi, hf⟩ := q
 simp only at hi hf ⊢
 rcases zad dmapD x.maps i hi with ⟨m, hq, hlt, hcmp, hrow, hdr, htk⟩ | ⟨hend, hcmp⟩
 ·obtain ⟨m0, hq0⟩ := zae (l := x.maps) (i := 0) (by omega)
  have hrow0 := zbi (g := dmapD) hq0
  simp only [dmapD] at hrow hrow0
  have hpos : decide ((0 : Int) < (x.maps.length : Int)) = true := decide_eq_true (by omega)
  have hwi := zP (i := i) (by omega)
  have hnl := h.names m (List.mem_of_getElem? hq)
  have hN : N0 = m0.name := by rw [hN0, List.head?_eq_getElem?, hq0]; rfl
  rw [hdr, mfit, hN] at hf
  have hall : (!zbY m.name || !m.inuse || (decide ((0 : Int) < (i : Int)) && (m0.name == m.name))) = !(zbY m.name && m.inuse && !(decide (0 < i) && (m0.name == m.name))) := by
   rw [Bool.not_and, Bool.not_and, Bool.not_not, show decide ((0 : Int) < (i : Int)) = decide (0 < i) from ztP]
  repeat' (first | ((first | refine za zaU (zai) (fun K hK => ?_) | refine zc zaU (zai) ?_ | refine ze zaU (zai) mx (fun K hK => ?_) | refine zj zaU (zai) mx ?_ | refine zh ?_ | refine zi ?_ | refine zn ?_); simp only [go_sem, aeq, aeq.aeqF, simprocAttr, hcmp, hrow, hrow0, hpos, Int.toNat_natCast, Tryz.results22]) | refine zq (fun K hK => ?_) | refine zo ?_ | refine zf rfl ?_ | refine zg rfl ?_ | refine zp rfl (fun hc => ?_) (fun hc => ?_) | (refine hK _ ?_; clear hK K) | with_reducible refine And.intro ?_ ?_ | (refine (show zt _ _ = true from ?_); kernel_rfl) | omega | assumption | refine fun (hg : (_ : Bool) = (_ : Bool)) => ?_ | clear hK K)
  ·rename_i hg0
   rw [hg0, hg]; rfl
  ·rw [hall] at hc
   simp only [Bool.not_eq_true'] at hc
   rw [hf, hc, Bool.false_and]
  ·rw [hall] at hc
   simp only [Bool.not_eq_false'] at hc
   rw [hc, Bool.true_and, ← hN] at hf
   exact ⟨⟨i + 1, by omega, hf⟩, by simp only [AS.le, leT, leH, zr, AsgK, AV.le, AV.leL, AObj.le, inH, idsT, idsH, AV.ids, AV.idsL, AV.idsR, AObj.ids, lk, hget, go_sem, aeq, aeq.aeqF, simprocAttr, hwi], by simp; omega⟩
 ·repeat' (first | ((first | refine za zaU (zai) (fun K hK => ?_) | refine zc zaU (zai) ?_ | refine ze zaU (zai) mx (fun K hK => ?_) | refine zj zaU (zai) mx ?_ | refine zh ?_ | refine zi ?_ | refine zn ?_); simp only [go_sem, aeq, aeq.aeqF, simprocAttr, hcmp, Tryz.results22]) | refine zq (fun K hK => ?_) | refine zo ?_ | refine zf rfl ?_ | refine zg rfl ?_ | refine zp rfl (fun hc => ?_) (fun hc => ?_) | (refine hK _ ?_; clear hK K) | with_reducible refine And.intro ?_ ?_ | (refine (show zt _ _ = true from ?_); kernel_rfl) | omega | assumption | refine fun (hg : (_ : Bool) = (_ : Bool)) => ?_ | clear hK K)
  rw [hf, hend, List.drop_length]
  rfl
noncomputable def zey : Ent Tryz.prog := .ofL 22 (consL zei nilL) (fun (x, _) => ImgOk x) (fun (x, _) => .d (.bool (ifit x))) (fun (x, _) hp => ⟨rfl, zqa x hp⟩)
attribute [go_sem] zey
theorem zsX {n : Nat} {a b : List Bool} (ha : a.length = n) (hb : b.length = n) : ((List.range n).all fun i => a.getD i false == b.getD i false) = decide (a = b) := by
 rw [Bool.eq_iff_iff, List.all_eq_true, decide_eq_true_eq]
 constructor
 ·intro h
  apply List.ext_getElem (by omega)
  intro i h1 h2
  have := h i (by simp; omega)
  simpa [List.getD_eq_getElem?_getD, h1, h2] using this
 ·rintro rfl i _
  simp
theorem zic {P : Program} {e : Nat} (he : (ty P e).td = .bool) {a b : List Bool} {n d : Nat} (ha : a.length = n) (hb : b.length = n) : ∀ l : List Nat, (∀ i ∈ l, i < n) →
  aeq.aeqF P (l.map fun i => (i, e)) (a.map fun x => AV.d (.bool x)) (b.map fun x => AV.d (.bool x)) (fun f => aeq P (d + 1) f) = (True, l.all fun i => a.getD i false == b.getD i false)
 | [], _ => rfl
 | i :: l, h => by
  have ih := zic he ha hb (d := d) l (fun j hj => h j (by simp [hj]))
  have hi : i < n := h i (by simp)
  have hx : ∀ (c : List Bool), c.length = n → apart P e (c.map fun x => AV.d (.bool x)) i = .d (.bool (c.getD i false)) := fun c hc => by
   unfold apart
   rw [he]
   simp [TD.agg, List.getD_eq_getElem?_getD, hc, hi]
  simp only [List.map_cons, aeq.aeqF, ih, hx a ha, hx b hb]
  have h1 : aeq P (d + 1) e (.d (.bool (a.getD i false))) (.d (.bool (b.getD i false))) = (True, a.getD i false == b.getD i false) := by
   unfold aeq
   rw [he]
  rw [h1]
  have hp : psize P e = 1 := by unfold psize; rw [he]; rfl
  simp only [he, hp, List.length_map, ha, hb, List.all_cons, ne_eq, reduceCtorEq, not_false_eq_true, true_and, and_true]
  rw [eq_true (show i + 1 ≤ n ∧ i + 1 ≤ n from ⟨hi, hi⟩)]
theorem zsY {P : Program} {t e : Nat} (ht : (ty P t).td = .arr 64 e) (he : (ty P e).td = .bool) (hz : (ty P e).size = 1) {a b : List Bool} {d : Nat} (ha : a.length = 64) (hb : b.length = 64) :
  aeq P (d + 2) t (.agg (a.map fun x => AV.d (.bool x))) (.agg (b.map fun x => AV.d (.bool x))) = (True, decide (a = b)) := by
 have := zic he ha hb (d := d) (List.range 64) (fun i hi => by simpa using hi)
 unfold aeq
 simp only [ht, hz, Nat.mul_one]
 rw [this, zsX ha hb]
 simp only [he, ne_eq, reduceCtorEq, not_false_eq_true, and_true]
theorem zma (l : List Bool) : (l.map D.bool).map AV.d = l.map fun x => AV.d (.bool x) := by rw [List.map_map]; rfl
open Go Go.Proofs
theorem zmb {P : Program} {t s b a e : Nat} (ht : (ty P t).td = .struct [(0, s), (1, b), (2, a)]) (hs : (ty P s).td = .str) (hb : (ty P b).td = .bool) (ha : (ty P a).td = .arr 64 e) (he : (ty P e).td = .bool) (hz : (ty P e).size = 1) (hza : (ty P a).size = 64) (hst : P.stoodInHeld t = false)
  {m m' : Dmap} (hm : m.bits.length = 64) (hm' : m'.bits.length = 64) :
  aeq P 12 t (.agg (.d (.str m.name) :: .d (.bool m.inuse) :: (m.bits.map D.bool).map AV.d)) (.agg (.d (.str m'.name) :: .d (.bool m'.inuse) :: (m'.bits.map D.bool).map AV.d)) = (True, decide (m = m')) := by
 have h1 := zsY (P := P) (t := a) ha he hz (d := 9) hm hm'
 have hl : ∀ c : List Bool, c.length = 64 → List.take 64 (c.map fun x => AV.d (.bool x)) = c.map fun x => AV.d (.bool x) := fun c hc => List.take_of_length_le (by simp [hc])
 rw [zma, zma]
 have p0 : ∀ c : Dmap, apart P s (.d (.str c.name) :: .d (.bool c.inuse) :: (c.bits.map fun x => AV.d (.bool x))) 0 = .d (.str c.name) := fun c => by unfold apart; rw [hs]; rfl
 have p1 : ∀ c : Dmap, apart P b (.d (.str c.name) :: .d (.bool c.inuse) :: (c.bits.map fun x => AV.d (.bool x))) 1 = .d (.bool c.inuse) := fun c => by unfold apart; rw [hb]; rfl
 have p2 : ∀ c : Dmap, c.bits.length = 64 → apart P a (.d (.str c.name) :: .d (.bool c.inuse) :: (c.bits.map fun x => AV.d (.bool x))) 2 = .agg (c.bits.map fun x => AV.d (.bool x)) := fun c hc => by
  unfold apart
  rw [ha, hza]
  simp only [TD.agg, if_true, List.drop_succ_cons, List.drop_zero, hl c.bits hc]
 have q0 : psize P s = 1 := by unfold psize; rw [hs]; rfl
 have q1 : psize P b = 1 := by unfold psize; rw [hb]; rfl
 have q2 : psize P a = 64 := by unfold psize; rw [ha, hza]; rfl
 have e0 : aeq P 11 s (.d (.str m.name)) (.d (.str m'.name)) = (True, m.name == m'.name) := by unfold aeq; rw [hs]
 have e1 : aeq P 11 b (.d (.bool m.inuse)) (.d (.bool m'.inuse)) = (True, m.inuse == m'.inuse) := by unfold aeq; rw [hb]
 unfold aeq
 simp only [ht, hst, aeq.aeqF, p0, p1, p2 m hm, p2 m' hm', q0, q1, q2, e0, e1, h1, hs, hb, ha, List.length_cons, List.length_map, hm, hm', ne_eq, reduceCtorEq, not_false_eq_true, true_and, and_true, Bool.and_true]
 refine Prod.ext (by simp) ?_
 simp only
 rw [Bool.eq_iff_iff]
 simp only [Bool.and_eq_true, beq_iff_eq, decide_eq_true_eq]
 obtain ⟨n, u, l⟩ := m
 obtain ⟨n', u', l'⟩ := m'
 simp
theorem zj0 (a : List Dmap) (b : List Dmap) (ha : a.length ≤ 9223372036854775807) (hb : b.length ≤ 9223372036854775807) (hla : ∀ m ∈ a, m.bits.length = 64) (hlb : ∀ m ∈ b, m.bits.length = 64) : ACall Tryz.prog 52 0 [.d (.sl 66 (a.map dmapD)), .d (.sl 66 (b.map dmapD))] [] (fun r _ => r = .d (.bool (decide (a = b)))) := by
 refine zA ?_
 refine zk Tryz.func52 rfl (zu Tryz.func52 (by kernel_rfl) rfl) Tryz.ntmps52 (by simp) (fun base => ?_)
 by_cases hl : a.length = b.length
 ·have hb0 : ((a.length : Int) != (b.length : Int)) = false := by rw [hl]; simp
  repeat' (first | ((first | refine za noTab (zb _) (fun K hK => ?_) | refine zc noTab (zb _) ?_ | refine ze noTab (zb _) mx (fun K hK => ?_) | refine zj noTab (zb _) mx ?_ | refine zh ?_ | refine zi ?_ | refine zn ?_); simp only [go_sem, aeq, aeq.aeqF, simprocAttr, hb0, Tryz.results52]) | refine zq (fun K hK => ?_) | refine zo ?_ | refine zf rfl ?_ | refine zg rfl ?_ | refine zp rfl (fun hc => ?_) (fun hc => ?_) | (refine hK _ ?_; clear hK K) | with_reducible refine And.intro ?_ ?_ | (refine (show zt _ _ = true from ?_); kernel_rfl) | omega | assumption | clear hK K)
  refine zL (fun q : { i : Nat // i ≤ a.length ∧ decide (a = b) = decide (a.drop i = b.drop i) } => ⟨[(0, true, .d (.sl 66 (a.map dmapD))), (1, true, .d (.sl 66 (b.map dmapD))), (5, true, .d (.int .i64 q.1))], [], some []⟩) (fun q => a.length - q.1) ⟨0, Nat.zero_le _, rfl⟩ (by simp only [AS.le, leT, leH, zr, AsgK, AV.le, AV.leL, AObj.le, inH, idsT, idsH, AV.ids, AV.idsL, AV.idsR, AObj.ids, lk, hget, go_sem, aeq, aeq.aeqF, simprocAttr] <;> and_intros <;> rfl) (fun q => ?_)
  obtain ⟨i, hi, hf⟩ := q
  simp only at hi hf ⊢
  rcases zad dmapD a i hi with ⟨m, hq, hlt, hcmp, hrow, hdr, htk⟩ | ⟨hend, hcmp⟩
  ·obtain ⟨m', hq'⟩ := zae (l := b) (i := i) (by omega)
   have hrow' := zbi (g := dmapD) hq'
   simp only [dmapD] at hrow hrow'
   have hcmp' : decide ((i : Int) < (b.length : Int)) = true := by rw [← hl]; exact hcmp
   have hwi := zP (i := i) (by omega)
   have hm := hla m (List.mem_of_getElem? hq)
   have hm' := hlb m' (List.mem_of_getElem? hq')
   rw [hdr, zcS hq'] at hf
   have hae := zmb (P := Tryz.prog) (t := 66) (s := 9) (b := 4) (a := 64) (e := 4) (by simp only [go_sem]) (by simp only [go_sem]) (by simp only [go_sem]) (by simp only [go_sem]) (by simp only [go_sem]) (by simp only [go_sem]) (by simp only [go_sem]) (by kernel_rfl) hm hm'
   have ht1 : List.take 64 ((m.bits.map D.bool).map AV.d) = (m.bits.map D.bool).map AV.d := List.take_of_length_le (by simp [hm])
   have ht2 : List.take 64 ((m'.bits.map D.bool).map AV.d) = (m'.bits.map D.bool).map AV.d := List.take_of_length_le (by simp [hm'])
   repeat' (first | ((first | refine za noTab (zb _) (fun K hK => ?_) | refine zc noTab (zb _) ?_ | refine ze noTab (zb _) mx (fun K hK => ?_) | refine zj noTab (zb _) mx ?_ | refine zh ?_ | refine zi ?_ | refine zn ?_); simp only [go_sem, simprocAttr, hcmp, hcmp', hrow, hrow', ht1, ht2, hae, hm, hm', Int.toNat_natCast, Tryz.results52]) | refine zq (fun K hK => ?_) | refine zo ?_ | refine zf rfl ?_ | refine zg rfl ?_ | refine zp rfl (fun hc => ?_) (fun hc => ?_) | (refine hK _ ?_; clear hK K) | with_reducible refine And.intro ?_ ?_ | (refine (show zt _ _ = true from ?_); kernel_rfl) | omega | assumption | clear hK K)
   ·rw [hf]
    simp only [Bool.not_eq_true', decide_eq_false_iff_not] at hc
    rw [decide_eq_false]
    simp only [List.cons.injEq]
    exact fun h => hc h.1
   ·simp only [Bool.not_eq_false', decide_eq_true_eq] at hc
    refine ⟨⟨i + 1, by omega, ?_⟩, by simp only [AS.le, leT, leH, zr, AsgK, AV.le, AV.leL, AObj.le, inH, idsT, idsH, AV.ids, AV.idsL, AV.idsR, AObj.ids, lk, hget, go_sem, aeq, aeq.aeqF, simprocAttr, hwi], by simp; omega⟩
    rw [hf, hc]
    simp
  ·repeat' (first | ((first | refine za noTab (zb _) (fun K hK => ?_) | refine zc noTab (zb _) ?_ | refine ze noTab (zb _) mx (fun K hK => ?_) | refine zj noTab (zb _) mx ?_ | refine zh ?_ | refine zi ?_ | refine zn ?_); simp only [go_sem, aeq, aeq.aeqF, simprocAttr, hcmp, Tryz.results52]) | refine zq (fun K hK => ?_) | refine zo ?_ | refine zf rfl ?_ | refine zg rfl ?_ | refine zp rfl (fun hc => ?_) (fun hc => ?_) | (refine hK _ ?_; clear hK K) | with_reducible refine And.intro ?_ ?_ | (refine (show zt _ _ = true from ?_); kernel_rfl) | omega | assumption | clear hK K)
   rw [hf, List.drop_of_length_le (by omega), List.drop_of_length_le (by omega)]
   rfl
 ·have hb0 : ((a.length : Int) != (b.length : Int)) = true := by rw [bne_iff_ne]; omega
  repeat' (first | ((first | refine za noTab (zb _) (fun K hK => ?_) | refine zc noTab (zb _) ?_ | refine ze noTab (zb _) mx (fun K hK => ?_) | refine zj noTab (zb _) mx ?_ | refine zh ?_ | refine zi ?_ | refine zn ?_); simp only [go_sem, aeq, aeq.aeqF, simprocAttr, hb0, Tryz.results52]) | refine zq (fun K hK => ?_) | refine zo ?_ | refine zf rfl ?_ | refine zg rfl ?_ | refine zp rfl (fun hc => ?_) (fun hc => ?_) | (refine hK _ ?_; clear hK K) | with_reducible refine And.intro ?_ ?_ | (refine (show zt _ _ = true from ?_); kernel_rfl) | omega | assumption | clear hK K)
  rw [decide_eq_false (fun h => hl (by rw [h]))]
noncomputable def zcs : Ent Tryz.prog := .ofL 52 (consL (slT 66 dmapD zcF) (consL (slT 66 dmapD zcF) nilL)) (fun (a, b, _) => (a.length ≤ 9223372036854775807) ∧ (b.length ≤ 9223372036854775807) ∧ (∀ m ∈ a, m.bits.length = 64) ∧ (∀ m ∈ b, m.bits.length = 64)) (fun (a, b, _) => .d (.bool (decide (a = b)))) (fun (a, b, _) hp => ⟨rfl, zj0 a b hp.1 hp.2.1 hp.2.2.1 hp.2.2.2⟩)
attribute [go_sem] zcs
open Go Go.Proofs
theorem zqb (a b : Img) : (decide (a.disk = b.disk) && (a.geom.guest == b.geom.guest && a.geom.host == b.geom.host) && (a.jour.seq == b.jour.seq && a.jour.pos == b.jour.pos) && decide (a.maps = b.maps) && (a.broken == b.broken)) = decide (a = b) := by
 obtain ⟨d, ⟨g, h⟩, ⟨s, p⟩, m, br⟩ := a
 obtain ⟨d', ⟨g', h'⟩, ⟨s', p'⟩, m', br'⟩ := b
 rw [Bool.eq_iff_iff]
 simp only [Bool.and_eq_true, beq_iff_eq, decide_eq_true_eq, Img.mk.injEq, Geom.mk.injEq, Jour.mk.injEq]
 constructor
 ·rintro ⟨⟨⟨⟨h1, h2⟩, h3⟩, h4⟩, h5⟩; exact ⟨h1, h2, h3, h4, h5⟩
 ·rintro ⟨h1, h2, h3, h4, h5⟩; exact ⟨⟨⟨⟨h1, h2⟩, h3⟩, h4⟩, h5⟩
noncomputable def zj1 : Tab := tabOf [zep, zcs]
theorem zj2 : TabOk Tryz.prog zj1 := zz _
@[go_sem] theorem zn1 (args : List AV) : zj1 51 args = (zep).e args := rfl
@[go_sem] theorem zkR (args : List AV) : zj1 52 args = (zcs).e args := rfl
theorem zno (a : Img) (b : Img) (ha : ImgOk a) (hb : ImgOk b) : ACall Tryz.prog 16 0 [imgA a, imgA b] [] (fun r _ => r = .d (.bool (decide (a = b)))) := by
 refine zA ?_
 refine zk Tryz.func16 rfl (zu Tryz.func16 (by kernel_rfl) rfl) Tryz.ntmps16 (by simp) (fun base => ?_)
 have h1 := ha.disk
 have h2 := hb.disk
 have h3 := ha.maps
 have h4 := hb.maps
 have h5 := ha.bits
 have h6 := hb.bits
 repeat' (first | ((first | refine za zj1 (zj2) (fun K hK => ?_) | refine zc zj1 (zj2) ?_ | refine zh ?_ | refine zi ?_ | refine zn ?_); simp only [go_sem, aeq, aeq.aeqF, simprocAttr, Tryz.results16]) | refine zq (fun K hK => ?_) | (refine hK _ ?_; clear hK K) | with_reducible refine And.intro ?_ ?_ | omega | assumption | refine fun (hg : (_ : Bool) = (_ : Bool)) => ?_ | clear hK K)
 rw [zqb]
noncomputable def zdM : Ent Tryz.prog := .ofL 16 (consL zei (consL zei nilL)) (fun (a, b, _) => (ImgOk a) ∧ (ImgOk b)) (fun (a, b, _) => .d (.bool (decide (a = b)))) (fun (a, b, _) hp => ⟨rfl, zno a b hp.1 hp.2⟩)
attribute [go_sem] zdM
def mset (g : Nat) (m : Dmap) : Dmap := { m with bits := m.bits.set g true }
def cmark (x : Img) (guest : Int) : Img := if guest < 0 ∨ 64 ≤ guest then x else { x with maps := x.maps.map (mset guest.toNat) }
theorem zsZ (m : Dmap) (g : Nat) : (dmapD m).set (2 + g) (.bool true) = dmapD (mset g m) := by
 rw [Nat.add_comm]
 simp [dmapD, mset, List.map_set]
theorem zs0 {x : Img} (h : ImgOk x) (g : Int) : ImgOk (cmark x g) := by
 unfold cmark
 split
 ·exact h
 ·refine ⟨h.disk, by simp only [List.length_map]; exact h.maps, fun m hm => ?_, fun m hm => ?_⟩
  ·obtain ⟨m0, h0, rfl⟩ := List.mem_map.1 hm
   exact h.names m0 h0
  ·obtain ⟨m0, h0, rfl⟩ := List.mem_map.1 hm
   simp [mset, h.bits m0 h0]
theorem bneP {a b : Int} (h : (a != b) = true) : a ≠ b := bne_iff_ne.1 h
theorem bneN {a b : Int} (h : (a != b) = false) : ¬ a ≠ b := fun h2 => h2 (bne_eq_false_iff_eq.1 h)
theorem beqP {a b : Int} (h : (a == b) = true) : a = b := beq_iff_eq.1 h
theorem beqN {a b : Int} (h : (a == b) = false) : ¬ a = b := beq_eq_false_iff_ne.1 h
@[go_sem] theorem p0_fold : Plan.mk [] [] = p0 := rfl
def zea (d : Disk) (k : Int) : Txt × Int :=
 if (dread d (96 + 2 * k)).2 ≠ 0 then ([], (dread d (96 + 2 * k)).2)
 else if (dread d (96 + 2 * k + 1)).2 ≠ 0 then ([], (dread d (96 + 2 * k + 1)).2)
 else ((dread d (96 + 2 * k)).1 ++ (dread d (96 + 2 * k + 1)).1, 0)
theorem zid {d : Disk} {p : Plan} {l1 g : Int} (h : (elook d p l1 g).1.kind = 1) : zR (elook d p l1 g).1.loc = true := by
 have hk : ∀ t i, (eget d p t i).1.kind = 1 → zR (eget d p t i).1.loc = true := by
  intro t i hk
  by_cases he : (eget d p t i).2 = 0
  ·have := (zp5 he).1
   unfold entOk at this
   rw [if_pos hk] at this
   exact this
  ·exfalso
   unfold eget at hk he
   split at hk
   ·cases hk
   ·rename_i h0
    rw [if_neg h0] at he
    split at hk
    ·cases hk
    ·rename_i h2
     rw [if_neg h2] at he
     unfold entT at hk he
     split at hk
     ·cases hk
     ·rename_i h1
      rw [if_neg h1] at he
      exact he rfl
 unfold elook at h ⊢
 split at h
 ·cases h
 split at h
 ·cases h
 split at h
 ·cases h
 split at h
 ·cases h
 rename_i h1 h2 h3 h4
 rw [if_neg h1, if_neg h2, if_neg h3, if_neg h4]
 exact hk _ _ h
def cread (d : Disk) (l1 guest : Int) : Txt × Int :=
 if (elook d p0 l1 guest).2 ≠ 0 then ([], (elook d p0 l1 guest).2) else if (elook d p0 l1 guest).1.kind = 1 then zea d (elook d p0 l1 guest).1.loc else (List.replicate 128 0, 0)
def cdone (x : Img) (p : Plan) : Img × Int :=
 if (jcommit x.disk x.jour p).2.2 ≠ 0 then ({ x with disk := (jcommit x.disk x.jour p).1, broken := true }, (jcommit x.disk x.jour p).2.2)
 else ({ x with disk := (jcommit x.disk x.jour p).1, jour := (jcommit x.disk x.jour p).2.1 }, 0)
open Go Go.Proofs
def imgV (x : Img) : List AV := [.d (.str x.disk.data), .d (.sl 2 (x.disk.cache.map putD)), .d (.int .i64 x.disk.fuse), .d (.bool x.disk.off), .d (.sl 1 (x.disk.bad.map intD)), .d (.int .i64 x.geom.guest), .d (.int .i64 x.geom.host), .d (.int .u64 x.jour.seq), .d (.int .i64 x.jour.pos), .d (.sl 66 (x.maps.map dmapD)), .d (.bool x.broken)]
attribute [go_sem] imgV
def img0 : List AV := [.d (.str []), .nils 2, .d (.int .i64 0), .d (.bool false), .nils 1, .d (.int .i64 0), .d (.int .i64 0), .d (.int .u64 0), .d (.int .i64 0), .nils 66, .d (.bool false)]
attribute [go_sem] img0
def wdisk (x : Img) (d : Disk) : Img := { x with disk := d }
def cputT (b : Txt) (off : Int) (s : Txt) (i : Int) : Txt := (overS b (max off (i * 64) - i * 64) ((s.take (min (off + s.length) ((i + 1) * 64) - off).toNat).drop (max off (i * 64) - off).toNat)).1
def cput1 (d : Disk) (k off : Int) (s : Txt) (i : Int) : Disk × Int :=
 if min (off + s.length) ((i + 1) * 64) ≤ max off (i * 64) then (d, 0)
 else if (dread d (96 + 2 * k + i)).2 ≠ 0 then (d, (dread d (96 + 2 * k + i)).2)
 else zQ d (96 + 2 * k + i) (cputT (dread d (96 + 2 * k + i)).1 off s i)
def zfQ (k off : Int) (s : Txt) : Nat → Int → Disk → Disk × Int
 | 0, _, d => (d, 0)
 | m + 1, i, d => if (cput1 d k off s i).2 ≠ 0 then cput1 d k off s i else zfQ k off s m (i + 1) (cput1 d k off s i).1
def zie (d : Disk) (k off : Int) (s : Txt) : Disk × Int := zfQ k off s 2 0 d
theorem DiskF.cput1 {d : Disk} (h : DiskF d) (k off : Int) (s : Txt) (i : Int) : DiskF (cput1 d k off s i).1 := by
 unfold Aw.cput1
 split
 ·exact h
 split
 ·exact h
 ·exact h.write _ _
structure ImgF (x : Img) : Prop where
 ok : ImgOk x
 disk : DiskF x.disk
 guest : x.geom.guest ≤ 64
 host : x.geom.host ≤ 256
 seq0 : 0 ≤ x.jour.seq
 seq1 : x.jour.seq ≤ 4611686018427387904
 maps : x.maps.length ≤ 1000000
theorem ImgF.wd {x : Img} (h : ImgF x) {d : Disk} (hd : DiskF d) : ImgF (wdisk x d) := ⟨⟨hd.ok, h.ok.maps, h.ok.names, h.ok.bits⟩, hd, h.guest, h.host, h.seq0, h.seq1, h.maps⟩
theorem ImgF.mark {x : Img} (h : ImgF x) (g : Int) : ImgF (cmark x g) := by
 refine ⟨zs0 h.ok g, ?_, ?_, ?_, ?_, ?_, ?_⟩
 all_goals unfold cmark
 all_goals split
 all_goals first | exact h.disk | exact h.guest | exact h.host | exact h.seq0 | exact h.seq1 | exact h.maps | skip
 simp only [List.length_map]
 exact h.maps
theorem zj3 {d : Disk} {k : Int} (h : d.cache.all (putOk d) = true) (he : (zea d k).2 = 0) : (zea d k).1.length = 128 := by
 unfold zea at he ⊢
 split at he
 ·exact absurd he (by assumption)
 split at he
 ·exact absurd he (by assumption)
 rename_i h1 h2
 rw [if_neg h1, if_neg h2]
 rw [List.length_append, ziR h (by omega), ziR h (by omega)]
theorem zqc {d : Disk} {l1 g : Int} (h : d.cache.all (putOk d) = true) (he : (cread d l1 g).2 = 0) : (cread d l1 g).1.length = 128 := by
 unfold cread at he ⊢
 split at he
 ·exact absurd he (by assumption)
 split at he
 ·rename_i h1 h2
  rw [if_neg h1, if_pos h2]
  exact zj3 h he
 ·rename_i h1 h2
  rw [if_neg h1, if_neg h2]
  simp
theorem znp {d : Disk} {p : Plan} {g : Geom} (h : (rtake d p g).2.2 = 0) : zR (rtake d p g).2.1 = true := by
 unfold rtake at h ⊢
 split at h
 ·rename_i h1; exact absurd h h1
 split at h
 ·rename_i h1; exact absurd h h1
 rename_i h1 h2
 rw [if_neg h1, if_neg h2]
 exact hostOk_iff.2 (zia d p _ _ (by unfold rfind at h1; omega))
theorem zs1 {s t : Txt} {a : Int} (h0 : 0 ≤ a) (h : a + t.length ≤ s.length) : overS s a t = (s.take a.toNat ++ t ++ s.drop (a + t.length).toNat, 0) := by
 rw [overS, if_neg (by omega)]
theorem zqd {s t : Txt} {a : Int} (h0 : 0 ≤ a) (h : a + t.length ≤ s.length) : (overS s a t).1.length = s.length := by
 rw [zs1 h0 h]
 simp
 omega
def zbr (k : Int) (b : Txt) : List (Int × Txt) := [(96 + 2 * k, b.take 64), (96 + 2 * k + 1, (b.take 128).drop 64)]
def zez (x : Img) (l1 guest off : Int) (s : Txt) : Img × Int :=
 if (rtake x.disk p0 x.geom).2.2 ≠ 0 then (x, (rtake x.disk p0 x.geom).2.2)
 else if (cread x.disk l1 guest).2 ≠ 0 then (x, (cread x.disk l1 guest).2)
 else if (layL x.disk (zbr (rtake x.disk p0 x.geom).2.1 (overS (cread x.disk l1 guest).1 off s).1)).2 ≠ 0 then
  (wdisk x (layL x.disk (zbr (rtake x.disk p0 x.geom).2.1 (overS (cread x.disk l1 guest).1 off s).1)).1, (layL x.disk (zbr (rtake x.disk p0 x.geom).2.1 (overS (cread x.disk l1 guest).1 off s).1)).2)
 else if (ppoint (layL x.disk (zbr (rtake x.disk p0 x.geom).2.1 (overS (cread x.disk l1 guest).1 off s).1)).1 (rtake x.disk p0 x.geom).1 x.geom guest ⟨1, (rtake x.disk p0 x.geom).2.1⟩).2 ≠ 0 then
  (wdisk x (layL x.disk (zbr (rtake x.disk p0 x.geom).2.1 (overS (cread x.disk l1 guest).1 off s).1)).1, (ppoint (layL x.disk (zbr (rtake x.disk p0 x.geom).2.1 (overS (cread x.disk l1 guest).1 off s).1)).1 (rtake x.disk p0 x.geom).1 x.geom guest ⟨1, (rtake x.disk p0 x.geom).2.1⟩).2)
 else cdone (wdisk x (layL x.disk (zbr (rtake x.disk p0 x.geom).2.1 (overS (cread x.disk l1 guest).1 off s).1)).1) (ppoint (layL x.disk (zbr (rtake x.disk p0 x.geom).2.1 (overS (cread x.disk l1 guest).1 off s).1)).1 (rtake x.disk p0 x.geom).1 x.geom guest ⟨1, (rtake x.disk p0 x.geom).2.1⟩).1
def ziU (x : Img) (l1 : Int) (y : Ent2) (guest off : Int) (s : Txt) : Img × Int :=
  if y.kind = 1 then
    (if (rget x.disk p0 y.loc).2 ≠ 0 then (x, (rget x.disk p0 y.loc).2)
     else if (rget x.disk p0 y.loc).1 ≤ 1 then (wdisk x (zie x.disk y.loc off s).1, (zie x.disk y.loc off s).2)
     else zez x l1 guest off s)
  else zez x l1 guest off s
def ziV (x : Img) (guest off : Int) (s : Txt) : Img × Int :=
 if (zaa x.disk p0).2 ≠ 0 then (x, (zaa x.disk p0).2)
 else if (elook x.disk p0 (zaa x.disk p0).1.l1 guest).2 ≠ 0 then (x, (elook x.disk p0 (zaa x.disk p0).1.l1 guest).2)
 else ziU x (zaa x.disk p0).1.l1 (elook x.disk p0 (zaa x.disk p0).1.l1 guest).1 guest off s
def zbs (x : Img) (guest off : Int) (s : Txt) : Img × Int :=
 if x.broken then (x, 24) else if guest < 0 ∨ x.geom.guest ≤ guest ∨ off < 0 ∨ 128 - (s.length : Int) < off then (x, 10)
 else if s = [] then (x, 0) else ziV (cmark x guest) guest off s
end Go.Aw
