/-
  Parts of the proof: PackD, SuperA, PlanA, PlanB, PlanC, PlanD, PlanE, PlanF, PlanG, TxnA, TxnB, TxnC, TxnD, TxnE, JourA, JourB, JourC, RefcA (short names; the readable texts lie in the repo, under wip).
-/
import Derived.Test.YtmhlpboclbippaaGreatPart5
import Derived.Test.YtmhlpboclbippaaGreatPart4
set_option maxRecDepth 100000
set_option maxHeartbeats 2000000
set_option linter.unusedSimpArgs false
set_option linter.unusedVariables false
namespace Go.Aw
open Go Go.Proofs
def zc0 (z i : Nat) : List AV := [.d (.int .i64 ((z : Int) - 1 - i)), .any]
def zaQ (z : Nat) : List (List AV) := (List.range z).map (zc0 z)
def putB (m z i : Nat) : Txt := List.replicate (z - i) 0 ++ putN m i
def putH (m z i : Nat) : AHeap := [(3, .var [.osl 1 1 z 0 z]), (2, .var [.osl 1 1 z 0 z]), (1, .arr 1 (zy (putB m z i))), (0, .var [.d (.int .u64 ((m / 256 ^ i : Nat) : Int))])]
def putF (m z i : Nat) : AS := ⟨[(1, true, .vp 3 0)], putH m z i, some []⟩
theorem ze0 {m z i : Nat} (h : i ≤ z) : (putB m z i).length = z := by
 rw [putB, List.length_append, List.length_replicate, zar]; omega
theorem ziL (z : Nat) : (zaQ z).length = z := by simp [zaQ]
theorem zpy {z i : Nat} (h : i < z) : (zaQ z)[i]? = some (zc0 z i) := by simp [zaQ, h]
theorem zjK {z i : Nat} (h : i < z) : (zaQ z).take i ++ [zc0 z i] = (zaQ z).take (i + 1) := by
 rw [zcn (zpy h)]
theorem zpz {m z : Nat} (hz : z ≤ 8) (y : Yo Tryz.prog (zaQ z)) (v0 : Value)
  (hS : ∀ g M N A w, y.G g M N A w → ∃ F, ∃ i, i ≤ z ∧ SatH F (putH m z i) w ∧ Rep w F (putH m z i) (.vp 3 0) v0) {E : Env} {w : World} (hs : SatH E [] w) (hG : y.G (some []) E.M E.N (Own E []) w) :
  Calls Tryz.prog 222 (#[] ++ #[Value.func (.yield y.yl) #[] #[]] ++ #[v0]) w (fun e w' => ∃ v E' h' g, e = .returned v ∧ ((∀ xs, g = some xs → xs = zaQ z) ∧ h' = []) ∧ SatH E' h' w' ∧ Evo 100 E [] w E' h' w' ∧ y.G g E'.M E'.N (Own E' h') w') := by
 refine zjg (fl := 100) (pre := []) (caps := [.raw v0]) (h := []) (K := fun g h' => (∀ xs, g = some xs → xs = zaQ z) ∧ h' = []) Tryz.func222 rfl Tryz.ntmps222 rfl (by simp) y (fun base => ?_) hs (by simp [Reps]) (by simp [Reps, Rep]) hG
 have hS' : ∀ t : List (Nat × (Bool × AV)), lk t 1 = some (true, .raw v0) → ∀ g M N A w, y.G g M N A w → ∃ F, ∃ b : { i : Nat // i ≤ z }, SatH F (putF m z b.1).h w ∧ ∀ k g v, lk (putF m z b.1).t k = some (g, v) → g = true ∧ ∃ u, lk t k = some (true, .raw u) ∧ Rep w F (putF m z b.1).h v u := by
  intro t ht g M N A w hg
  obtain ⟨F, i, hi, h1, h2⟩ := hS g M N A w hg
  refine ⟨F, ⟨i, hi⟩, h1, ?_⟩
  intro k g v hk
  simp only [putF, lk] at hk
  split at hk
  ·rename_i e
   subst e
   simp only [Option.some.injEq, Prod.mk.injEq] at hk
   obtain ⟨rfl, rfl⟩ := hk
   exact ⟨rfl, v0, ht, h2⟩
  ·cases hk
 have hw0 : IntKind.i64.wrap ((z : Int) - 1) = (z : Int) - 1 := zD (by omega) (by omega)
 simp only [List.nil_append, zaS]
 refine zef noTab (zb _) _ _ (List.take_append_drop 4 _).symm (fun b : { i : Nat // i ≤ z } => putF m z b.1) (hS' _ rfl) (fun K hK b => ?_)
 simp only [go_sem, aeq, aeq.aeqF, simprocAttr, putF, putH]
 refine ⟨by rw [zbc, ze0 b.2], hK _ ?_⟩
 clear hK K b
 refine zo ?_
 refine zL (fun q : { j : Nat // j ≤ z } => ⟨[(0, true, .fn (.yield y.yl) [] []), (1, true, .raw v0), (3, true, .d (.int .i64 ((z : Int) - 1 - q.1)))], [], some ((zaQ z).take q.1)⟩) (fun q => z - q.1) ⟨0, Nat.zero_le _⟩ (by simp only [AS.le, leT, leH, zr, AsgK, AV.le, AV.leL, AObj.le, inH, idsT, idsH, AV.ids, AV.idsL, AV.idsR, AObj.ids, lk, hget, go_sem, aeq, aeq.aeqF, simprocAttr, hw0] <;> simp) (fun q => ?_)
 obtain ⟨j, hj⟩ := q
 simp only at hj ⊢
 rcases Nat.lt_or_ge j z with hlt | hge
 ·have hcmp : decide ((0 : Int) ≤ (z : Int) - 1 - j) = true := decide_eq_true (by omega)
  have hwj : IntKind.i64.wrap ((z : Int) - 1 - j - 1) = (z : Int) - 1 - (j + 1 : Nat) := by rw [zD (by omega) (by omega)]; omega
  have hp : ((zaQ z).take j ++ [zc0 z j]) <+: zaQ z := by rw [zjK hlt]; exact List.take_prefix _ _
  have hpt := zjK hlt
  simp only [zc0] at hp hpt
  repeat' ((fail_if_success refine hds 3 (by rfl) ?_); first | (refine zN (fun i => decide (i < 100)) (by simp only [inH, idsH, hsel, AV.ids, AV.idsL, AV.idsR, AObj.ids, hget, go_sem, aeq, aeq.aeqF, simprocAttr]) ?_; simp only [go_sem, aeq, aeq.aeqF, simprocAttr, hcmp, hsel, keepT]; refine zn ?_; simp only [go_sem, aeq, aeq.aeqF, simprocAttr, hcmp]) | ((first | refine zv noTab (zb _) (fun K hK => ?_) | refine zB noTab (zb _) ?_ | refine zh ?_ | refine zi ?_ | refine zn ?_); simp only [go_sem, aeq, aeq.aeqF, simprocAttr, hcmp]) | refine zq (fun K hK => ?_) | refine zo ?_ | refine zf rfl ?_ | refine zg rfl ?_ | refine zp rfl (fun hc => ?_) (fun hc => ?_) | (refine hK _ ?_; clear hK K) | ((first | refine (show AS.le _ _ from ?_) | refine (show leH _ _ from ?_) | refine (show inH _ _ from ?_)); simp only [AS.le, leT, leH, zr, AsgK, AV.le, AV.leL, AObj.le, inH, idsT, idsH, AV.ids, AV.idsL, AV.idsR, AObj.ids, lk, hget, go_sem, aeq, aeq.aeqF, simprocAttr, hcmp]) | refine fun (r2 : Rnd _) => ?_ | with_reducible refine And.intro ?_ ?_ | exact ‹_ <+: _› | omega | assumption | clear hK K)
  refine zef noTab (zb _) _ _ (List.take_append_drop 6 _).symm (fun b : { i : Nat // i ≤ z } => putF m z b.1) (hS' _ rfl) (fun K hK b => ?_)
  have h3 : ((z : Int) - 1 - j).toNat < z := by omega
  have hbl : (zy (putB m z b.1)).length = z := by rw [zbc, ze0 b.2]
  simp only [go_sem, aeq, aeq.aeqF, simprocAttr, putF, putH, hbl]
  refine ⟨⟨by omega, by omega⟩, h3, hp, ?_, ?_⟩
  ·refine hK _ ?_
   clear hK K
   repeat' (first | (refine zN (fun i => decide (i < 100)) (by simp only [inH, idsH, hsel, AV.ids, AV.idsL, AV.idsR, AObj.ids, hget, go_sem, aeq, aeq.aeqF, simprocAttr]) ?_; simp only [go_sem, aeq, aeq.aeqF, simprocAttr, hsel, keepT]; refine zn ?_; simp only [go_sem, aeq, aeq.aeqF, simprocAttr]) | ((first | refine zv noTab (zb _) (fun K hK => ?_) | refine zB noTab (zb _) ?_ | refine zh ?_ | refine zi ?_ | refine zn ?_); simp only [go_sem, aeq, aeq.aeqF, simprocAttr]) | refine zq (fun K hK => ?_) | refine zo ?_ | refine zf rfl ?_ | refine zg rfl ?_ | refine zp rfl (fun hc => ?_) (fun hc => ?_) | (refine hK _ ?_; clear hK K) | ((first | refine (show AS.le _ _ from ?_) | refine (show leH _ _ from ?_) | refine (show inH _ _ from ?_)); simp only [AS.le, leT, leH, zr, AsgK, AV.le, AV.leL, AObj.le, inH, idsT, idsH, AV.ids, AV.idsL, AV.idsR, AObj.ids, lk, hget, go_sem, aeq, aeq.aeqF, simprocAttr]) | refine fun (r2 : Rnd _) => ?_ | with_reducible refine And.intro ?_ ?_ | exact ‹_ <+: _› | omega | assumption | clear hK K)
   exact ⟨⟨j + 1, by omega⟩, by simp only [AS.le, leT, leH, zr, AsgK, AV.le, AV.leL, AObj.le, inH, idsT, idsH, AV.ids, AV.idsL, AV.idsR, AObj.ids, lk, hget, go_sem, aeq, aeq.aeqF, simprocAttr, hwj, hpt], by simp; omega⟩
  ·refine hK _ ?_
   clear hK K
   repeat' (first | (refine zN (fun i => decide (i < 100)) (by simp only [inH, idsH, hsel, AV.ids, AV.idsL, AV.idsR, AObj.ids, hget, go_sem, aeq, aeq.aeqF, simprocAttr]) ?_; simp only [go_sem, aeq, aeq.aeqF, simprocAttr, hsel, keepT]; refine zn ?_; simp only [go_sem, aeq, aeq.aeqF, simprocAttr]) | ((first | refine zv noTab (zb _) (fun K hK => ?_) | refine zB noTab (zb _) ?_ | refine zh ?_ | refine zi ?_ | refine zn ?_); simp only [go_sem, aeq, aeq.aeqF, simprocAttr]) | refine zq (fun K hK => ?_) | refine zo ?_ | refine zf rfl ?_ | refine zg rfl ?_ | refine zp rfl (fun hc => ?_) (fun hc => ?_) | (refine hK _ ?_; clear hK K) | ((first | refine (show AS.le _ _ from ?_) | refine (show leH _ _ from ?_) | refine (show inH _ _ from ?_)); simp only [AS.le, leT, leH, zr, AsgK, AV.le, AV.leL, AObj.le, inH, idsT, idsH, AV.ids, AV.idsL, AV.idsR, AObj.ids, lk, hget, go_sem, aeq, aeq.aeqF, simprocAttr]) | refine fun (r2 : Rnd _) => ?_ | with_reducible refine And.intro ?_ ?_ | exact ‹_ <+: _› | omega | assumption | clear hK K)
 ·have hcmp : decide ((0 : Int) ≤ (z : Int) - 1 - j) = false := decide_eq_false (by omega)
  repeat' (first | (refine zN (fun i => decide (i < 100)) (by simp only [inH, idsH, hsel, AV.ids, AV.idsL, AV.idsR, AObj.ids, hget, go_sem, aeq, aeq.aeqF, simprocAttr]) ?_; simp only [go_sem, aeq, aeq.aeqF, simprocAttr, hcmp, hsel, keepT]; refine zn ?_; simp only [go_sem, aeq, aeq.aeqF, simprocAttr, hcmp]) | ((first | refine zv noTab (zb _) (fun K hK => ?_) | refine zB noTab (zb _) ?_ | refine zh ?_ | refine zi ?_ | refine zn ?_); simp only [go_sem, aeq, aeq.aeqF, simprocAttr, hcmp]) | refine zq (fun K hK => ?_) | refine zo ?_ | refine zf rfl ?_ | refine zg rfl ?_ | refine zp rfl (fun hc => ?_) (fun hc => ?_) | (refine hK _ ?_; clear hK K) | ((first | refine (show AS.le _ _ from ?_) | refine (show leH _ _ from ?_) | refine (show inH _ _ from ?_)); simp only [AS.le, leT, leH, zr, AsgK, AV.le, AV.leL, AObj.le, inH, idsT, idsH, AV.ids, AV.idsL, AV.idsR, AObj.ids, lk, hget, go_sem, aeq, aeq.aeqF, simprocAttr, hcmp]) | refine fun (r2 : Rnd _) => ?_ | with_reducible refine And.intro ?_ ?_ | exact ‹_ <+: _› | omega | assumption | clear hK K)
  rintro xs rfl
  exact List.take_of_length_le (by rw [ziL]; omega)
theorem zjL (m z : Nat) : putH m z 0 = [(3, .var [.osl 1 1 z 0 z]), (2, .var [.osl 1 1 z 0 z]), (1, .arr 1 (List.replicate z [D.int .u8 0])), (0, .var [.d (.int .u64 (m : Int))])] := by
 rw [putH, putB, zd3]; simp [putN]
theorem zss (m z : Nat) : ACall Tryz.prog 208 3 [.osl 1 1 z 0 z] [(2, .var [.osl 1 1 z 0 z]), (1, .arr 1 (List.replicate z [D.int .u8 0])), (0, .var [.d (.int .u64 (m : Int))])] (fun r h' => r = .fn (.func 222) [] [.vp 3 0] ∧ h' = putH m z 0) := by
 refine zk Tryz.func208 rfl (zu Tryz.func208 (by kernel_rfl) rfl) Tryz.ntmps208 (by simp) (fun base => ?_)
 repeat' (first | ((first | refine za noTab (zb _) (fun K hK => ?_) | refine zc noTab (zb _) ?_ | refine zh ?_ | refine zi ?_ | refine zn ?_); simp only [go_sem, aeq, aeq.aeqF, simprocAttr, Tryz.results208]) | refine zq (fun K hK => ?_) | (refine hK _ ?_; clear hK K) | refine fun (nb : Bool) (hnb : nb = true → _) => ?_ | with_reducible refine And.intro ?_ ?_ | omega | assumption | clear hK K)
 rw [zjL]
theorem zvF (n : Int) (size : Int) (h0 : 0 ≤ n) (h1 : n < 18446744073709551616) : ACall Tryz.prog 184 0 [.d (.int .u64 n), .d (.int .i64 size)] [] (fun r _ => r = .d (.str (putS8 n size))) := by
 refine zA ?_
 refine zk Tryz.func184 rfl (zu Tryz.func184 (by kernel_rfl) rfl) Tryz.ntmps184 (by simp) (fun base => ?_)
 by_cases h : size < 1 ∨ 8 < size
 ·have hdec : (decide (size < 1) || decide (8 < size)) = true := by simpa using h
  repeat' (first | ((first | refine za noTab (zb _) (fun K hK => ?_) | refine zc noTab (zb _) ?_ | refine zh ?_ | refine zi ?_ | refine zn ?_); simp only [go_sem, aeq, aeq.aeqF, simprocAttr, hdec, Tryz.results184]) | refine zq (fun K hK => ?_) | refine zo ?_ | refine zf rfl ?_ | refine zg rfl ?_ | refine zp rfl (fun hc => ?_) (fun hc => ?_) | (refine hK _ ?_; clear hK K) | ((first | refine (show AS.le _ _ from ?_) | refine (show leH _ _ from ?_) | refine (show inH _ _ from ?_)); simp only [AS.le, leT, leH, zr, AsgK, AV.le, AV.leL, AObj.le, inH, idsT, idsH, AV.ids, AV.idsL, AV.idsR, AObj.ids, lk, hget, go_sem, aeq, aeq.aeqF, simprocAttr, hdec]) | refine fun (r2 : Rnd _) => ?_ | with_reducible refine And.intro ?_ ?_ | exact ‹_ <+: _› | omega | assumption | refine fun (hg : (_ : Bool) = (_ : Bool)) => ?_ | clear hK K)
  rw [putS8, if_pos h]
 ·have hdec : (decide (size < 1) || decide (8 < size)) = false := by simpa using h
  obtain ⟨z, rfl, hz8⟩ : ∃ z : Nat, size = (z : Int) ∧ z ≤ 8 := ⟨size.toNat, by omega, by omega⟩
  repeat' (first | ((first | refine za noTab (zb _) (fun K hK => ?_) | refine zc noTab (zb _) ?_ | refine zh ?_ | refine zi ?_ | refine zn ?_); simp only [go_sem, aeq, aeq.aeqF, simprocAttr, hdec, Int.toNat_natCast, Tryz.results184]) | refine zq (fun K hK => ?_) | refine zo ?_ | refine zf rfl ?_ | refine zg rfl ?_ | refine zp rfl (fun hc => ?_) (fun hc => ?_) | (refine hK _ ?_; clear hK K) | ((first | refine (show AS.le _ _ from ?_) | refine (show leH _ _ from ?_) | refine (show inH _ _ from ?_)); simp only [AS.le, leT, leH, zr, AsgK, AV.le, AV.leL, AObj.le, inH, idsT, idsH, AV.ids, AV.idsL, AV.idsR, AObj.ids, lk, hget, go_sem, aeq, aeq.aeqF, simprocAttr, hdec, Int.toNat_natCast]) | refine fun (r2 : Rnd _) => ?_ | with_reducible refine And.intro ?_ ?_ | exact ‹_ <+: _› | omega | assumption | refine fun (hg : (_ : Bool) = (_ : Bool)) => ?_ | clear hK K)
  obtain ⟨m, rfl⟩ : ∃ m : Nat, n = m := ⟨n.toNat, by omega⟩
  refine ((zss m z).whole (zT rfl) (Nat.zero_le _) (by rintro r h' ⟨_, rfl⟩ i hi; rw [zjL]; simp only [hget] at hi ⊢; repeat' split <;> simp_all)).mono ?_
  rintro r h' ⟨rfl, rfl⟩
  refine hK _ ?_
  clear hK K
  refine zo ?_
  rw [zjL]
  refine aw_le ⟨[(16, true, .fn (.func 222) [] [.vp 3 0]), (5, true, .vp 2 0), (2, true, .vp 0 0)], [(3, .var [.osl 1 1 z 0 z]), (2, .var [.osl 1 1 z 0 z]), (1, .arr 1 (List.replicate z [D.int .u8 0])), (0, .var [.d (.int .u64 (m : Int))])], some []⟩ (by simp only [AS.le, leT, leH, zr, AsgK, AV.le, AV.leL, AObj.le, inH, idsT, idsH, AV.ids, AV.idsL, AV.idsR, AObj.ids, lk, hget, go_sem, aeq, aeq.aeqF, simprocAttr]) ?_
  obtain ⟨I, hI⟩ : ∃ I : List (List AV) → AHeap × Option (List (List AV)), I = fun xs => (putH m z (min xs.length z), some []) := ⟨_, rfl⟩
  refine zmU (q := 3) (items := zaQ z) 100 I rfl rfl (zu Tryz.func222 (by kernel_rfl) rfl) ?_ ?_ (by simp [cxOf]) ?_ ?_ ?_ ?_ ?_ ?_ ?_ ?_ ?_
  ·intro y v0 hy E w hs hG
   refine zpz (m := m) hz8 y v0 (fun g M N A w hg => ?_) hs hG
   obtain ⟨F, xs, q1, q2⟩ := hy g M N A w hg
   rw [hI] at q1 q2
   exact ⟨F, _, Nat.min_le_right _ _, q1, q2⟩
  ·exact zT rfl
  ·exact ⟨_, rfl⟩
  ·intro xs
   rw [hI]
   exact ⟨_, rfl⟩
  ·rw [hI]
   simp only [List.length_nil, Nat.zero_min, zjL]
   simp only [AS.le, leT, leH, zr, AsgK, AV.le, AV.leL, AObj.le, inH, idsT, idsH, AV.ids, AV.idsL, AV.idsR, AObj.ids, lk, hget, go_sem, aeq, aeq.aeqF, simprocAttr]
  ·rw [hI]
   simp only [List.length_nil, Nat.zero_min, zjL]
   simp only [AS.le, leT, leH, zr, AsgK, AV.le, AV.leL, AObj.le, inH, idsT, idsH, AV.ids, AV.idsL, AV.idsR, AObj.ids, lk, hget, go_sem, aeq, aeq.aeqF, simprocAttr]
  ·rw [hI]
  ·intro x hx
   obtain ⟨i, _, rfl⟩ := List.mem_map.1 hx
   rfl
  ·intro t ht
   simp at ht
   rcases ht with rfl | rfl <;> simp [cxOf]
  ·intro xs x hpre l1 r1
   have hlt : xs.length < z := by
    have := hpre.length_le
    rw [List.length_append, ziL] at this
    simp only [List.length_singleton] at this
    omega
   have hx : x = zc0 z xs.length := by
    obtain ⟨r, hr⟩ := hpre
    have := congrArg (fun l => l[xs.length]?) hr
    simp only [zpy hlt] at this
    simpa using this
   subst hx
   have hmin : min xs.length z = xs.length := by omega
   have hmin' : min (xs.length + 1) z = xs.length + 1 := by omega
   rw [hI]
   simp only [hmin, List.length_append, List.length_singleton, hmin', zc0]
   generalize xs.length = i at hlt
   clear hmin hmin' hpre hI
   have hbl : (zy (putB m z i)).length = z := by rw [zbc, ze0 (by omega)]
   have hto : ((z : Int) - 1 - i).toNat = z - 1 - i := by omega
   have hlt2 : decide ((z : Int) - 1 - i < z) = true := decide_eq_true (by omega)
   have hle2 : decide (0 ≤ (z : Int) - 1 - i) = true := decide_eq_true (by omega)
   have hby : IntKind.u8.wrap ((m / 256 ^ i : Nat) : Int) = ((UInt8.ofNat (m / 256 ^ i)).toNat : Int) := u8_of _
   have hsh : ishr .u64 ((m / 256 ^ i : Nat) : Int) 8 = ((m / 256 ^ (i + 1) : Nat) : Int) := by
    rw [show (8 : Int) = ((8 : Nat) : Int) from rfl, ztV _ _ (by omega), Nat.div_div_eq_div_mul, Nat.pow_succ 256 i]
   have hset : (zy (putB m z i)).set (z - 1 - i) (((zy (putB m z i)).getD (z - 1 - i) []).set 0 (D.int .u8 (IntKind.u8.wrap ((m / 256 ^ i : Nat) : Int)))) = zy (putB m z (i + 1)) := by
    rw [zjB (by rw [ze0 (by omega)]; omega) _ hby]
    congr 1
    have e1 : z - i = (z - 1 - i) + 1 := by omega
    have e2 : z - (i + 1) = z - 1 - i := by omega
    rw [putB, putB, e1, e2, zjC, List.replicate_succ', List.append_assoc, List.set_append, if_neg (by simp)]
    simp
   refine aw_le ⟨[(17, true, .d (.int .i64 ((z : Int) - 1 - i))), (5, true, .vp 2 0), (2, true, .vp 0 0)], [(3, .var [.osl 1 1 z 0 z]), (2, .var [.osl 1 1 z 0 z]), (1, .arr 1 (zy (putB m z i))), (0, .var [.d (.int .u64 ((m / 256 ^ i : Nat) : Int))])], some []⟩ (by rw [putH]; simp only [AS.le, leT, leH, zr, AsgK, AV.le, AV.leL, AObj.le, inH, idsT, idsH, AV.ids, AV.idsL, AV.idsR, AObj.ids, lk, hget, go_sem, aeq, aeq.aeqF, simprocAttr]) ?_
   repeat' (first | ((first | refine za noTab (zb _) (fun K hK => ?_) | refine zc noTab (zb _) ?_ | refine zh ?_ | refine zi ?_ | refine zn ?_); simp only [go_sem, aeq, aeq.aeqF, simprocAttr, hbl, hto, hset, hsh, Tryz.results184]) | refine zq (fun K hK => ?_) | refine zo ?_ | refine zf rfl ?_ | refine zg rfl ?_ | refine zp rfl (fun hc => ?_) (fun hc => ?_) | (refine hK _ ?_; clear hK K) | ((first | refine (show AS.le _ _ from ?_) | refine (show leH _ _ from ?_) | refine (show inH _ _ from ?_)); simp only [AS.le, leT, leH, zr, AsgK, AV.le, AV.leL, AObj.le, inH, idsT, idsH, AV.ids, AV.idsL, AV.idsR, AObj.ids, lk, hget, go_sem, aeq, aeq.aeqF, simprocAttr, hbl, hto, hset, hsh]) | refine fun (r2 : Rnd _) => ?_ | with_reducible refine And.intro ?_ ?_ | exact ‹_ <+: _› | omega | assumption | refine fun (hg : (_ : Bool) = (_ : Bool)) => ?_ | clear hK K)
   ·rw [putH]; simp only [AS.le, leT, leH, zr, AsgK, AV.le, AV.leL, AObj.le, inH, idsT, idsH, AV.ids, AV.idsL, AV.idsR, AObj.ids, lk, hget, go_sem, aeq, aeq.aeqF, simprocAttr]
   ·rw [putH]; simp only [AS.le, leT, leH, zr, AsgK, AV.le, AV.leL, AObj.le, inH, idsT, idsH, AV.ids, AV.idsL, AV.idsR, AObj.ids, lk, hget, go_sem, aeq, aeq.aeqF, simprocAttr]
  ·have hmin : min (zaQ z).length z = z := by rw [ziL]; omega
   rw [hI]
   simp only [hmin]
   have hbl : (zy (putB m z z)).length = z := by rw [zbc, ze0 (by omega)]
   have hput : putB m z z = putN m z := by rw [putB, Nat.sub_self]; rfl
   have hbl2 : (z = (zy (putB m z z)).length) = True := eq_true hbl.symm
   have hbl3 : List.take z (zy (putB m z z)) = zy (putB m z z) := List.take_of_length_le (by omega)
   repeat' (first | ((first | refine za noTab (zb _) (fun K hK => ?_) | refine zc noTab (zb _) ?_ | refine zh ?_ | refine zi ?_ | refine zn ?_); simp only [go_sem, aeq, aeq.aeqF, simprocAttr, putH, hbl, Tryz.results184]) | refine zq (fun K hK => ?_) | refine zo ?_ | refine zf rfl ?_ | refine zg rfl ?_ | refine zp rfl (fun hc => ?_) (fun hc => ?_) | (refine hK _ ?_; clear hK K) | ((first | refine (show AS.le _ _ from ?_) | refine (show leH _ _ from ?_) | refine (show inH _ _ from ?_)); simp only [AS.le, leT, leH, zr, AsgK, AV.le, AV.leL, AObj.le, inH, idsT, idsH, AV.ids, AV.idsL, AV.idsR, AObj.ids, lk, hget, go_sem, aeq, aeq.aeqF, simprocAttr, putH, hbl]) | refine fun (r2 : Rnd _) => ?_ | with_reducible refine And.intro ?_ ?_ | exact ‹_ <+: _› | omega | assumption | refine fun (hg : (_ : Bool) = (_ : Bool)) => ?_ | clear hK K)
   ·rw [hbl3]; exact zbk _
   ·have hn : (z : Int) - 1 = z - 1 := rfl
    rw [hbl3, zat, hput, putS8, if_neg h]
    rfl
noncomputable def zbO : Ent Tryz.prog := .ofL 184 (consL (intT .u64) (consL (intT .i64) nilL)) (fun (n, size, _) => (0 ≤ n) ∧ (n < 18446744073709551616)) (fun (n, size, _) => .d (.str (putS8 n size))) (fun (n, size, _) hp => ⟨rfl, zvF n size hp.1 hp.2⟩)
attribute [go_sem] zbO
open Go Go.Proofs
def zcd (g h : Int) : Bool := decide (1 ≤ g) && decide (g ≤ 64) && decide (8 ≤ h) && decide (h ≤ 256)
def zcA (g h : Int) : Int := if zcd g h then 96 + 2 * h else 0
theorem geo_iff {g h : Int} : zcd g h = true ↔ 1 ≤ g ∧ g ≤ 64 ∧ 8 ≤ h ∧ h ≤ 256 := by
 simp [zcd, and_assoc]
theorem at_ok (k : Int) (h0 : 0 ≤ k) (h1 : k ≤ 1000000) : ACall Tryz.prog 88 0 [.d (.int .i64 k)] [] (fun r _ => r = .d (.int .i64 (96 + 2 * k))) := by
 refine zk Tryz.func88 rfl (zu Tryz.func88 (by kernel_rfl) rfl) Tryz.ntmps88 (by simp) (fun base => ?_)
 have hm : IntKind.i64.wrap (2 * k) = 2 * k := zD (by omega) (by omega)
 have hm2 : IntKind.i64.wrap (96 + 2 * k) = 96 + 2 * k := zD (by omega) (by omega)
 repeat' (first | ((first | refine za noTab (zb _) (fun K hK => ?_) | refine zc noTab (zb _) ?_ | refine zh ?_ | refine zi ?_ | refine zn ?_); simp only [go_sem, aeq, aeq.aeqF, simprocAttr, hm, hm2, Tryz.results88]) | refine zq (fun K hK => ?_) | (refine hK _ ?_; clear hK K) | with_reducible refine And.intro ?_ ?_ | omega | assumption | clear hK K)
noncomputable def zb0 : Ent Tryz.prog := .ofL 88 (consL (intT .i64) nilL) (fun (k, _) => (0 ≤ k) ∧ (k ≤ 1000000)) (fun (k, _) => .d (.int .i64 (96 + 2 * k))) (fun (k, _) hp => ⟨rfl, at_ok k hp.1 hp.2⟩)
attribute [go_sem] zb0
theorem zsi (k : Int) (h0 : 0 ≤ k) (h1 : k ≤ 1000000) : ACall Tryz.prog 100 0 [.d (.int .i64 k)] [] (fun r _ => r = .tup [.d (.int .i64 (87 + k / 32)), .d (.int .i64 (2 * (k % 32)))]) := by
 refine zk Tryz.func100 rfl (zu Tryz.func100 (by kernel_rfl) rfl) Tryz.ntmps100 (by simp) (fun base => ?_)
 have hm : IntKind.i64.wrap (k.tdiv 32) = k / 32 := by rw [Int.tdiv_eq_ediv_of_nonneg h0, zD (by omega) (by omega)]
 have hm2 : IntKind.i64.wrap (87 + k / 32) = 87 + k / 32 := zD (by omega) (by omega)
 have hm3 : k.tmod 32 = k % 32 := Int.tmod_eq_emod_of_nonneg h0
 have hm4 : IntKind.i64.wrap (2 * (k % 32)) = 2 * (k % 32) := zD (by omega) (by omega)
 repeat' (first | ((first | refine za noTab (zb _) (fun K hK => ?_) | refine zc noTab (zb _) ?_ | refine zh ?_ | refine zi ?_ | refine zn ?_); simp only [go_sem, aeq, aeq.aeqF, simprocAttr, hm, hm2, hm3, hm4, Tryz.results100]) | refine zq (fun K hK => ?_) | (refine hK _ ?_; clear hK K) | with_reducible refine And.intro ?_ ?_ | omega | assumption | clear hK K)
noncomputable def zcB : Ent Tryz.prog := .ofL 100 (consL (intT .i64) nilL) (fun (k, _) => (0 ≤ k) ∧ (k ≤ 1000000)) (fun (k, _) => .tup [.d (.int .i64 (87 + k / 32)), .d (.int .i64 (2 * (k % 32)))]) (fun (k, _) hp => ⟨rfl, zsi k hp.1 hp.2⟩)
attribute [go_sem] zcB
theorem zuB {k : Int} (h0 : 0 ≤ k) : ishr .i64 k 5 = k / 32 := by
 unfold ishr
 rw [show min ((5 : Int).toNat) IntKind.i64.bits = 5 from rfl, Int.fdiv_eq_ediv_of_nonneg _ (by decide)]
 rfl
theorem zuC {k : Int} (h0 : 0 ≤ k) (h1 : k ≤ 1000000) : ibits .and .i64 k 31 = k % 32 := by
 obtain ⟨m, rfl⟩ : ∃ m : Nat, k = m := ⟨k.toNat, by omega⟩
 show IntKind.i64.wrap ((BitVec.ofInt 64 (m : Int) &&& BitVec.ofInt 64 31).toNat : Int) = _
 rw [BitVec.ofInt_natCast, show BitVec.ofInt 64 31 = BitVec.ofNat 64 31 from rfl, BitVec.toNat_and, BitVec.toNat_ofNat, BitVec.toNat_ofNat, Nat.mod_eq_of_lt (by omega), Nat.mod_eq_of_lt (by omega), show (31 : Nat) = 2 ^ 5 - 1 from rfl, Nat.and_two_pow_sub_one_eq_mod, zD (by omega) (by omega)]
 omega
theorem zvD (k : Int) (h0 : 0 ≤ k) (h1 : k ≤ 1000000) : ACall Tryz.prog 158 0 [.d (.int .i64 k)] [] (fun r _ => r = .tup [.d (.int .i64 (87 + k / 32)), .d (.int .i64 (2 * (k % 32)))]) := by
 refine zk Tryz.func158 rfl (zu Tryz.func158 (by kernel_rfl) rfl) Tryz.ntmps158 (by simp) (fun base => ?_)
 have hm := zuB h0
 have hm2 : IntKind.i64.wrap (87 + k / 32) = 87 + k / 32 := zD (by omega) (by omega)
 have hm3 := zuC h0 h1
 have hm4 : IntKind.i64.wrap (k % 32 * 2) = 2 * (k % 32) := by rw [zD (by omega) (by omega)]; omega
 repeat' (first | ((first | refine za noTab (zb _) (fun K hK => ?_) | refine zc noTab (zb _) ?_ | refine zh ?_ | refine zi ?_ | refine zn ?_); simp only [go_sem, aeq, aeq.aeqF, simprocAttr, hm, hm2, hm3, hm4, Tryz.results158]) | refine zq (fun K hK => ?_) | (refine hK _ ?_; clear hK K) | with_reducible refine And.intro ?_ ?_ | omega | assumption | clear hK K)
noncomputable def zeY : Ent Tryz.prog := .ofL 158 (consL (intT .i64) nilL) (fun (k, _) => (0 ≤ k) ∧ (k ≤ 1000000)) (fun (k, _) => .tup [.d (.int .i64 (87 + k / 32)), .d (.int .i64 (2 * (k % 32)))]) (fun (k, _) hp => ⟨rfl, zvD k hp.1 hp.2⟩)
attribute [go_sem] zeY
theorem zsj (g : Int) (m : Int) : ACall Tryz.prog 62 0 [.agg [.d (.int .i64 g), .d (.int .i64 m)]] [] (fun r _ => r = .d (.bool (zcd g m))) := by
 refine zk Tryz.func62 rfl (zu Tryz.func62 (by kernel_rfl) rfl) Tryz.ntmps62 (by simp) (fun base => ?_)
 repeat' (first | ((first | refine za noTab (zb _) (fun K hK => ?_) | refine zc noTab (zb _) ?_ | refine zh ?_ | refine zi ?_ | refine zn ?_); simp only [go_sem, aeq, aeq.aeqF, simprocAttr, Tryz.results62]) | refine zq (fun K hK => ?_) | (refine hK _ ?_; clear hK K) | with_reducible refine And.intro ?_ ?_ | omega | assumption | refine fun (hg : (_ : Bool) = (_ : Bool)) => ?_ | clear hK K)
 rfl
noncomputable def zcC : Ent Tryz.prog := .ofL 62 (consL (aggT (consL (intT .i64) (consL (intT .i64) nilL)) (fun p => p) (fun p => p) (fun _ => rfl)) nilL) (fun ((g, m, _), _) => True) (fun ((g, m, _), _) => .d (.bool (zcd g m))) (fun ((g, m, _), _) hp => ⟨rfl, zsj g m⟩)
attribute [go_sem] zcC
theorem lt_le (g : Int) : decide (0 < g) = decide (1 ≤ g) := rfl
theorem zuD (g : Int) (m : Int) : ACall Tryz.prog 68 0 [.agg [.d (.int .i64 g), .d (.int .i64 m)]] [] (fun r _ => r = .d (.bool (zcd g m))) := by
 refine zk Tryz.func68 rfl (zu Tryz.func68 (by kernel_rfl) rfl) Tryz.ntmps68 (by simp) (fun base => ?_)
 repeat' (first | ((first | refine za noTab (zb _) (fun K hK => ?_) | refine zc noTab (zb _) ?_ | refine zh ?_ | refine zi ?_ | refine zn ?_); simp only [go_sem, aeq, aeq.aeqF, simprocAttr, Tryz.results68]) | refine zq (fun K hK => ?_) | (refine hK _ ?_; clear hK K) | with_reducible refine And.intro ?_ ?_ | omega | assumption | refine fun (hg : (_ : Bool) = (_ : Bool)) => ?_ | clear hK K)
 rw [lt_le]
 rfl
noncomputable def zdC : Ent Tryz.prog := .ofL 68 (consL (aggT (consL (intT .i64) (consL (intT .i64) nilL)) (fun p => p) (fun p => p) (fun _ => rfl)) nilL) (fun ((g, m, _), _) => True) (fun ((g, m, _), _) => .d (.bool (zcd g m))) (fun ((g, m, _), _) hp => ⟨rfl, zuD g m⟩)
attribute [go_sem] zdC
noncomputable def tabR4 : Tab := tabOf [zcC]
theorem zlP : TabOk Tryz.prog tabR4 := zz _
@[go_sem] theorem zrb (args : List AV) : tabR4 62 args = (zcC).e args := rfl
noncomputable def tabSu : Tab := tabOf [zdC, zb0]
theorem zlQ : TabOk Tryz.prog tabSu := zz _
@[go_sem] theorem zsk (args : List AV) : tabSu 68 args = (zdC).e args := rfl
@[go_sem] theorem zuE (args : List AV) : tabSu 88 args = (zb0).e args := rfl
theorem zsl (g : Int) (m : Int) : ACall Tryz.prog 65 0 [.agg [.d (.int .i64 g), .d (.int .i64 m)]] [] (fun r _ => r = .d (.int .i64 (zcA g m))) := by
 refine zk Tryz.func65 rfl (zu Tryz.func65 (by kernel_rfl) rfl) Tryz.ntmps65 (by simp) (fun base => ?_)
 repeat' (first | ((first | refine za tabR4 (zlP) (fun K hK => ?_) | refine zc tabR4 (zlP) ?_ | refine zh ?_ | refine zi ?_ | refine zn ?_); simp only [go_sem, aeq, aeq.aeqF, simprocAttr, Tryz.results65]) | refine zq (fun K hK => ?_) | refine zf rfl ?_ | refine zg rfl ?_ | refine zp rfl (fun hc => ?_) (fun hc => ?_) | (refine hK _ ?_; clear hK K) | with_reducible refine And.intro ?_ ?_ | omega | assumption | clear hK K)
 ·have hc : zcd g m = false := by simpa using hc
  rw [zcA, if_neg (by rw [hc]; exact Bool.false_ne_true)]
 ·have hc : zcd g m = true := by simpa using hc
  have hg := geo_iff.1 hc
  rw [zcA, if_pos hc, zD (n := 2 * m) (by omega) (by omega), zD (by omega) (by omega)]
noncomputable def zfE : Ent Tryz.prog := .ofL 65 (consL (aggT (consL (intT .i64) (consL (intT .i64) nilL)) (fun p => p) (fun p => p) (fun _ => rfl)) nilL) (fun ((g, m, _), _) => True) (fun ((g, m, _), _) => .d (.int .i64 (zcA g m))) (fun ((g, m, _), _) hp => ⟨rfl, zsl g m⟩)
attribute [go_sem] zfE
theorem zvE (g : Int) (m : Int) : ACall Tryz.prog 71 0 [.agg [.d (.int .i64 g), .d (.int .i64 m)]] [] (fun r _ => r = .d (.int .i64 (zcA g m))) := by
 refine zk Tryz.func71 rfl (zu Tryz.func71 (by kernel_rfl) rfl) Tryz.ntmps71 (by simp) (fun base => ?_)
 repeat' (first | ((first | refine za tabSu (zlQ) (fun K hK => ?_) | refine zc tabSu (zlQ) ?_ | refine zh ?_ | refine zi ?_ | refine zn ?_); simp only [go_sem, aeq, aeq.aeqF, simprocAttr, Tryz.results71]) | refine zq (fun K hK => ?_) | refine zf rfl ?_ | refine zg rfl ?_ | refine zp rfl (fun hc => ?_) (fun hc => ?_) | (refine hK _ ?_; clear hK K) | with_reducible refine And.intro ?_ ?_ | omega | assumption | clear hK K)
 all_goals first | (have hg := geo_iff.1 hc; omega) | skip
 ·rw [zcA, if_pos hc]
 ·rw [zcA, if_neg (by rw [hc]; exact Bool.false_ne_true)]
noncomputable def ziJ : Ent Tryz.prog := .ofL 71 (consL (aggT (consL (intT .i64) (consL (intT .i64) nilL)) (fun p => p) (fun p => p) (fun _ => rfl)) nilL) (fun ((g, m, _), _) => True) (fun ((g, m, _), _) => .d (.int .i64 (zcA g m))) (fun ((g, m, _), _) hp => ⟨rfl, zvE g m⟩)
attribute [go_sem] ziJ
open Go Go.Proofs
structure Plan where
 targets : List Int
 texts : List Txt
 deriving DecidableEq
def planA (p : Plan) : AV := .agg [.d (.sl 1 (p.targets.map intD)), .d (.sl 1 (p.texts.map strD))]
def planC (p : Plan) : List AV := [.d (.sl 1 (p.targets.map intD)), .d (.sl 1 (p.texts.map strD))]
attribute [go_sem] planA planC
theorem zsm (p : Plan) : Plan.mk p.targets p.texts = p := rfl
noncomputable def zU : PT Plan := aggT (consL (slT 1 intD zbj) (consL (slT 1 strD zeV) nilL)) (fun p => ⟨p.1, p.2.1⟩) (fun x => (x.targets, x.texts, ())) (fun _ => rfl)
attribute [go_sem] zU
noncomputable def zpp : PT Plan := dpT (consL (slT 1 intD zbj) (consL (slT 1 strD zeV) nilL)) (fun p => ⟨p.1, p.2.1⟩) (fun x => (x.targets, x.texts, ())) (fun _ => rfl)
attribute [go_sem] zpp
attribute [go_sem] zsm
structure PlanOk (p : Plan) : Prop where
 targets : p.targets.length ≤ 9223372036854775807
 texts : p.texts.length ≤ 9223372036854775807
def secOk (at_ : Int) : Bool := decide (0 ≤ at_) && decide (at_ < 1024)
def pfind (l : List Int) (at_ : Int) : Int := idxP (fun x => x == at_) l 0
def pfitL : List Int → List Int → List Txt → Bool
 | _, [], _ => true
 | seen, t :: r, s :: q => secOk t && !seen.contains t && ((s.length : Int) == 64) && pfitL (seen ++ [t]) r q
 | _, _ :: _, [] => true
def pfit (p : Plan) : Bool := decide (p.targets.length = p.texts.length) && decide (p.targets.length ≤ 24) && pfitL [] p.targets p.texts
def plook (d : Disk) (p : Plan) (at_ : Int) : Txt × Int :=
 if 0 ≤ pfind p.targets at_ then (p.texts.getD (pfind p.targets at_).toNat [], 0) else dread d at_
def pset (p : Plan) (at_ : Int) (s : Txt) : Plan × Int :=
 if !secOk at_ then (p, 10) else if (s.length : Int) ≠ 64 then (p, 11)
 else if 0 ≤ pfind p.targets at_ then (⟨p.targets, p.texts.set (pfind p.targets at_).toNat s⟩, 0)
 else if 24 ≤ (p.targets.length : Int) then (p, 16) else (⟨p.targets ++ [at_], p.texts ++ [s]⟩, 0)
def zce (d : Disk) (p : Plan) (at_ : Int) (off : Int) (s : Txt) : Plan × Int :=
 if (plook d p at_).2 ≠ 0 then (p, (plook d p at_).2)
 else if (overS (plook d p at_).1 off s).2 ≠ 0 then (p, (overS (plook d p at_).1 off s).2)
 else pset p at_ (overS (plook d p at_).1 off s).1
def layL (d : Disk) : List (Int × Txt) → Disk × Int
 | [] => (d, 0)
 | q :: r => if (zQ d q.1 q.2).2 ≠ 0 then zQ d q.1 q.2 else layL (zQ d q.1 q.2).1 r
def play (d : Disk) (p : Plan) : Disk × Int := layL d (p.targets.zip p.texts)
theorem zg7 {d : Disk} (h : DiskOk d) (at_ : Int) (s : Txt) : DiskOk (zQ d at_ s).1 := by
 unfold zQ
 repeat' split
 all_goals first | exact h | skip
 ·exact ⟨h.data, h.cache, h.bad, h.fuse0, h.fuse1⟩
 ·rename_i h6
  exact zlw ⟨h.data, by simp only [List.length_append, List.length_singleton]; omega, h.bad, h.fuse0, h.fuse1⟩
theorem zlR {d : Disk} {at_ : Int} (hf : d.cache.all (putOk d) = true) (ht : there d at_ = true) : (sees d at_).length = 64 := by
 obtain ⟨h0, h1⟩ := there_iff.1 ht
 unfold sees
 split
 ·rename_i q hq
  have hm := List.mem_of_find?_eq_some hq
  have := List.all_eq_true.1 hf q (List.mem_reverse.1 hm)
  rw [putOk, Bool.and_eq_true] at this
  have := eq_of_beq this.2
  omega
 ·rw [List.length_take, List.length_drop]; omega
theorem zeZ {d : Disk} {at_ : Int} (hf : d.cache.all (putOk d) = true) : (dread d at_).1.length ≤ 64 := by
 unfold dread
 repeat' split
 all_goals first | (simp; done) | skip
 rw [zlR hf (by simp_all)]
 omega
theorem zjE : ∀ (t : List Int) (s : List Txt) (seen : List Int), pfitL seen t s = true → t.length = s.length → ∀ x ∈ s, x.length = 64
 | [], s, seen, _, hl => by
  have : s = [] := List.length_eq_zero_iff.1 hl.symm
  subst this
  simp
 | t :: r, [], seen, _, hl => by simp at hl
 | t :: r, s :: q, seen, h, hl => by
  rw [pfitL] at h
  simp only [Bool.and_eq_true] at h
  intro x hx
  rcases List.mem_cons.1 hx with rfl | hx
  ·have := eq_of_beq h.1.2; omega
  ·exact zjE r q _ h.2 (by simpa using hl) x hx
theorem zaI {p : Plan} (h : pfit p = true) : p.targets.length = p.texts.length ∧ p.targets.length ≤ 24 ∧ ∀ x ∈ p.texts, x.length = 64 := by
 simp only [pfit, Bool.and_eq_true, decide_eq_true_eq] at h
 exact ⟨h.1.1, h.1.2, zjE _ _ _ h.2 h.1.1⟩
theorem zsn {l : List Txt} {n k : Nat} (h : ∀ x ∈ l, x.length = n) : (l.getD k []).length ≤ n := by
 rw [List.getD_eq_getElem?_getD]
 rcases hk : l[k]? with _ | x
 ·simp
 ·rw [Option.getD_some, h x (List.mem_of_getElem? hk)]
  exact Nat.le_refl _
theorem zjF {d : Disk} {p : Plan} {at_ : Int} (hf : d.cache.all (putOk d) = true) (hp : pfit p = true) : (plook d p at_).1.length ≤ 64 := by
 unfold plook
 split
 ·exact zsn (zaI hp).2.2
 ·exact zeZ hf
theorem zjG {α : Type} (p : α → Bool) : ∀ (l : List α) (k : Nat), idxP p l k = -1 ∨ ((k : Int) ≤ idxP p l k ∧ idxP p l k < ((k + l.length : Nat) : Int))
 | [], k => .inl rfl
 | q :: l, k => by
  rw [idxP]
  split
  ·exact .inr ⟨Int.le_refl _, by simp; omega⟩
  ·rcases zjG p l (k + 1) with h | ⟨h1, h2⟩
   ·exact .inl h
   ·exact .inr ⟨by omega, by simp only [List.length_cons]; omega⟩
theorem zbx (l : List Int) (at_ : Int) : pfind l at_ = -1 ∨ ∃ k : Nat, pfind l at_ = k ∧ k < l.length := by
 rcases zjG (fun x => x == at_) l 0 with h | ⟨h1, h2⟩
 ·exact .inl h
 ·exact .inr ⟨(pfind l at_).toNat, by unfold pfind; omega, by unfold pfind; omega⟩
theorem zkD (at_ : Int) : ACall Tryz.prog 26 0 [.d (.int .i64 at_)] [] (fun r _ => r = .d (.bool (secOk at_))) := by
 refine zk Tryz.func26 rfl (zu Tryz.func26 (by kernel_rfl) rfl) Tryz.ntmps26 (by simp) (fun base => ?_)
 repeat' (first | ((first | refine za noTab (zb _) (fun K hK => ?_) | refine zc noTab (zb _) ?_ | refine zh ?_ | refine zi ?_ | refine zn ?_); simp only [go_sem, aeq, aeq.aeqF, simprocAttr, Tryz.results26]) | refine zq (fun K hK => ?_) | (refine hK _ ?_; clear hK K) | with_reducible refine And.intro ?_ ?_ | omega | assumption | refine fun (hg : (_ : Bool) = (_ : Bool)) => ?_ | clear hK K)
 rfl
noncomputable def zcY : Ent Tryz.prog := .ofL 26 (consL (intT .i64) nilL) (fun (at_, _) => True) (fun (at_, _) => .d (.bool (secOk at_))) (fun (at_, _) hp => ⟨rfl, zkD at_⟩)
attribute [go_sem] zcY
theorem zpq (p : Plan) (at_ : Int) (hp : PlanOk p) : ACall Tryz.prog 27 0 [planA p, .d (.int .i64 at_)] [] (fun r _ => r = .d (.int .i64 (pfind p.targets at_))) := by
 refine zk Tryz.func27 rfl (zu Tryz.func27 (by kernel_rfl) rfl) Tryz.ntmps27 (by simp) (fun base => ?_)
 repeat' (first | ((first | refine za noTab (zb _) (fun K hK => ?_) | refine zc noTab (zb _) ?_ | refine zh ?_ | refine zi ?_ | refine zn ?_); simp only [go_sem, aeq, aeq.aeqF, simprocAttr, Tryz.results27]) | refine zq (fun K hK => ?_) | refine zo ?_ | refine zf rfl ?_ | refine zg rfl ?_ | refine zp rfl (fun hc => ?_) (fun hc => ?_) | (refine hK _ ?_; clear hK K) | with_reducible refine And.intro ?_ ?_ | omega | assumption | clear hK K)
 have ht := hp.targets
 refine zL (fun q : Idst (fun x => x == at_) p.targets => ⟨[(1, true, .d (.int .i64 at_)), (2, true, .vp 0 0), (5, true, .d (.int .i64 q.1))], [(0, .var [.d (.sl 1 (p.targets.map intD)), .d (.sl 1 (p.texts.map strD))])], some []⟩) (fun q => p.targets.length - q.1) ⟨0, Nat.zero_le _, rfl⟩ (by simp only [AS.le, leT, leH, zr, AsgK, AV.le, AV.leL, AObj.le, inH, idsT, idsH, AV.ids, AV.idsL, AV.idsR, AObj.ids, lk, hget, go_sem, aeq, aeq.aeqF, simprocAttr] <;> and_intros <;> rfl) (fun q => ?_)
 obtain ⟨i, hi, hf⟩ := q
 simp only at hi hf ⊢
 rcases zad intD p.targets i hi with ⟨m, hq, hlt, hcmp, hrow, hdr, htk⟩ | ⟨hend, hcmp⟩
 ·simp only [intD] at hrow
  have hwi := zP (i := i) (by omega)
  repeat' (first | ((first | refine za noTab (zb _) (fun K hK => ?_) | refine zc noTab (zb _) ?_ | refine zh ?_ | refine zi ?_ | refine zn ?_); simp only [go_sem, aeq, aeq.aeqF, simprocAttr, hcmp, hrow, Tryz.results27]) | refine zq (fun K hK => ?_) | refine zo ?_ | refine zf rfl ?_ | refine zg rfl ?_ | refine zp rfl (fun hc => ?_) (fun hc => ?_) | (refine hK _ ?_; clear hK K) | with_reducible refine And.intro ?_ ?_ | omega | assumption | clear hK K)
  ·rw [pfind, hf, hdr, idxP, if_pos hc]
  ·exact ⟨⟨i + 1, by omega, by rw [hf, hdr, idxP, if_neg (by rw [hc]; exact Bool.false_ne_true)]⟩, by simp only [AS.le, leT, leH, zr, AsgK, AV.le, AV.leL, AObj.le, inH, idsT, idsH, AV.ids, AV.idsL, AV.idsR, AObj.ids, lk, hget, go_sem, aeq, aeq.aeqF, simprocAttr, hwi], by simp; omega⟩
 ·repeat' (first | ((first | refine za noTab (zb _) (fun K hK => ?_) | refine zc noTab (zb _) ?_ | refine zh ?_ | refine zi ?_ | refine zn ?_); simp only [go_sem, aeq, aeq.aeqF, simprocAttr, hcmp, Tryz.results27]) | refine zq (fun K hK => ?_) | refine zo ?_ | refine zf rfl ?_ | refine zg rfl ?_ | refine zp rfl (fun hc => ?_) (fun hc => ?_) | (refine hK _ ?_; clear hK K) | with_reducible refine And.intro ?_ ?_ | omega | assumption | clear hK K)
  rw [pfind, hf, hend, List.drop_length]
  rfl
noncomputable def zb1 : Ent Tryz.prog := .ofL 27 (consL zU (consL (intT .i64) nilL)) (fun (p, at_, _) => PlanOk p) (fun (p, at_, _) => .d (.int .i64 (pfind p.targets at_))) (fun (p, at_, _) hp => ⟨rfl, zpq p at_ hp⟩)
attribute [go_sem] zb1
noncomputable def tab5a : Tab := tabOf [zcY, zb1]
theorem zgt : TabOk Tryz.prog tab5a := zz _
@[go_sem] theorem zmQ (args : List AV) : tab5a 26 args = (zcY).e args := rfl
@[go_sem] theorem zpr (args : List AV) : tab5a 27 args = (zb1).e args := rfl
noncomputable def tab5b : Tab := tabOf [zb1, zeo]
theorem zgu : TabOk Tryz.prog tab5b := zz _
@[go_sem] theorem zps (args : List AV) : tab5b 27 args = (zb1).e args := rfl
@[go_sem] theorem zpt (args : List AV) : tab5b 93 args = (zeo).e args := rfl
theorem zpu (d : Disk) (p : Plan) (at_ : Int) (hd : DiskOk d) (hp : PlanOk p) (hl : p.targets.length = p.texts.length) : ACall Tryz.prog 54 0 [diskA d, planA p, .d (.int .i64 at_)] [] (fun r _ => r = .tup [.d (.str (plook d p at_).1), .d (.int .i64 (plook d p at_).2)]) := by
 refine zk Tryz.func54 rfl (zu Tryz.func54 (by kernel_rfl) rfl) Tryz.ntmps54 (by simp) (fun base => ?_)
 rcases zbx p.targets at_ with hk | ⟨k, hk, hkl⟩
 ·repeat' (first | ((first | refine za tab5b (zgu) (fun K hK => ?_) | refine zc tab5b (zgu) ?_ | refine zh ?_ | refine zi ?_ | refine zn ?_); simp only [go_sem, aeq, aeq.aeqF, simprocAttr, hk, Tryz.results54]) | refine zq (fun K hK => ?_) | refine zf rfl ?_ | refine zg rfl ?_ | refine zp rfl (fun hc => ?_) (fun hc => ?_) | (refine hK _ ?_; clear hK K) | with_reducible refine And.intro ?_ ?_ | omega | assumption | refine fun (hg : (_ : Bool) = (_ : Bool)) => ?_ | clear hK K)
  rw [plook, hk, if_neg (by omega)]
 ·obtain ⟨s, hq⟩ := zae (l := p.texts) (i := k) (by omega)
  have hrow := zbi (g := strD) hq
  simp only [strD] at hrow
  have h1 : decide ((0 : Int) ≤ (k : Int)) = true := decide_eq_true (by omega)
  have h2 : decide ((k : Int) < (p.texts.length : Int)) = true := decide_eq_true (by omega)
  repeat' (first | ((first | refine za tab5b (zgu) (fun K hK => ?_) | refine zc tab5b (zgu) ?_ | refine zh ?_ | refine zi ?_ | refine zn ?_); simp only [go_sem, aeq, aeq.aeqF, simprocAttr, hk, hrow, Int.toNat_natCast, h1, h2, Tryz.results54]) | refine zq (fun K hK => ?_) | refine zf rfl ?_ | refine zg rfl ?_ | refine zp rfl (fun hc => ?_) (fun hc => ?_) | (refine hK _ ?_; clear hK K) | with_reducible refine And.intro ?_ ?_ | omega | assumption | refine fun (hg : (_ : Bool) = (_ : Bool)) => ?_ | clear hK K)
  rw [plook, hk, if_pos (by omega), Int.toNat_natCast, List.getD_eq_getElem?_getD, hq]
  rfl
noncomputable def zb2 : Ent Tryz.prog := .ofL 54 (consL zM (consL zU (consL (intT .i64) nilL))) (fun (d, p, at_, _) => (DiskOk d) ∧ (PlanOk p) ∧ (p.targets.length = p.texts.length)) (fun (d, p, at_, _) => .tup [.d (.str (plook d p at_).1), .d (.int .i64 (plook d p at_).2)]) (fun (d, p, at_, _) hp => ⟨rfl, zpu d p at_ hp.1 hp.2.1 hp.2.2⟩)
attribute [go_sem] zb2
theorem zd6 {α : Type} (g : α → List D) (l : List α) (x : α) (r : List D) (hr : r = g x) {k : Nat} : (if l.length + 1 = (l.map g ++ [r]).length then AV.d (D.sl k (List.take (l.length + 1) (l.map g ++ [r]))) else AV.any) = AV.d (.sl k ((l ++ [x]).map g)) := by
 have h1 : l.length + 1 = (l.map g ++ [r]).length := by simp
 rw [if_pos h1, List.take_of_length_le (Nat.le_of_eq h1.symm), hr, List.map_append]
 rfl
theorem zlS {k n : Nat} {X : List (List D)} (h : X.length = n) : (if n = X.length then AV.d (D.sl k (List.take n X)) else AV.any) = AV.d (.sl k X) := by
 rw [if_pos h.symm, List.take_of_length_le (Nat.le_of_eq h)]
theorem zpv {l : List Txt} {k : Nat} {s : Txt} (hk : k < l.length) : (l.map strD).set k (((l.map strD).getD k []).set 0 (D.str s)) = (l.set k s).map strD := by
 obtain ⟨x, hq⟩ := zae hk
 rw [zbi (g := strD) hq, List.map_set]
 rfl
theorem zso (p : Plan) (at_ : Int) (s : Txt) (hp : PlanOk p) (hl : p.targets.length = p.texts.length) (h24 : p.targets.length ≤ 24) : ACall Tryz.prog 127 0 [planA p, .d (.int .i64 at_), .d (.str s)] [] (fun r _ => r = .tup [planA (pset p at_ s).1, .d (.int .i64 (pset p at_ s).2)]) := by
 refine zA ?_
 refine zk Tryz.func127 rfl (zu Tryz.func127 (by kernel_rfl) rfl) Tryz.ntmps127 (by simp) (fun base => ?_)
 rcases zbx p.targets at_ with hk | ⟨k, hk, hkl⟩
 ·repeat' (first | ((first | refine za tab5a (zgt) (fun K hK => ?_) | refine zc tab5a (zgt) ?_ | refine zh ?_ | refine zi ?_ | refine zn ?_); simp only [go_sem, aeq, aeq.aeqF, simprocAttr, hk, Tryz.results127]) | refine zq (fun K hK => ?_) | refine zf rfl ?_ | refine zg rfl ?_ | refine zp rfl (fun hc => ?_) (fun hc => ?_) | (refine hK _ ?_; clear hK K) | refine fun (nb : Bool) (hnb : nb = true → _) => ?_ | with_reducible refine And.intro ?_ ?_ | omega | assumption | clear hK K)
  all_goals first | (simp_all [pset]; done) | skip
  rw [zd6 intD p.targets at_ [D.int .i64 at_] rfl, zd6 strD p.texts s [D.str s] rfl]
  by_cases h6 : 24 ≤ (p.targets.length : Int)
  ·exfalso; simp_all; omega
  ·simp_all [pset]
   simp only [if_neg (show ¬ (24 : Int) ≤ p.texts.length by omega)]
   simp
 ·have h1 : decide ((0 : Int) ≤ (k : Int)) = true := decide_eq_true (by omega)
  repeat' (first | ((first | refine za tab5a (zgt) (fun K hK => ?_) | refine zc tab5a (zgt) ?_ | refine zh ?_ | refine zi ?_ | refine zn ?_); simp only [go_sem, aeq, aeq.aeqF, simprocAttr, hk, Int.toNat_natCast, h1, Tryz.results127]) | refine zq (fun K hK => ?_) | refine zf rfl ?_ | refine zg rfl ?_ | refine zp rfl (fun hc => ?_) (fun hc => ?_) | (refine hK _ ?_; clear hK K) | refine fun (nb : Bool) (hnb : nb = true → _) => ?_ | with_reducible refine And.intro ?_ ?_ | omega | assumption | clear hK K)
  all_goals first | (simp_all [pset]; done) | skip
  rw [zpv (by omega), zlS (by simp)]
  simp_all [pset]
noncomputable def zcD : Ent Tryz.prog := .ofL 127 (consL zU (consL (intT .i64) (consL strT nilL))) (fun (p, at_, s, _) => (PlanOk p) ∧ (p.targets.length = p.texts.length) ∧ (p.targets.length ≤ 24)) (fun (p, at_, s, _) => .tup [planA (pset p at_ s).1, .d (.int .i64 (pset p at_ s).2)]) (fun (p, at_, s, _) hp => ⟨rfl, zso p at_ s hp.1 hp.2.1 hp.2.2⟩)
attribute [go_sem] zcD
noncomputable def tab5c : Tab := tabOf [zb2, zeu, zcD]
theorem zlT : TabOk Tryz.prog tab5c := zz _
@[go_sem] theorem zpw (args : List AV) : tab5c 54 args = (zb2).e args := rfl
@[go_sem] theorem zpx (args : List AV) : tab5c 23 args = (zeu).e args := rfl
@[go_sem] theorem zrc (args : List AV) : tab5c 127 args = (zcD).e args := rfl
theorem zmR (d : Disk) (p : Plan) (at_ : Int) (off : Int) (s : Txt) (hd : DiskOk d) (hf : d.cache.all (putOk d) = true) (hp : pfit p = true) (hs : s.length ≤ 9223372036854775807) : ACall Tryz.prog 128 0 [diskA d, planA p, .d (.int .i64 at_), .d (.int .i64 off), .d (.str s)] [] (fun r _ => r = .tup [planA (zce d p at_ off s).1, .d (.int .i64 (zce d p at_ off s).2)]) := by
 refine zA ?_
 refine zk Tryz.func128 rfl (zu Tryz.func128 (by kernel_rfl) rfl) Tryz.ntmps128 (by simp) (fun base => ?_)
 obtain ⟨hl, h24, h64⟩ := zaI hp
 have hpo : PlanOk p := ⟨by omega, by omega⟩
 have hb := zjF (at_ := at_) hf hp
 repeat' (first | ((first | refine za tab5c (zlT) (fun K hK => ?_) | refine zc tab5c (zlT) ?_ | refine zh ?_ | refine zi ?_ | refine zn ?_); simp only [go_sem, aeq, aeq.aeqF, simprocAttr, Tryz.results128]) | refine zq (fun K hK => ?_) | refine zf rfl ?_ | refine zg rfl ?_ | refine zp rfl (fun hc => ?_) (fun hc => ?_) | (refine hK _ ?_; clear hK K) | with_reducible refine And.intro ?_ ?_ | omega | assumption | clear hK K)
 all_goals first | (simp_all [zce]; done) | skip
noncomputable def zdD : Ent Tryz.prog := .ofL 128 (consL zM (consL zU (consL (intT .i64) (consL (intT .i64) (consL strT nilL))))) (fun (d, p, at_, off, s, _) => (DiskOk d) ∧ (d.cache.all (putOk d) = true) ∧ (pfit p = true) ∧ (s.length ≤ 9223372036854775807)) (fun (d, p, at_, off, s, _) => .tup [planA (zce d p at_ off s).1, .d (.int .i64 (zce d p at_ off s).2)]) (fun (d, p, at_, off, s, _) hp => ⟨rfl, zmR d p at_ off s hp.1 hp.2.1 hp.2.2.1 hp.2.2.2⟩)
attribute [go_sem] zdD
open Go Go.Proofs
noncomputable def tab5d : Tab := tabOf [zdt]
theorem zgv : TabOk Tryz.prog tab5d := zz _
@[go_sem] theorem znX (args : List AV) : tab5d 46 args = (zdt).e args := rfl
theorem zsp (d : Disk) (p : Plan) (hd : DiskOk d) (hp : PlanOk p) (hl : p.targets.length = p.texts.length) : ACall Tryz.prog 79 0 [diskA d, planA p] [] (fun r _ => r = .tup [diskA (play d p).1, .d (.int .i64 (play d p).2)]) := by
 refine zA ?_
 refine zk Tryz.func79 rfl (zu Tryz.func79 (by kernel_rfl) rfl) Tryz.ntmps79 (by simp) (fun base => ?_)
 have h1 := hp.targets
 have h2 := hp.texts
 repeat' (first | ((first | refine za noTab (zb _) (fun K hK => ?_) | refine zc noTab (zb _) ?_ | refine ze noTab (zb _) mx (fun K hK => ?_) | refine zj noTab (zb _) mx ?_ | refine zh ?_ | refine zi ?_ | refine zn ?_); simp only [go_sem, aeq, aeq.aeqF, simprocAttr, Tryz.results79]) | refine zq (fun K hK => ?_) | refine zo ?_ | refine zf rfl ?_ | refine zg rfl ?_ | refine zp rfl (fun hc => ?_) (fun hc => ?_) | (refine hK _ ?_; clear hK K) | with_reducible refine And.intro ?_ ?_ | (refine (show zt _ _ = true from ?_); kernel_rfl) | omega | assumption | refine fun (hg : (_ : Bool) = (_ : Bool)) => ?_ | clear hK K)
 refine zL (fun q : { q : Nat × Disk // q.1 ≤ p.targets.length ∧ DiskOk q.2 ∧ play d p = layL q.2 ((p.targets.zip p.texts).drop q.1) } => ⟨[(2, true, .vp 0 0), (3, true, .vp 1 0), (4, true, .vp 2 0), (6, true, .d (.int .i64 q.1.1))], [(2, .var [.d (.str []), .nils 2, .d (.int .i64 0), .d (.bool false), .nils 1]), (1, .var [.d (.sl 1 (p.targets.map intD)), .d (.sl 1 (p.texts.map strD))]), (0, (.var [.d (.str q.1.2.data), .d (.sl 2 (q.1.2.cache.map putD)), .d (.int .i64 q.1.2.fuse), .d (.bool q.1.2.off), .d (.sl 1 (q.1.2.bad.map intD))]))], some []⟩) (fun q => p.targets.length - q.1.1) ⟨(0, d), Nat.zero_le _, hd, rfl⟩ (by simp only [AS.le, leT, leH, zr, AsgK, AV.le, AV.leL, AObj.le, inH, idsT, idsH, AV.ids, AV.idsL, AV.idsR, AObj.ids, lk, hget, go_sem, aeq, aeq.aeqF, simprocAttr] <;> and_intros <;> rfl) (fun q => ?_)
 obtain ⟨⟨i, x⟩, hi, hx, hf⟩ := q
 simp only at hi hx hf ⊢
 rcases zad intD p.targets i hi with ⟨m, hq, hlt, hcmp, hrow, hdr, htk⟩ | ⟨hend, hcmp⟩
 ·obtain ⟨s, hq'⟩ := zae (l := p.texts) (i := i) (by omega)
  have hrow' := zbi (g := strD) hq'
  simp only [intD] at hrow
  simp only [strD] at hrow'
  have hwi := zP (i := i) (by omega)
  have hcmp' : decide ((i : Int) < (p.texts.length : Int)) = true := by rw [← hl]; exact hcmp
  have hz : (p.targets.zip p.texts)[i]? = some (m, s) := List.getElem?_zip_eq_some.2 ⟨hq, hq'⟩
  rw [zcS hz, layL] at hf
  have hxo := zg7 hx m s
  repeat' (first | ((first | refine za tab5d (zgv) (fun K hK => ?_) | refine zc tab5d (zgv) ?_ | refine ze tab5d (zgv) mx (fun K hK => ?_) | refine zj tab5d (zgv) mx ?_ | refine zh ?_ | refine zi ?_ | refine zn ?_); simp only [go_sem, aeq, aeq.aeqF, simprocAttr, hcmp, hcmp', hrow, hrow', Tryz.results79]) | refine zq (fun K hK => ?_) | refine zo ?_ | refine zf rfl ?_ | refine zg rfl ?_ | refine zp rfl (fun hc => ?_) (fun hc => ?_) | (refine hK _ ?_; clear hK K) | with_reducible refine And.intro ?_ ?_ | (refine (show zt _ _ = true from ?_); kernel_rfl) | omega | assumption | refine fun (hg : (_ : Bool) = (_ : Bool)) => ?_ | clear hK K)
  ·have hc : (zQ x m s).2 ≠ 0 := by simpa using hc
   rw [hf, if_pos hc]
  ·have hc : ¬ (zQ x m s).2 ≠ 0 := by simpa using hc
   rw [if_neg hc] at hf
   exact ⟨⟨(i + 1, (zQ x m s).1), by omega, hxo, hf⟩, by simp only [AS.le, leT, leH, zr, AsgK, AV.le, AV.leL, AObj.le, inH, idsT, idsH, AV.ids, AV.idsL, AV.idsR, AObj.ids, lk, hget, go_sem, aeq, aeq.aeqF, simprocAttr, hwi], by simp; omega⟩
 ·repeat' (first | ((first | refine za noTab (zb _) (fun K hK => ?_) | refine zc noTab (zb _) ?_ | refine ze noTab (zb _) mx (fun K hK => ?_) | refine zj noTab (zb _) mx ?_ | refine zh ?_ | refine zi ?_ | refine zn ?_); simp only [go_sem, aeq, aeq.aeqF, simprocAttr, hcmp, Tryz.results79]) | refine zq (fun K hK => ?_) | refine zo ?_ | refine zf rfl ?_ | refine zg rfl ?_ | refine zp rfl (fun hc => ?_) (fun hc => ?_) | (refine hK _ ?_; clear hK K) | with_reducible refine And.intro ?_ ?_ | (refine (show zt _ _ = true from ?_); kernel_rfl) | omega | assumption | refine fun (hg : (_ : Bool) = (_ : Bool)) => ?_ | clear hK K)
  rw [hf, List.drop_of_length_le (by rw [List.length_zip]; omega)]
  rfl
noncomputable def zfF : Ent Tryz.prog := .ofL 79 (consL zM (consL zU nilL)) (fun (d, p, _) => (DiskOk d) ∧ (PlanOk p) ∧ (p.targets.length = p.texts.length)) (fun (d, p, _) => .tup [diskA (play d p).1, .d (.int .i64 (play d p).2)]) (fun (d, p, _) hp => ⟨rfl, zsp d p hp.1 hp.2.1 hp.2.2⟩)
attribute [go_sem] zfF
open Go Go.Proofs
theorem zkE (at_ : Int) : ACall Tryz.prog 203 0 [.d (.int .i64 at_)] [] (fun r _ => r = .d (.bool (!secOk at_))) := by
 refine zk Tryz.func203 rfl (zu Tryz.func203 (by kernel_rfl) rfl) Tryz.ntmps203 (by simp) (fun base => ?_)
 repeat' (first | ((first | refine za noTab (zb _) (fun K hK => ?_) | refine zc noTab (zb _) ?_ | refine zh ?_ | refine zi ?_ | refine zn ?_); simp only [go_sem, aeq, aeq.aeqF, simprocAttr, Tryz.results203]) | refine zq (fun K hK => ?_) | (refine hK _ ?_; clear hK K) | with_reducible refine And.intro ?_ ?_ | omega | assumption | refine fun (hg : (_ : Bool) = (_ : Bool)) => ?_ | clear hK K)
 congr 2
 rw [secOk, Bool.not_and]
 congr 1
 ·by_cases h : at_ < 0
  ·rw [decide_eq_true h, decide_eq_false (by omega)]; rfl
  ·rw [decide_eq_false h, decide_eq_true (by omega)]; rfl
 ·by_cases h : at_ < 1024
  ·rw [decide_eq_true h, decide_eq_false (by omega)]; rfl
  ·rw [decide_eq_false h, decide_eq_true (by omega)]; rfl
noncomputable def zbm : Ent Tryz.prog := .ofL 203 (consL (intT .i64) nilL) (fun (at_, _) => True) (fun (at_, _) => .d (.bool (!secOk at_))) (fun (at_, _) hp => ⟨rfl, zkE at_⟩)
attribute [go_sem] zbm
theorem zlU (l : List Int) (x : Int) (k : Nat) : idxP (fun q => x == q) l k = idxP (fun q => q == x) l k := by
 have : (fun q : Int => x == q) = (fun q => q == x) := by funext q; exact BEq.comm
 rw [this]
noncomputable def tab5e : Tab := tabOf [zaF, zaT]
theorem zgw : TabOk Tryz.prog tab5e := zz _
@[go_sem] theorem zmS (args : List AV) : tab5e 138 args = (zaF).e args := rfl
@[go_sem] theorem znY (args : List AV) : tab5e 32 args = (zaT).e args := rfl
theorem zsq (d : Disk) (p : Plan) (at_ : Int) (hd : DiskOk d) (hp : PlanOk p) (hl : p.targets.length = p.texts.length) : ACall Tryz.prog 130 0 [diskA d, planA p, .d (.int .i64 at_)] [] (fun r _ => r = .tup [.d (.str (plook d p at_).1), .d (.int .i64 (plook d p at_).2)]) := by
 refine zk Tryz.func130 rfl (zu Tryz.func130 (by kernel_rfl) rfl) Tryz.ntmps130 (by simp) (fun base => ?_)
 have ht := hp.targets
 have hsw := zlU p.targets at_ 0
 rcases zbx p.targets at_ with hk | ⟨k, hk, hkl⟩
 ·have hk' := hk
  unfold pfind at hk'
  repeat' (first | ((first | refine za tab5e (zgw) (fun K hK => ?_) | refine zc tab5e (zgw) ?_ | refine zh ?_ | refine zi ?_ | refine zn ?_); simp only [go_sem, aeq, aeq.aeqF, simprocAttr, hsw, hk', Tryz.results130]) | refine zq (fun K hK => ?_) | refine zf rfl ?_ | refine zg rfl ?_ | refine zp rfl (fun hc => ?_) (fun hc => ?_) | (refine hK _ ?_; clear hK K) | with_reducible refine And.intro ?_ ?_ | omega | assumption | clear hK K)
  rw [plook, hk, if_neg (by omega)]
 ·have hk' := hk
  unfold pfind at hk'
  obtain ⟨s, hq⟩ := zae (l := p.texts) (i := k) (by omega)
  have hrow := zbi (g := strD) hq
  simp only [strD] at hrow
  have h1 : decide ((0 : Int) ≤ (k : Int)) = true := decide_eq_true (by omega)
  repeat' (first | ((first | refine za tab5e (zgw) (fun K hK => ?_) | refine zc tab5e (zgw) ?_ | refine zh ?_ | refine zi ?_ | refine zn ?_); simp only [go_sem, aeq, aeq.aeqF, simprocAttr, hsw, hk', hrow, Int.toNat_natCast, h1, Tryz.results130]) | refine zq (fun K hK => ?_) | refine zf rfl ?_ | refine zg rfl ?_ | refine zp rfl (fun hc => ?_) (fun hc => ?_) | (refine hK _ ?_; clear hK K) | with_reducible refine And.intro ?_ ?_ | omega | assumption | clear hK K)
  rw [plook, hk, if_pos (by omega), Int.toNat_natCast, List.getD_eq_getElem?_getD, hq]
  rfl
noncomputable def zaC : Ent Tryz.prog := .ofL 130 (consL zM (consL zU (consL (intT .i64) nilL))) (fun (d, p, at_, _) => (DiskOk d) ∧ (PlanOk p) ∧ (p.targets.length = p.texts.length)) (fun (d, p, at_, _) => .tup [.d (.str (plook d p at_).1), .d (.int .i64 (plook d p at_).2)]) (fun (d, p, at_, _) hp => ⟨rfl, zsq d p at_ hp.1 hp.2.1 hp.2.2⟩)
attribute [go_sem] zaC
open Go Go.Proofs
theorem zhH (l : List Int) (fl : Nat) (hl : l.length ≤ 5000) : ACall Tryz.prog 223 fl [.d (.sl 1 (l.map intD))] [] (fun r h' => r = .osl fl 1 l.length 0 l.length ∧ h' = [(fl, .arr 1 (l.map intD))]) := by
 refine zk Tryz.func223 rfl (zu Tryz.func223 (by kernel_rfl) rfl) Tryz.ntmps223 (by simp) (fun base => ?_)
 repeat' ((fail_if_success refine hds 2 (by rfl) ?_); first | ((first | refine za noTab (zb _) (fun K hK => ?_) | refine zc noTab (zb _) ?_ | refine zh ?_ | refine zi ?_ | refine zn ?_); simp only [go_sem, aeq, aeq.aeqF, simprocAttr, Tryz.results223]) | refine zq (fun K hK => ?_) | refine zf rfl ?_ | refine zg rfl ?_ | refine zp rfl (fun hc => ?_) (fun hc => ?_) | (refine hK _ ?_; clear hK K) | refine fun (nb : Bool) (hnb : nb = true → _) => ?_ | with_reducible refine And.intro ?_ ?_ | omega | assumption | clear hK K)
 ·refine za noTab (zb _) (fun K hK => ?_); simp only [go_sem, aeq, aeq.aeqF, simprocAttr]
  (first | (refine hK _ ?_; clear hK K) | (clear hK K; refine hK _ ?_; clear hK K) | (clear hK K; clear hK K; refine hK _ ?_; clear hK K) | (clear hK K; clear hK K; clear hK K; refine hK _ ?_; clear hK K) | (clear hK K; clear hK K; clear hK K; clear hK K; refine hK _ ?_; clear hK K))
  refine zgm 2 1 rfl ?_
  have h0 : l = [] := List.map_eq_nil_iff.1 (hnb hc)
  subst h0
  repeat' (first | ((first | refine za noTab (zb _) (fun K hK => ?_) | refine zc noTab (zb _) ?_ | refine zh ?_ | refine zi ?_ | refine zn ?_); simp only [go_sem, aeq, aeq.aeqF, simprocAttr, Tryz.results223]) | refine zq (fun K hK => ?_) | refine zf rfl ?_ | refine zg rfl ?_ | refine zp rfl (fun hc => ?_) (fun hc => ?_) | (refine hK _ ?_; clear hK K) | refine fun (nb : Bool) (hnb : nb = true → _) => ?_ | with_reducible refine And.intro ?_ ?_ | omega | assumption | clear hK K)
  all_goals rfl
theorem zhI (l : List Txt) (fl : Nat) (hl : l.length ≤ 5000) : ACall Tryz.prog 224 fl [.d (.sl 1 (l.map strD))] [] (fun r h' => r = .osl fl 1 l.length 0 l.length ∧ h' = [(fl, .arr 1 (l.map strD))]) := by
 refine zk Tryz.func224 rfl (zu Tryz.func224 (by kernel_rfl) rfl) Tryz.ntmps224 (by simp) (fun base => ?_)
 repeat' ((fail_if_success refine hds 2 (by rfl) ?_); first | ((first | refine za noTab (zb _) (fun K hK => ?_) | refine zc noTab (zb _) ?_ | refine zh ?_ | refine zi ?_ | refine zn ?_); simp only [go_sem, aeq, aeq.aeqF, simprocAttr, Tryz.results224]) | refine zq (fun K hK => ?_) | refine zf rfl ?_ | refine zg rfl ?_ | refine zp rfl (fun hc => ?_) (fun hc => ?_) | (refine hK _ ?_; clear hK K) | refine fun (nb : Bool) (hnb : nb = true → _) => ?_ | with_reducible refine And.intro ?_ ?_ | omega | assumption | clear hK K)
 ·refine za noTab (zb _) (fun K hK => ?_); simp only [go_sem, aeq, aeq.aeqF, simprocAttr]
  (first | (refine hK _ ?_; clear hK K) | (clear hK K; refine hK _ ?_; clear hK K) | (clear hK K; clear hK K; refine hK _ ?_; clear hK K) | (clear hK K; clear hK K; clear hK K; refine hK _ ?_; clear hK K) | (clear hK K; clear hK K; clear hK K; clear hK K; refine hK _ ?_; clear hK K))
  refine zgm 2 1 rfl ?_
  have h0 : l = [] := List.map_eq_nil_iff.1 (hnb hc)
  subst h0
  repeat' (first | ((first | refine za noTab (zb _) (fun K hK => ?_) | refine zc noTab (zb _) ?_ | refine zh ?_ | refine zi ?_ | refine zn ?_); simp only [go_sem, aeq, aeq.aeqF, simprocAttr, Tryz.results224]) | refine zq (fun K hK => ?_) | refine zf rfl ?_ | refine zg rfl ?_ | refine zp rfl (fun hc => ?_) (fun hc => ?_) | (refine hK _ ?_; clear hK K) | refine fun (nb : Bool) (hnb : nb = true → _) => ?_ | with_reducible refine And.intro ?_ ?_ | omega | assumption | clear hK K)
  all_goals rfl
noncomputable def tab5f : Tab := tabOf [zbm, zaF]
theorem zay : TabOk Tryz.prog tab5f := zz _
@[go_sem] theorem zmX (args : List AV) : tab5f 203 args = (zbm).e args := rfl
@[go_sem] theorem zmY (args : List AV) : tab5f 138 args = (zaF).e args := rfl
theorem ztY (l : List Int) (h : l.length ≤ 5000) (fl : Nat) : ACall Tryz.prog 223 fl [.d (.sl 1 (l.map intD))] [] (fun r h' => r = .osl fl 1 (l.map intD).length 0 (l.map intD).length ∧ h' = [(fl, .arr 1 (l.map intD))]) := by
 rw [List.length_map]; exact zhH l fl h
theorem ztZ (l : List Txt) (h : l.length ≤ 5000) (fl : Nat) : ACall Tryz.prog 224 fl [.d (.sl 1 (l.map strD))] [] (fun r h' => r = .osl fl 1 (l.map strD).length 0 (l.map strD).length ∧ h' = [(fl, .arr 1 (l.map strD))]) := by
 rw [List.length_map]; exact zhI l fl h
theorem zuG (p : Plan) (at_ : Int) (s : Txt) (hp : PlanOk p) (hl : p.targets.length = p.texts.length) (h24 : p.targets.length ≤ 24) : ACall Tryz.prog 210 0 [planA p, .d (.int .i64 at_), .d (.str s)] [] (fun r _ => r = .tup [planA (pset p at_ s).1, .d (.int .i64 (pset p at_ s).2)]) := by
 refine zA ?_
 refine zk Tryz.func210 rfl (zu Tryz.func210 (by kernel_rfl) rfl) Tryz.ntmps210 (by simp) (fun base => ?_)
 have hsw := zlU p.targets at_ 0
 rcases zbx p.targets at_ with hk | ⟨k, hk, hkl⟩
 ·have hk' := hk
  unfold pfind at hk'
  repeat' (first | ((first | refine za tab5f (zay) (fun K hK => ?_) | refine zc tab5f (zay) ?_ | refine zE tab5f [223, 224] (zay) mx (fun K hK => ?_) | refine zF tab5f [223, 224] (zay) mx ?_ | refine zh ?_ | refine zi ?_ | refine zn ?_); simp only [go_sem, aeq, aeq.aeqF, simprocAttr, hsw, hk', Tryz.results210]) | refine zq (fun K hK => ?_) | refine zo ?_ | refine zf rfl ?_ | refine zg rfl ?_ | refine zp rfl (fun hc => ?_) (fun hc => ?_) | (refine hK _ ?_; clear hK K) | refine fun (nb : Bool) (hnb : nb = true → _) => ?_ | with_reducible refine And.intro ?_ ?_ | (refine (show zah _ _ = true from ?_); kernel_rfl) | omega | assumption | clear hK K)
  all_goals first | (simp_all [pset]; done) | skip
  refine ⟨_, _, ztY p.targets (by omega), _, _, ztZ p.texts (by omega), by kernel_rfl, hK _ ?_⟩
  clear hK K
  simp only [List.length_map]
  repeat' (first | ((first | refine za tab5f (zay) (fun K hK => ?_) | refine zc tab5f (zay) ?_ | refine zE tab5f [] (zay) mx (fun K hK => ?_) | refine zF tab5f [] (zay) mx ?_ | refine zh ?_ | refine zi ?_ | refine zn ?_); simp only [go_sem, aeq, aeq.aeqF, simprocAttr, hsw, hk', Tryz.results210]) | refine zq (fun K hK => ?_) | refine zo ?_ | refine zf rfl ?_ | refine zg rfl ?_ | refine zp rfl (fun hc => ?_) (fun hc => ?_) | (refine hK _ ?_; clear hK K) | refine fun (nb : Bool) (hnb : nb = true → _) => ?_ | with_reducible refine And.intro ?_ ?_ | (refine (show zah _ _ = true from ?_); kernel_rfl) | omega | assumption | clear hK K)
  all_goals first | (simp_all [pset]; done) | skip
  rw [zd6 intD p.targets at_ [D.int .i64 at_] rfl, zd6 strD p.texts s [D.str s] rfl]
  by_cases h6 : 24 ≤ (p.targets.length : Int)
  ·exfalso; simp_all; omega
  ·simp_all [pset]
   simp only [if_neg (show ¬ (24 : Int) ≤ p.texts.length by omega)]
   simp
 ·have hk' := hk
  unfold pfind at hk'
  have h1 : decide ((0 : Int) ≤ (k : Int)) = true := decide_eq_true (by omega)
  repeat' (first | ((first | refine za tab5f (zay) (fun K hK => ?_) | refine zc tab5f (zay) ?_ | refine zE tab5f [223, 224] (zay) mx (fun K hK => ?_) | refine zF tab5f [223, 224] (zay) mx ?_ | refine zh ?_ | refine zi ?_ | refine zn ?_); simp only [go_sem, aeq, aeq.aeqF, simprocAttr, hsw, hk', Tryz.results210]) | refine zq (fun K hK => ?_) | refine zo ?_ | refine zf rfl ?_ | refine zg rfl ?_ | refine zp rfl (fun hc => ?_) (fun hc => ?_) | (refine hK _ ?_; clear hK K) | refine fun (nb : Bool) (hnb : nb = true → _) => ?_ | with_reducible refine And.intro ?_ ?_ | (refine (show zah _ _ = true from ?_); kernel_rfl) | omega | assumption | clear hK K)
  all_goals first | (simp_all [pset]; done) | skip
  refine ⟨_, _, ztY p.targets (by omega), _, _, ztZ p.texts (by omega), by kernel_rfl, hK _ ?_⟩
  clear hK K
  simp only [List.length_map]
  repeat' (first | ((first | refine za tab5f (zay) (fun K hK => ?_) | refine zc tab5f (zay) ?_ | refine zE tab5f [] (zay) mx (fun K hK => ?_) | refine zF tab5f [] (zay) mx ?_ | refine zh ?_ | refine zi ?_ | refine zn ?_); simp only [go_sem, aeq, aeq.aeqF, simprocAttr, hsw, hk', h1, Int.toNat_natCast, Tryz.results210]) | refine zq (fun K hK => ?_) | refine zo ?_ | refine zf rfl ?_ | refine zg rfl ?_ | refine zp rfl (fun hc => ?_) (fun hc => ?_) | (refine hK _ ?_; clear hK K) | refine fun (nb : Bool) (hnb : nb = true → _) => ?_ | with_reducible refine And.intro ?_ ?_ | (refine (show zah _ _ = true from ?_); kernel_rfl) | omega | assumption | clear hK K)
  all_goals first | (simp_all [pset]; done) | skip
  rw [zpv (by omega), zlS (by simp)]
  simp_all [pset]
noncomputable def zdG : Ent Tryz.prog := .ofL 210 (consL zU (consL (intT .i64) (consL strT nilL))) (fun (p, at_, s, _) => (PlanOk p) ∧ (p.targets.length = p.texts.length) ∧ (p.targets.length ≤ 24)) (fun (p, at_, s, _) => .tup [planA (pset p at_ s).1, .d (.int .i64 (pset p at_ s).2)]) (fun (p, at_, s, _) hp => ⟨rfl, zuG p at_ s hp.1 hp.2.1 hp.2.2⟩)
attribute [go_sem] zdG
open Go Go.Proofs
def pfitZ : List Int → List (Int × Txt) → Bool
 | _, [] => true
 | seen, q :: r => secOk q.1 && !seen.contains q.1 && ((q.2.length : Int) == 64) && pfitZ (seen ++ [q.1]) r
theorem zhd : ∀ (t : List Int) (s : List Txt) (seen : List Int), pfitL seen t s = pfitZ seen (t.zip s)
 | [], s, seen => by simp [pfitL, pfitZ]
 | t :: r, [], seen => by simp [pfitL, pfitZ]
 | t :: r, s :: q, seen => by simp only [pfitL, pfitZ, List.zip_cons_cons, zhd r q]
theorem zfI : ∀ (l : List (Int × Txt)) (seen : List Int) (q : Int × Txt), pfitZ seen (l ++ [q]) = (pfitZ seen l && (secOk q.1 && !(seen ++ l.map (·.1)).contains q.1 && ((q.2.length : Int) == 64)))
 | [], seen, q => by simp [pfitZ]
 | a :: l, seen, q => by
  rw [List.cons_append, pfitZ, pfitZ, zfI l, List.map_cons, List.append_assoc, List.singleton_append]
  simp only [Bool.and_assoc]
theorem zpC : ∀ (t : List Int) (s : List Txt) (k : Nat) (x : Txt) (y : Int), t[k]? = some y → t.zip (s.set k x) = (t.zip s).set k (y, x)
 | [], s, k, x, y, h => by simp at h
 | t :: r, [], k, x, y, h => by simp
 | t :: r, a :: s, 0, x, y, h => by
  have : t = y := by simpa using h
  subst this
  simp
 | t :: r, a :: s, k + 1, x, y, h => by
  simp only [List.set_cons_succ, List.zip_cons_cons]
  rw [zpC r s k x y (by simpa using h)]
theorem zjP : ∀ (l : List (Int × Txt)) (seen : List Int) (k : Nat) (y : Int) (x : Txt), (∃ z, l[k]? = some (y, z)) → (x.length : Int) = 64 → pfitZ seen l = true → pfitZ seen (l.set k (y, x)) = true
 | [], seen, k, y, x, h, hx, hf => by obtain ⟨z, h⟩ := h; simp at h
 | a :: l, seen, 0, y, x, h, hx, hf => by
  obtain ⟨z, h⟩ := h
  have : a = (y, z) := by simpa using h
  subst this
  simp only [List.set_cons_zero, pfitZ, Bool.and_eq_true] at hf ⊢
  exact ⟨⟨hf.1.1, by simpa using hx⟩, hf.2⟩
 | a :: l, seen, k + 1, y, x, h, hx, hf => by
  simp only [List.set_cons_succ, pfitZ, Bool.and_eq_true] at hf ⊢
  exact ⟨hf.1, zjP l _ k y x (by simpa using h) hx hf.2⟩
theorem pfit_iff {p : Plan} : pfit p = true ↔ p.targets.length = p.texts.length ∧ p.targets.length ≤ 24 ∧ pfitZ [] (p.targets.zip p.texts) = true := by
 simp only [pfit, Bool.and_eq_true, decide_eq_true_eq, zhd, and_assoc]
theorem zpD {l : List Int} {a : Int} (h : pfind l a = -1) : l.contains a = false := by
 have := zg2 (fun x => x == a) l 0
 unfold pfind at h
 rw [h] at this
 rw [← List.any_beq']
 simpa using this.symm
theorem zgx {p : Plan} {at_ : Int} {s : Txt} (hp : pfit p = true) : pfit (pset p at_ s).1 = true := by
 obtain ⟨h1, h2, h3⟩ := pfit_iff.1 hp
 unfold pset
 split
 ·exact hp
 rename_i hs
 have hs : secOk at_ = true := by simpa using hs
 split
 ·exact hp
 rename_i hl
 have hl : (s.length : Int) = 64 := by simpa using hl
 rcases zbx p.targets at_ with hk | ⟨k, hk, hkl⟩
 ·rw [if_neg (by omega)]
  split
  ·exact hp
  ·rename_i h24
   refine pfit_iff.2 ⟨by simp [h1], by simp; omega, ?_⟩
   rw [List.zip_append h1]
   show pfitZ [] (p.targets.zip p.texts ++ [(at_, s)]) = true
   rw [zfI, h3, hs]
   have : (p.targets.zip p.texts).map (·.1) = p.targets := by rw [List.map_fst_zip (by omega)]
   rw [List.nil_append, this, zpD hk, hl]
   rfl
 ·rw [if_pos (by omega), hk, Int.toNat_natCast]
  obtain ⟨y, hy⟩ := zae hkl
  obtain ⟨z, hz⟩ := zae (l := p.texts) (i := k) (by omega)
  refine pfit_iff.2 ⟨by simp [h1], h2, ?_⟩
  show pfitZ [] (p.targets.zip (p.texts.set k s)) = true
  rw [zpC _ _ _ _ y hy]
  exact zjP _ _ _ _ _ ⟨z, List.getElem?_zip_eq_some.2 ⟨hy, hz⟩⟩ hl h3
theorem zh8 {d : Disk} {p : Plan} {at_ off : Int} {s : Txt} (hp : pfit p = true) : pfit (zce d p at_ off s).1 = true := by
 unfold zce
 split
 ·exact hp
 split
 ·exact hp
 ·exact zgx hp
noncomputable def tab5g : Tab := tabOf [zaC, zdA, zdG]
theorem zlX : TabOk Tryz.prog tab5g := zz _
@[go_sem] theorem zrd (args : List AV) : tab5g 130 args = (zaC).e args := rfl
@[go_sem] theorem zsy (args : List AV) : tab5g 96 args = (zdA).e args := rfl
@[go_sem] theorem zsz (args : List AV) : tab5g 210 args = (zdG).e args := rfl
theorem zpE (d : Disk) (p : Plan) (at_ : Int) (off : Int) (s : Txt) (hd : DiskOk d) (hf : d.cache.all (putOk d) = true) (hp : pfit p = true) (hs : s.length ≤ 9223372036854775807) : ACall Tryz.prog 186 0 [diskA d, planA p, .d (.int .i64 at_), .d (.int .i64 off), .d (.str s)] [] (fun r _ => r = .tup [planA (zce d p at_ off s).1, .d (.int .i64 (zce d p at_ off s).2)]) := by
 refine zA ?_
 refine zk Tryz.func186 rfl (zu Tryz.func186 (by kernel_rfl) rfl) Tryz.ntmps186 (by simp) (fun base => ?_)
 obtain ⟨hl, h24, h64⟩ := zaI hp
 have hpo : PlanOk p := ⟨by omega, by omega⟩
 have hb := zjF (at_ := at_) hf hp
 repeat' (first | ((first | refine za tab5g (zlX) (fun K hK => ?_) | refine zc tab5g (zlX) ?_ | refine zh ?_ | refine zi ?_ | refine zn ?_); simp only [go_sem, aeq, aeq.aeqF, simprocAttr, Tryz.results186]) | refine zq (fun K hK => ?_) | refine zf rfl ?_ | refine zg rfl ?_ | refine zp rfl (fun hc => ?_) (fun hc => ?_) | (refine hK _ ?_; clear hK K) | with_reducible refine And.intro ?_ ?_ | omega | assumption | clear hK K)
 all_goals first | (simp_all [zce]; done) | skip
noncomputable def zb3 : Ent Tryz.prog := .ofL 186 (consL zM (consL zU (consL (intT .i64) (consL (intT .i64) (consL strT nilL))))) (fun (d, p, at_, off, s, _) => (DiskOk d) ∧ (d.cache.all (putOk d) = true) ∧ (pfit p = true) ∧ (s.length ≤ 9223372036854775807)) (fun (d, p, at_, off, s, _) => .tup [planA (zce d p at_ off s).1, .d (.int .i64 (zce d p at_ off s).2)]) (fun (d, p, at_, off, s, _) hp => ⟨rfl, zpE d p at_ off s hp.1 hp.2.1 hp.2.2.1 hp.2.2.2⟩)
attribute [go_sem] zb3
open Go Go.Proofs
theorem zkH (p : Plan) : ACall Tryz.prog 202 0 [planA p] [] (fun r _ => r = .fn (.func 218) [] [.dp (planC p)]) := by
 refine zA ?_
 refine zk Tryz.func202 rfl (zu Tryz.func202 (by kernel_rfl) rfl) Tryz.ntmps202 (by simp) (fun base => ?_)
 repeat' (first | ((first | refine za noTab (zb _) (fun K hK => ?_) | refine zc noTab (zb _) ?_ | refine zh ?_ | refine zi ?_ | refine zn ?_); simp only [go_sem, aeq, aeq.aeqF, simprocAttr, Tryz.results202]) | refine zq (fun K hK => ?_) | (refine hK _ ?_; clear hK K) | refine fun (nb : Bool) (hnb : nb = true → _) => ?_ | with_reducible refine And.intro ?_ ?_ | omega | assumption | clear hK K)
noncomputable def zbn : Ent Tryz.prog := .ofL 202 (consL zU nilL) (fun (p, _) => True) (fun (p, _) => .fn (.func 218) [] [.dp (planC p)]) (fun (p, _) hp => ⟨rfl, zkH p⟩)
attribute [go_sem] zbn
def zbo (q : Int × Txt) : List AV := [.d (.int .i64 q.1), .d (.str q.2)]
def unI : List AV → Int × Txt
 | [.d (.int _ n), .d (.str s)] => (n, s)
 | _ => (0, [])
theorem zc2 (ys : List (Int × Txt)) : (ys.map zbo).map unI = ys := by
 rw [List.map_map]
 exact List.map_id'' (fun _ => rfl) ys
abbrev Sst (p : Plan) := { q : Nat × List (List AV) // q.1 ≤ p.targets.length ∧ q.2 ++ ((p.targets.zip p.texts).drop q.1).map zbo = (p.targets.zip p.texts).map zbo }
theorem zhe (p : Plan) (hp : PlanOk p) (hl : p.targets.length = p.texts.length) : AIter Tryz.prog 218 100 [] [.dp (planC p)] [] ((p.targets.zip p.texts).map zbo) (fun g h' => (∀ xs, g = some xs → xs = (p.targets.zip p.texts).map zbo) ∧ h' = []) := by
 refine zaE Tryz.func218 rfl (zu Tryz.func218 (by kernel_rfl) rfl) Tryz.ntmps218 rfl (by simp) (fun base y => ?_)
 repeat' (first | (refine zN (fun i => decide (i < 100)) (by simp only [inH, idsH, hsel, AV.ids, AV.idsL, AV.idsR, AObj.ids, hget, go_sem, aeq, aeq.aeqF, simprocAttr]) ?_; simp only [go_sem, aeq, aeq.aeqF, simprocAttr, hsel, keepT]; refine zn ?_; simp only [go_sem, aeq, aeq.aeqF, simprocAttr]) | ((first | refine zv noTab (zb _) (fun K hK => ?_) | refine zB noTab (zb _) ?_ | refine zh ?_ | refine zi ?_ | refine zn ?_); simp only [go_sem, aeq, aeq.aeqF, simprocAttr]) | refine zq (fun K hK => ?_) | refine zo ?_ | refine zf rfl ?_ | refine zg rfl ?_ | refine zp rfl (fun hc => ?_) (fun hc => ?_) | (refine hK _ ?_; clear hK K) | ((first | refine (show AS.le _ _ from ?_) | refine (show leH _ _ from ?_) | refine (show inH _ _ from ?_)); simp only [AS.le, leT, leH, zr, AsgK, AV.le, AV.leL, AObj.le, inH, idsT, idsH, AV.ids, AV.idsL, AV.idsR, AObj.ids, lk, hget, go_sem, aeq, aeq.aeqF, simprocAttr]) | refine fun (r2 : Rnd _) => ?_ | with_reducible refine And.intro ?_ ?_ | exact ‹_ <+: _› | omega | assumption | clear hK K)
 have h1 := hp.targets
 refine zL (fun q : Sst p => ⟨[(0, true, .fn (.yield y.yl) [] []), (1, true, .dp [.d (.sl 1 (p.targets.map intD)), .d (.sl 1 (p.texts.map strD))]), (6, true, .d (.sl 1 (p.targets.map intD))), (7, true, .d (.int .i64 p.targets.length)), (8, true, .d (.int .i64 q.1.1))], [], some q.1.2⟩) (fun q => p.targets.length - q.1.1) ⟨(0, []), Nat.zero_le _, rfl⟩ (by simp only [AS.le, leT, leH, zr, AsgK, AV.le, AV.leL, AObj.le, inH, idsT, idsH, AV.ids, AV.idsL, AV.idsR, AObj.ids, lk, hget, go_sem, aeq, aeq.aeqF, simprocAttr] <;> and_intros <;> rfl) (fun q => ?_)
 obtain ⟨⟨i, xs⟩, hi, hf⟩ := q
 simp only at hi hf ⊢
 rcases zad intD p.targets i hi with ⟨m, hq, hlt, hcmp, hrow, hdr, htk⟩ | ⟨hend, hcmp⟩
 ·obtain ⟨s, hq'⟩ := zae (l := p.texts) (i := i) (by omega)
  have hrow' := zbi (g := strD) hq'
  simp only [intD] at hrow
  simp only [strD] at hrow'
  have hwi := zP (i := i) (by omega)
  have hcmp' : decide ((i : Int) < (p.texts.length : Int)) = true := by rw [← hl]; exact hcmp
  have hz : (p.targets.zip p.texts)[i]? = some (m, s) := List.getElem?_zip_eq_some.2 ⟨hq, hq'⟩
  rw [zcS hz, List.map_cons] at hf
  have hpre : (xs ++ [zbo (m, s)]) <+: (p.targets.zip p.texts).map zbo := by rw [← hf]; simp
  simp only [zbo] at hpre
  repeat' (first | (refine zN (fun i => decide (i < 100)) (by simp only [inH, idsH, hsel, AV.ids, AV.idsL, AV.idsR, AObj.ids, hget, go_sem, aeq, aeq.aeqF, simprocAttr]) ?_; simp only [go_sem, aeq, aeq.aeqF, simprocAttr, hcmp, hcmp', hrow, hrow', Int.toNat_natCast, hsel, keepT]; refine zn ?_; simp only [go_sem, aeq, aeq.aeqF, simprocAttr, hcmp, hcmp', hrow, hrow', Int.toNat_natCast]) | ((first | refine zv noTab (zb _) (fun K hK => ?_) | refine zB noTab (zb _) ?_ | refine zh ?_ | refine zi ?_ | refine zn ?_); simp only [go_sem, aeq, aeq.aeqF, simprocAttr, hcmp, hcmp', hrow, hrow', Int.toNat_natCast]) | refine zq (fun K hK => ?_) | refine zo ?_ | refine zf rfl ?_ | refine zg rfl ?_ | refine zp rfl (fun hc => ?_) (fun hc => ?_) | (refine hK _ ?_; clear hK K) | ((first | refine (show AS.le _ _ from ?_) | refine (show leH _ _ from ?_) | refine (show inH _ _ from ?_)); simp only [AS.le, leT, leH, zr, AsgK, AV.le, AV.leL, AObj.le, inH, idsT, idsH, AV.ids, AV.idsL, AV.idsR, AObj.ids, lk, hget, go_sem, aeq, aeq.aeqF, simprocAttr, hcmp, hcmp', hrow, hrow', Int.toNat_natCast]) | refine fun (r2 : Rnd _) => ?_ | with_reducible refine And.intro ?_ ?_ | exact ‹_ <+: _› | omega | assumption | clear hK K)
  exact ⟨⟨(i + 1, xs ++ [zbo (m, s)]), by omega, by rw [← hf]; simp⟩, by simp only [AS.le, leT, leH, zr, AsgK, AV.le, AV.leL, AObj.le, inH, idsT, idsH, AV.ids, AV.idsL, AV.idsR, AObj.ids, lk, hget, go_sem, aeq, aeq.aeqF, simprocAttr, hwi, zbo], by simp; omega⟩
 ·repeat' (first | (refine zN (fun i => decide (i < 100)) (by simp only [inH, idsH, hsel, AV.ids, AV.idsL, AV.idsR, AObj.ids, hget, go_sem, aeq, aeq.aeqF, simprocAttr]) ?_; simp only [go_sem, aeq, aeq.aeqF, simprocAttr, hcmp, hsel, keepT]; refine zn ?_; simp only [go_sem, aeq, aeq.aeqF, simprocAttr, hcmp]) | ((first | refine zv noTab (zb _) (fun K hK => ?_) | refine zB noTab (zb _) ?_ | refine zh ?_ | refine zi ?_ | refine zn ?_); simp only [go_sem, aeq, aeq.aeqF, simprocAttr, hcmp]) | refine zq (fun K hK => ?_) | refine zo ?_ | refine zf rfl ?_ | refine zg rfl ?_ | refine zp rfl (fun hc => ?_) (fun hc => ?_) | (refine hK _ ?_; clear hK K) | ((first | refine (show AS.le _ _ from ?_) | refine (show leH _ _ from ?_) | refine (show inH _ _ from ?_)); simp only [AS.le, leT, leH, zr, AsgK, AV.le, AV.leL, AObj.le, inH, idsT, idsH, AV.ids, AV.idsL, AV.idsR, AObj.ids, lk, hget, go_sem, aeq, aeq.aeqF, simprocAttr, hcmp]) | refine fun (r2 : Rnd _) => ?_ | with_reducible refine And.intro ?_ ?_ | exact ‹_ <+: _› | omega | assumption | clear hK K)
  rintro zs rfl
  rw [← hf, List.drop_of_length_le (by rw [List.length_zip]; omega)]
  simp
def layF (d : Disk) (l : List (Int × Txt)) : Disk := l.foldl (fun d q => (zQ d q.1 q.2).1) d
@[go_sem] theorem layF_nil (d : Disk) : layF d [] = d := rfl
theorem zpF : ∀ (l : List (Int × Txt)) {d : Disk}, DiskOk d → DiskOk (layF d l)
 | [], _, h => h
 | q :: l, d, h => zpF l (zg7 h q.1 q.2)
theorem zpG (d : Disk) (l : List (Int × Txt)) (q : Int × Txt) : layF d (l ++ [q]) = (zQ (layF d l) q.1 q.2).1 := by simp [layF]
theorem zgy : ∀ (l r : List (Int × Txt)) (d : Disk), (layL d l).2 = 0 → layL d (l ++ r) = layL (layF d l) r
 | [], r, d, _ => rfl
 | q :: l, r, d, h => by
  rw [layL] at h
  rw [List.cons_append, layL]
  split
  ·rename_i hq
   rw [if_pos hq] at h
   exact absurd h hq
  ·rename_i hq
   rw [if_neg hq] at h
   exact zgy l r _ h
noncomputable def tab5h : Tab := tabOf [zbn, zaG]
theorem zcf : TabOk Tryz.prog tab5h := zz _
@[go_sem] theorem zmZ (args : List AV) : tab5h 202 args = (zbn).e args := rfl
@[go_sem] theorem zm0 (args : List AV) : tab5h 153 args = (zaG).e args := rfl
theorem zuH (d : Disk) (p : Plan) (hd : DiskOk d) (hp : PlanOk p) (hl : p.targets.length = p.texts.length) : ACall Tryz.prog 172 0 [diskA d, planA p] [] (fun r _ => r = .tup [diskA (play d p).1, .d (.int .i64 (play d p).2)]) := by
 refine zA ?_
 refine zk Tryz.func172 rfl (zu Tryz.func172 (by kernel_rfl) rfl) Tryz.ntmps172 (by simp) (fun base => ?_)
 repeat' (first | ((first | refine za tab5h (zcf) (fun K hK => ?_) | refine zc tab5h (zcf) ?_ | refine ze tab5h (zcf) mx (fun K hK => ?_) | refine zj tab5h (zcf) mx ?_ | refine zh ?_ | refine zi ?_ | refine zn ?_ | refine zal ?_); simp only [go_sem, aeq, aeq.aeqF, simprocAttr, Tryz.results172]) | refine zq (fun K hK => ?_) | refine zo ?_ | refine zan ?_ | refine zf rfl ?_ | refine zg rfl ?_ | refine zp rfl (fun hc => ?_) (fun hc => ?_) | (refine hK _ ?_; clear hK K) | ((first | refine (show AS.le _ _ from ?_) | refine (show leH _ _ from ?_) | refine (show inH _ _ from ?_)); simp only [AS.le, leT, leH, zr, AsgK, AV.le, AV.leL, AObj.le, inH, idsT, idsH, AV.ids, AV.idsL, AV.idsR, AObj.ids, lk, hget, go_sem, aeq, aeq.aeqF, simprocAttr]) | refine fun (r2 : Rnd _) => ?_ | with_reducible refine And.intro ?_ ?_ | exact ‹_ <+: _› | (refine (show zt _ _ = true from ?_); kernel_rfl) | omega | assumption | clear hK K)
 obtain ⟨I, hI⟩ : ∃ I : List (List AV) → AHeap × Option (List (List AV)), I = fun xs => ([(3, .var [.d (.int .i64 0)]), (2, .var [.d (.str []), .nils 2, .d (.int .i64 0), .d (.bool false), .nils 1]), (1, .var [.d (.sl 1 (p.targets.map intD)), .d (.sl 1 (p.texts.map strD))]), (0, (.var [.d (.str (layF d (xs.map unI)).data), .d (.sl 2 ((layF d (xs.map unI)).cache.map putD)), .d (.int .i64 (layF d (xs.map unI)).fuse), .d (.bool (layF d (xs.map unI)).off), .d (.sl 1 ((layF d (xs.map unI)).bad.map intD))]))], some []) := ⟨_, rfl⟩
 obtain ⟨G, hG⟩ : ∃ G : List (List AV) → Prop, G = fun xs => (layL d (xs.map unI)).2 = 0 := ⟨_, rfl⟩
 obtain ⟨J, hJ⟩ : ∃ J : Code → AHeap → Option (List (List AV)) → Prop, J = fun c h g => c = .exit 0 ∧ g = some [] ∧ ∃ D e, play d p = (D, e) ∧ h = [(3, .var [.d (.int .i64 e)]), (2, .var [.d (.str []), .nils 2, .d (.int .i64 0), .d (.bool false), .nils 1]), (1, .var [.d (.sl 1 (p.targets.map intD)), .d (.sl 1 (p.texts.map strD))]), (0, (.var [.d (.str D.data), .d (.sl 2 (D.cache.map putD)), .d (.int .i64 D.fuse), .d (.bool D.off), .d (.sl 1 (D.bad.map intD))]))] := ⟨_, rfl⟩
 refine za0 100 G I J (zhe p hp hl) (by simp only [go_sem, aeq, aeq.aeqF, simprocAttr]) rfl (zT rfl) (by simp [cxOf, cxY]) rfl (by rw [hG]; first | trivial | rfl | simp) (by rw [hI]; simp only [AS.le, leT, leH, zr, AsgK, AV.le, AV.leL, AObj.le, inH, idsT, idsH, AV.ids, AV.idsL, AV.idsR, AObj.ids, lk, hget, go_sem, aeq, aeq.aeqF, simprocAttr] <;> simp [AV.leL, AV.le]) (by rw [hI]; simp only [AS.le, leT, leH, zr, AsgK, AV.le, AV.leL, AObj.le, inH, idsT, idsH, AV.ids, AV.idsL, AV.idsR, AObj.ids, lk, hget, go_sem, aeq, aeq.aeqF, simprocAttr] <;> simp) (by rw [hI] <;> rfl) (by intro x hx; obtain ⟨q, _, rfl⟩ := List.mem_map.1 hx; rfl) (by intro t ht; simp at ht; first | (rcases ht with rfl | rfl <;> simp [cxOf, cxY] <;> done) | (subst ht; simp [cxOf, cxY])) ?_ ?_ ?_
 ·intro xs x hpre hgd l1 r1
  obtain ⟨ys, ⟨n, s⟩, zs, rfl, rfl, hzl⟩ := zcV hpre
  rw [hG] at hgd
  simp only [zc2] at hgd
  have hx := zpF ys hd
  have hall : play d p = layL (layF d ys) ((n, s) :: zs) := by rw [play, hzl, zgy _ _ _ hgd]
  rw [layL] at hall
  simp only [zbo]
  refine aw_le ⟨[(11, true, .d (.int .i64 n)), (12, true, .d (.str s)), (2, true, .vp 0 0), (3, true, .vp 1 0), (4, true, .vp 2 0), (6, true, .vp 3 0)], [(3, .var [.d (.int .i64 0)]), (2, .var [.d (.str []), .nils 2, .d (.int .i64 0), .d (.bool false), .nils 1]), (1, .var [.d (.sl 1 (p.targets.map intD)), .d (.sl 1 (p.texts.map strD))]), (0, (.var [.d (.str (layF d ys).data), .d (.sl 2 ((layF d ys).cache.map putD)), .d (.int .i64 (layF d ys).fuse), .d (.bool (layF d ys).off), .d (.sl 1 ((layF d ys).bad.map intD))]))], some []⟩ (by rw [hI]; simp only [zc2]; simp only [AS.le, leT, leH, zr, AsgK, AV.le, AV.leL, AObj.le, inH, idsT, idsH, AV.ids, AV.idsL, AV.idsR, AObj.ids, lk, hget, go_sem, aeq, aeq.aeqF, simprocAttr]) ?_
  have hsn : ((ys.map zbo ++ [[AV.d (.int .i64 n), AV.d (.str s)]]).map unI) = ys ++ [(n, s)] := by
   rw [List.map_append, zc2]; rfl
  have hsf : layF d (ys ++ [(n, s)]) = (zQ (layF d ys) n s).1 := zpG _ _ _
  repeat' (first | ((first | refine za tab5h (zcf) (fun K hK => ?_) | refine zc tab5h (zcf) ?_ | refine ze tab5h (zcf) mx (fun K hK => ?_) | refine zj tab5h (zcf) mx ?_ | refine zh ?_ | refine zi ?_ | refine zn ?_ | refine zal ?_); simp only [go_sem, aeq, aeq.aeqF, simprocAttr, hI, hsn, hsf, Tryz.results172]) | refine zq (fun K hK => ?_) | refine zo ?_ | refine zan ?_ | refine zf rfl ?_ | refine zg rfl ?_ | refine zp rfl (fun hc => ?_) (fun hc => ?_) | (refine hK _ ?_; clear hK K) | ((first | refine (show AS.le _ _ from ?_) | refine (show leH _ _ from ?_) | refine (show inH _ _ from ?_)); simp only [AS.le, leT, leH, zr, AsgK, AV.le, AV.leL, AObj.le, inH, idsT, idsH, AV.ids, AV.idsL, AV.idsR, AObj.ids, lk, hget, go_sem, aeq, aeq.aeqF, simprocAttr, hI, hsn, hsf]) | refine fun (r2 : Rnd _) => ?_ | with_reducible refine And.intro ?_ ?_ | exact ‹_ <+: _› | (refine (show zt _ _ = true from ?_); kernel_rfl) | omega | assumption | clear hK K)
  all_goals first | rfl | skip
  ·have hc : (zQ (layF d ys) n s).2 ≠ 0 := by simpa using hc
   rw [hJ]
   exact ⟨rfl, rfl, _, _, by rw [hall, if_pos hc], rfl⟩
  ·have hc : (zQ (layF d ys) n s).2 = 0 := by simpa using hc
   rw [hG]
   simp only [hsn]
   rw [zgy _ _ _ hgd, layL, if_neg (by simpa using hc)]
   rfl
  ·have hc : (zQ (layF d ys) n s).2 = 0 := by simpa using hc
   rw [hc]
 ·intro hgd
  rw [hG] at hgd
  simp only [zc2] at hgd
  have hall : play d p = (layF d (p.targets.zip p.texts), 0) := by
   have := zgy (p.targets.zip p.texts) [] d hgd
   rw [List.append_nil] at this
   rw [play, this, layL]
  rw [hI]
  simp only [zc2]
  repeat' (first | ((first | refine za noTab (zb _) (fun K hK => ?_) | refine zc noTab (zb _) ?_ | refine ze noTab (zb _) mx (fun K hK => ?_) | refine zj noTab (zb _) mx ?_ | refine zh ?_ | refine zi ?_ | refine zn ?_ | refine zal ?_); simp only [go_sem, aeq, aeq.aeqF, simprocAttr, Tryz.results172]) | refine zq (fun K hK => ?_) | refine zo ?_ | refine zan ?_ | refine zf rfl ?_ | refine zg rfl ?_ | refine zp rfl (fun hc => ?_) (fun hc => ?_) | (refine hK _ ?_; clear hK K) | ((first | refine (show AS.le _ _ from ?_) | refine (show leH _ _ from ?_) | refine (show inH _ _ from ?_)); simp only [AS.le, leT, leH, zr, AsgK, AV.le, AV.leL, AObj.le, inH, idsT, idsH, AV.ids, AV.idsL, AV.idsR, AObj.ids, lk, hget, go_sem, aeq, aeq.aeqF, simprocAttr]) | refine fun (r2 : Rnd _) => ?_ | with_reducible refine And.intro ?_ ?_ | exact ‹_ <+: _› | (refine (show zt _ _ = true from ?_); kernel_rfl) | omega | assumption | clear hK K)
  rw [hall]
 ·rw [hJ]
  rintro c h3 g3 ⟨rfl, rfl, D, e, hall, rfl⟩
  repeat' (first | ((first | refine za noTab (zb _) (fun K hK => ?_) | refine zc noTab (zb _) ?_ | refine ze noTab (zb _) mx (fun K hK => ?_) | refine zj noTab (zb _) mx ?_ | refine zh ?_ | refine zi ?_ | refine zn ?_ | refine zal ?_); simp only [go_sem, aeq, aeq.aeqF, simprocAttr, Tryz.results172]) | refine zq (fun K hK => ?_) | refine zo ?_ | refine zan ?_ | refine zf rfl ?_ | refine zg rfl ?_ | refine zp rfl (fun hc => ?_) (fun hc => ?_) | (refine hK _ ?_; clear hK K) | ((first | refine (show AS.le _ _ from ?_) | refine (show leH _ _ from ?_) | refine (show inH _ _ from ?_)); simp only [AS.le, leT, leH, zr, AsgK, AV.le, AV.leL, AObj.le, inH, idsT, idsH, AV.ids, AV.idsL, AV.idsR, AObj.ids, lk, hget, go_sem, aeq, aeq.aeqF, simprocAttr]) | refine fun (r2 : Rnd _) => ?_ | with_reducible refine And.intro ?_ ?_ | exact ‹_ <+: _› | (refine (show zt _ _ = true from ?_); kernel_rfl) | omega | assumption | clear hK K)
  rw [hall]
noncomputable def zhf : Ent Tryz.prog := .ofL 172 (consL zM (consL zU nilL)) (fun (d, p, _) => (DiskOk d) ∧ (PlanOk p) ∧ (p.targets.length = p.texts.length)) (fun (d, p, _) => .tup [diskA (play d p).1, .d (.int .i64 (play d p).2)]) (fun (d, p, _) hp => ⟨rfl, zuH d p hp.1 hp.2.1 hp.2.2⟩)
attribute [go_sem] zhf
open Go Go.Proofs
def seenM (l : List Int) : List (D × D) := l.map fun n => (.int .i64 n, .bool true)
@[go_sem] theorem zvI : seenM [] = [] := rfl
theorem zm1 (l : List Int) : ((seenM l).all fun p => alike (.int .i64) p.1) = true := by
 simp [seenM, alike]
theorem zuI (n m : Int) (v : D) (l : List (D × D)) : mat (.int .i64 n) ((.int .i64 m, v) :: l) = if n = m then some v else mat (.int .i64 n) l := by
 by_cases h : n = m <;> simp [mat, sameS, h]
theorem zsA (n m : Int) (w v : D) (l : List (D × D)) : mput (.int .i64 n) w ((.int .i64 m, v) :: l) = if n = m then (.int .i64 n, w) :: l else (.int .i64 m, v) :: mput (.int .i64 n) w l := by
 by_cases h : n = m <;> simp [mput, sameS, h]
theorem zlY (n : Int) : ∀ l : List Int, ((mat (.int .i64 n) (seenM l)).getD (.bool false)) = .bool (l.contains n)
 | [] => rfl
 | m :: l => by
  have ih := zlY n l
  have e : seenM (m :: l) = (.int .i64 m, .bool true) :: seenM l := rfl
  rw [e, zuI, List.contains_cons]
  by_cases h : n = m
  ·subst h; simp
  ·rw [if_neg h, ih]
   simp [h]
theorem zlZ (n : Int) : ∀ l : List Int, l.contains n = false → mput (.int .i64 n) (.bool true) (seenM l) = seenM (l ++ [n])
 | [], _ => rfl
 | m :: l, h => by
  simp only [List.contains_cons, Bool.or_eq_false_iff] at h
  have ih := zlZ n l h.2
  have e : seenM (m :: l) = (.int .i64 m, .bool true) :: seenM l := rfl
  rw [e, zsA, if_neg (by simpa using h.1), ih]
  rfl
theorem zjQ : ∀ (l r : List (Int × Txt)) (seen : List Int), pfitZ seen (l ++ r) = (pfitZ seen l && pfitZ (seen ++ l.map (·.1)) r)
 | [], r, seen => by simp [pfitZ]
 | a :: l, r, seen => by
  rw [List.cons_append, pfitZ, pfitZ, zjQ l, List.map_cons, List.append_assoc, List.singleton_append]
  simp only [Bool.and_assoc]
noncomputable def tab5i : Tab := tabOf [zbn, zbm]
theorem zgz : TabOk Tryz.prog tab5i := zz _
@[go_sem] theorem zm2 (args : List AV) : tab5i 202 args = (zbn).e args := rfl
@[go_sem] theorem zm3 (args : List AV) : tab5i 203 args = (zbm).e args := rfl
theorem zuJ (p : Plan) (hp : PlanOk p) : ACall Tryz.prog 160 0 [planA p] [] (fun r _ => r = .d (.bool (pfit p))) := by
 refine zA ?_
 refine zk Tryz.func160 rfl (zu Tryz.func160 (by kernel_rfl) rfl) Tryz.ntmps160 (by simp) (fun base => ?_)
 have h1 := hp.targets
 have h2 := hp.texts
 repeat' (first | ((first | refine za tab5i (zgz) (fun K hK => ?_) | refine zc tab5i (zgz) ?_ | refine zh ?_ | refine zi ?_ | refine zn ?_); simp only [go_sem, aeq, aeq.aeqF, simprocAttr, Tryz.results160]) | refine zq (fun K hK => ?_) | refine zo ?_ | refine zf rfl ?_ | refine zg rfl ?_ | refine zp rfl (fun hc => ?_) (fun hc => ?_) | (refine hK _ ?_; clear hK K) | ((first | refine (show AS.le _ _ from ?_) | refine (show leH _ _ from ?_) | refine (show inH _ _ from ?_)); simp only [AS.le, leT, leH, zr, AsgK, AV.le, AV.leL, AObj.le, inH, idsT, idsH, AV.ids, AV.idsL, AV.idsR, AObj.ids, lk, hget, go_sem, aeq, aeq.aeqF, simprocAttr]) | refine fun (r2 : Rnd _) => ?_ | with_reducible refine And.intro ?_ ?_ | exact ‹_ <+: _› | omega | assumption | refine fun (hg : (_ : Bool) = (_ : Bool)) => ?_ | clear hK K)
 ·have : pfit p = false := by
   simp only [Bool.or_eq_true, bne_iff_ne, decide_eq_true_eq] at hc
   rw [pfit]
   rcases hc with hc | hc
   ·rw [decide_eq_false (p := p.targets.length = p.texts.length) (by omega)]; simp
   ·rw [decide_eq_false (p := p.targets.length ≤ 24) (by omega)]; simp
  rw [this]
 obtain ⟨hl, h24⟩ : p.targets.length = p.texts.length ∧ p.targets.length ≤ 24 := by
  simp only [Bool.or_eq_false_iff, bne_eq_false_iff_eq, decide_eq_false_iff_not] at hc
  omega
 have hfit : pfit p = pfitZ [] (p.targets.zip p.texts) := by
  rw [pfit, decide_eq_true hl, decide_eq_true h24, zhd]; simp
 obtain ⟨I, hI⟩ : ∃ I : List (List AV) → AHeap × Option (List (List AV)), I = fun xs => ([(3, .var [.map 2]), (2, .omap (seenM ((xs.map unI).map (·.1)))), (1, .var [.d (.bool false)]), (0, .var [.d (.sl 1 (p.targets.map intD)), .d (.sl 1 (p.texts.map strD))])], some []) := ⟨_, rfl⟩
 obtain ⟨G, hG⟩ : ∃ G : List (List AV) → Prop, G = fun xs => pfitZ [] (xs.map unI) = true := ⟨_, rfl⟩
 obtain ⟨J, hJ⟩ : ∃ J : Code → AHeap → Option (List (List AV)) → Prop, J = fun c h g => c = .ret ∧ g = some [] ∧ pfit p = false ∧ ∃ m, h = [(3, .var [.map 2]), (2, .omap m), (1, .var [.d (.bool false)]), (0, .var [.d (.sl 1 (p.targets.map intD)), .d (.sl 1 (p.texts.map strD))])] := ⟨_, rfl⟩
 refine za0 100 G I J (zhe p hp hl) (by simp only [go_sem, aeq, aeq.aeqF, simprocAttr]) rfl (zT rfl) (by simp [cxOf, cxY]) rfl (by rw [hG]; first | trivial | rfl | simp) (by rw [hI]; simp only [AS.le, leT, leH, zr, AsgK, AV.le, AV.leL, AObj.le, inH, idsT, idsH, AV.ids, AV.idsL, AV.idsR, AObj.ids, lk, hget, go_sem, aeq, aeq.aeqF, simprocAttr] <;> simp [AV.leL, AV.le]) (by rw [hI]; simp only [AS.le, leT, leH, zr, AsgK, AV.le, AV.leL, AObj.le, inH, idsT, idsH, AV.ids, AV.idsL, AV.idsR, AObj.ids, lk, hget, go_sem, aeq, aeq.aeqF, simprocAttr] <;> simp) (by rw [hI] <;> rfl) (by intro x hx; obtain ⟨q, _, rfl⟩ := List.mem_map.1 hx; rfl) (by intro t ht; simp at ht; first | (rcases ht with rfl | rfl <;> simp [cxOf, cxY] <;> done) | (subst ht; simp [cxOf, cxY])) ?_ ?_ ?_
 ·intro xs x hpre hgd l1 r1
  obtain ⟨ys, ⟨n, s⟩, zs, rfl, rfl, hzl⟩ := zcV hpre
  rw [hG] at hgd
  simp only [zc2] at hgd
  have hall : pfit p = pfitZ (ys.map (·.1)) ((n, s) :: zs) := by
   rw [hfit, hzl, zjQ, hgd]; rfl
  rw [pfitZ] at hall
  simp only [zbo]
  refine aw_le ⟨[(22, true, .d (.int .i64 n)), (23, true, .d (.str s)), (1, true, .vp 0 0), (2, true, .vp 1 0), (3, true, .vp 3 0)], [(3, .var [.map 2]), (2, .omap (seenM (ys.map (·.1)))), (1, .var [.d (.bool false)]), (0, .var [.d (.sl 1 (p.targets.map intD)), .d (.sl 1 (p.texts.map strD))])], some []⟩ (by rw [hI]; simp only [zc2]; simp only [AS.le, leT, leH, zr, AsgK, AV.le, AV.leL, AObj.le, inH, idsT, idsH, AV.ids, AV.idsL, AV.idsR, AObj.ids, lk, hget, go_sem, aeq, aeq.aeqF, simprocAttr]) ?_
  have hsm := zlY n (ys.map (·.1))
  have hsa := zm1 (ys.map (·.1))
  have hsn : ((ys.map zbo ++ [[AV.d (.int .i64 n), AV.d (.str s)]]).map unI) = ys ++ [(n, s)] := by
   rw [List.map_append, zc2]; rfl
  repeat' (first | ((first | refine za tab5i (zgz) (fun K hK => ?_) | refine zc tab5i (zgz) ?_ | refine zh ?_ | refine zi ?_ | refine zn ?_); simp only [go_sem, aeq, aeq.aeqF, simprocAttr, hI, hsn, hsm, hsa, Tryz.results160]) | refine zq (fun K hK => ?_) | refine zo ?_ | refine zf rfl ?_ | refine zg rfl ?_ | refine zp rfl (fun hc => ?_) (fun hc => ?_) | (refine hK _ ?_; clear hK K) | ((first | refine (show AS.le _ _ from ?_) | refine (show leH _ _ from ?_) | refine (show inH _ _ from ?_)); simp only [AS.le, leT, leH, zr, AsgK, AV.le, AV.leL, AObj.le, inH, idsT, idsH, AV.ids, AV.idsL, AV.idsR, AObj.ids, lk, hget, go_sem, aeq, aeq.aeqF, simprocAttr, hI, hsn, hsm, hsa]) | refine fun (r2 : Rnd _) => ?_ | with_reducible refine And.intro ?_ ?_ | exact ‹_ <+: _› | omega | assumption | refine fun (hg : (_ : Bool) = (_ : Bool)) => ?_ | clear hK K)
  ·rw [hJ]
   refine ⟨rfl, rfl, ?_, _, rfl⟩
   have hh : (!secOk n || (ys.map (·.1)).contains n || ((s.length : Int) != 64)) = !(secOk n && !(ys.map (·.1)).contains n && ((s.length : Int) == 64)) := by
    rw [Bool.not_and, Bool.not_and, Bool.not_not]; rfl
   rw [hh] at hc
   simp only [Bool.not_eq_true'] at hc
   rw [hall, hc, Bool.false_and]
  ·rw [hG]
   simp only [hsn]
   simp only [Bool.or_eq_false_iff, Bool.not_eq_false', bne_eq_false_iff_eq] at hc
   rw [zfI, hgd, List.nil_append, hc.1.1, hc.1.2, hc.2]
   rfl
  ·simp only [Bool.or_eq_false_iff] at hc
   rw [zlZ _ _ hc.1.2, List.map_append]
   rfl
 ·intro hgd
  rw [hG] at hgd
  simp only [zc2] at hgd
  rw [hI]
  repeat' (first | ((first | refine za noTab (zb _) (fun K hK => ?_) | refine zc noTab (zb _) ?_ | refine zh ?_ | refine zi ?_ | refine zn ?_); simp only [go_sem, aeq, aeq.aeqF, simprocAttr, Tryz.results160]) | refine zq (fun K hK => ?_) | refine zo ?_ | refine zf rfl ?_ | refine zg rfl ?_ | refine zp rfl (fun hc => ?_) (fun hc => ?_) | (refine hK _ ?_; clear hK K) | ((first | refine (show AS.le _ _ from ?_) | refine (show leH _ _ from ?_) | refine (show inH _ _ from ?_)); simp only [AS.le, leT, leH, zr, AsgK, AV.le, AV.leL, AObj.le, inH, idsT, idsH, AV.ids, AV.idsL, AV.idsR, AObj.ids, lk, hget, go_sem, aeq, aeq.aeqF, simprocAttr]) | refine fun (r2 : Rnd _) => ?_ | with_reducible refine And.intro ?_ ?_ | exact ‹_ <+: _› | omega | assumption | refine fun (hg : (_ : Bool) = (_ : Bool)) => ?_ | clear hK K)
  rw [hfit, hgd]
 ·rw [hJ]
  rintro c h3 g3 ⟨rfl, rfl, hno, m, rfl⟩
  repeat' (first | ((first | refine za noTab (zb _) (fun K hK => ?_) | refine zc noTab (zb _) ?_ | refine zh ?_ | refine zi ?_ | refine zn ?_); simp only [go_sem, aeq, aeq.aeqF, simprocAttr, Tryz.results160]) | refine zq (fun K hK => ?_) | refine zo ?_ | refine zf rfl ?_ | refine zg rfl ?_ | refine zp rfl (fun hc => ?_) (fun hc => ?_) | (refine hK _ ?_; clear hK K) | ((first | refine (show AS.le _ _ from ?_) | refine (show leH _ _ from ?_) | refine (show inH _ _ from ?_)); simp only [AS.le, leT, leH, zr, AsgK, AV.le, AV.leL, AObj.le, inH, idsT, idsH, AV.ids, AV.idsL, AV.idsR, AObj.ids, lk, hget, go_sem, aeq, aeq.aeqF, simprocAttr]) | refine fun (r2 : Rnd _) => ?_ | with_reducible refine And.intro ?_ ?_ | exact ‹_ <+: _› | omega | assumption | refine fun (hg : (_ : Bool) = (_ : Bool)) => ?_ | clear hK K)
  rw [hno]
noncomputable def zhg : Ent Tryz.prog := .ofL 160 (consL zU nilL) (fun (p, _) => PlanOk p) (fun (p, _) => .d (.bool (pfit p))) (fun (p, _) hp => ⟨rfl, zuJ p hp⟩)
attribute [go_sem] zhg
open Go Go.Proofs
structure DiskF (d : Disk) : Prop where
 ok : DiskOk d
 puts : d.cache.all (putOk d) = true
theorem zjT {d d' : Disk} (h : d'.data.length = d.data.length) : putOk d' = putOk d := by
 funext q
 unfold putOk there dsize
 rw [h]
theorem zfJ (d : Disk) : (burnt d).data = d.data := by unfold burnt; split <;> rfl
theorem zhk (d : Disk) : (burnt d).cache = d.cache := by unfold burnt; split <;> rfl
theorem zkJ (d : Disk) (a : Int) (s : Txt) : (zQ d a s).1.data = d.data := by
 unfold zQ
 repeat' split
 all_goals first | rfl | (rw [zfJ])
theorem DiskF.write {d : Disk} (h : DiskF d) (a : Int) (s : Txt) : DiskF (zQ d a s).1 := by
 refine ⟨zg7 h.ok a s, ?_⟩
 have e := zjT (d := d) (d' := (zQ d a s).1) (by rw [zkJ])
 rw [e]
 unfold zQ
 split
 ·exact h.puts
 split
 ·exact h.puts
 split
 ·exact h.puts
 split
 ·exact h.puts
 split
 ·exact h.puts
 split
 ·exact h.puts
 ·rename_i h1 h2 h3 h4 h5 h6
  rw [zhk, List.all_append, h.puts]
  have h3 : (s.length : Int) = 64 := by simpa using h3
  simp [putOk, h3]
  simpa using h2
theorem zm6 {d : Disk} (h : d.cache.all (putOk d) = true) : (dflush d).1.data.length = d.data.length := by
 unfold dflush
 split
 ·rfl
 split
 ·rfl
 ·rw [zfJ]; exact zmE h
theorem DiskF.flush {d : Disk} (h : DiskF d) : DiskF (dflush d).1 := by
 have hl := zm6 h.puts
 refine ⟨?_, ?_⟩
 ·revert hl
  unfold dflush
  split
  ·intro _; exact h.ok
  split
  ·intro _; exact ⟨h.ok.data, h.ok.cache, h.ok.bad, h.ok.fuse0, h.ok.fuse1⟩
  ·intro hl
   rw [zfJ] at hl
   exact zlw ⟨by rw [hl]; exact h.ok.data, by simp, h.ok.bad, h.ok.fuse0, h.ok.fuse1⟩
 ·rw [zjT hl]
  unfold dflush
  split
  ·exact h.puts
  split
  ·exact h.puts
  ·rw [zhk]; rfl
theorem DiskF.layL : ∀ (l : List (Int × Txt)) {d : Disk}, DiskF d → DiskF (layL d l).1
 | [], d, h => h
 | q :: l, d, h => by
  rw [Aw.layL]
  split
  ·exact h.write q.1 q.2
  ·exact DiskF.layL l (h.write q.1 q.2)
def encT (l : List Int) : Txt := l.flatMap (fun t => putN t.toNat 4)
def padR (s : Txt) : Txt := (padS s 64).1
def trows (l : List Int) : List Txt := if l.length ≤ 16 then [padR (encT l)] else [padR (encT (l.take 16)), padR (encT (l.drop 16))]
def tbody (p : Plan) : List Txt := trows p.targets ++ p.texts
def thead (seq : Int) (p : Plan) : Txt := putN seq.toNat 8 ++ putN p.targets.length 2
def tsum (c : Int) (l : List Txt) : Int := l.foldl sumOf c
def zt0 : Txt := [67, 79, 70, 74]
def ttop (seq : Int) (p : Plan) : Txt := padR (zt0 ++ thead seq p ++ putN (65535 - p.targets.length) 2 ++ ze2 (tsum (sumOf 0 (thead seq p)) (tbody p)))
def zdi (seq : Int) (p : Plan) : List Txt := ttop seq p :: tbody p
theorem zsE {p : Plan} (hp : pfit p = true) : ∀ t ∈ p.targets, 0 ≤ t ∧ t < 1024 := by
 obtain ⟨h1, h2, h3⟩ := pfit_iff.1 hp
 have key : ∀ (l : List (Int × Txt)) (seen : List Int), pfitZ seen l = true → ∀ q ∈ l, 0 ≤ q.1 ∧ q.1 < 1024 := by
  intro l
  induction l with
  | nil => intro _ _ q hq; simp at hq
  | cons a l ih =>
   intro seen h q hq
   simp only [pfitZ, Bool.and_eq_true] at h
   rcases List.mem_cons.1 hq with rfl | hq
   ·have := h.1.1.1
    simpa [secOk] using this
   ·exact ih _ h.2 q hq
 intro t ht
 obtain ⟨i, hi, rfl⟩ := List.mem_iff_getElem.1 ht
 have hz : (p.targets.zip p.texts)[i]? = some (p.targets[i], p.texts[i]'(by omega)) := List.getElem?_zip_eq_some.2 ⟨by simp [hi], by simp⟩
 exact key _ _ h3 _ (List.mem_of_getElem? hz)
open Go Go.Proofs
structure Tx where
 seq : Int
 plan : Plan
 deriving DecidableEq
def txA (t : Tx) : AV := .agg [.d (.int .u64 t.seq), .d (.sl 1 (t.plan.targets.map intD)), .d (.sl 1 (t.plan.texts.map strD))]
attribute [go_sem] txA
theorem zvL (t : Tx) : Tx.mk t.seq t.plan = t := rfl
noncomputable def txA_T : PT Tx := aggT (consL (intT .u64) (consL (slT 1 intD zbj) (consL (slT 1 strD zeV) nilL))) (fun p => ⟨p.1, ⟨p.2.1, p.2.2.1⟩⟩) (fun x => (x.seq, x.plan.targets, x.plan.texts, ())) (fun _ => rfl)
attribute [go_sem] txA_T
attribute [go_sem] zvL
theorem zpQ (l : List Int) (t : Int) : encT (l ++ [t]) = encT l ++ putN t.toNat 4 := by simp [encT]
theorem ze3 (l : List Int) : (encT l).length = 4 * l.length := by
 induction l with
 | nil => rfl
 | cons a l ih => simp only [encT, List.flatMap_cons, List.length_append, zar, List.length_cons] at ih ⊢; omega
theorem zpR (l : List Txt) (c : Int) (s : Txt) : tsum c (l ++ [s]) = sumOf (tsum c l) s := by simp [tsum]
theorem zgC {s : Txt} (h : s.length ≤ 64) : (padR s).length = 64 := by
 rw [padR, padS, if_neg (by omega)]
 simp; omega
theorem zpS (l : List Int) (h : l.length ≤ 24) : ∀ s ∈ trows l, s.length = 64 := by
 intro s hs
 unfold trows at hs
 split at hs
 ·simp only [List.mem_singleton] at hs
  subst hs
  exact zgC (by rw [ze3]; omega)
 ·simp only [List.mem_cons, List.not_mem_nil, or_false] at hs
  rcases hs with rfl | rfl
  ·exact zgC (by rw [ze3, List.length_take]; omega)
  ·exact zgC (by rw [ze3, List.length_drop]; omega)
theorem zjW {p : Plan} (hf : pfit p = true) : ∀ s ∈ tbody p, s.length = 64 := by
 obtain ⟨hl, h24, h64⟩ := zaI hf
 intro s hs
 rcases List.mem_append.1 hs with h | h
 ·exact zpS _ h24 s h
 ·exact h64 s h
theorem zd7 (c : Int) : (ze2 c).length = 4 := rfl
open Go Go.Proofs
noncomputable def tab6p : Tab := tabOf [zbO, zcX]
theorem zeb : TabOk Tryz.prog tab6p := zz _
@[go_sem] theorem zt2 (args : List AV) : tab6p 184 args = (zbO).e args := rfl
@[go_sem] theorem zt3 (args : List AV) : tab6p 124 args = (zcX).e args := rfl
theorem zuU (n : Int) (size : Int) (h0 : 0 ≤ n) (h1 : n < 18446744073709551616) : ACall Tryz.prog 161 0 [.d (.int .u64 n), .d (.int .i64 size)] [] (fun r _ => r = .d (.str (putS8 n size))) := by
 refine zk Tryz.func161 rfl (zu Tryz.func161 (by kernel_rfl) rfl) Tryz.ntmps161 (by simp) (fun base => ?_)
 repeat' (first | ((first | refine za tab6p (zeb) (fun K hK => ?_) | refine zc tab6p (zeb) ?_ | refine zh ?_ | refine zi ?_ | refine zn ?_); simp only [go_sem, aeq, aeq.aeqF, simprocAttr, Tryz.results161]) | refine zq (fun K hK => ?_) | (refine hK _ ?_; clear hK K) | with_reducible refine And.intro ?_ ?_ | omega | assumption | clear hK K)
noncomputable def zhq : Ent Tryz.prog := .ofL 161 (consL (intT .u64) (consL (intT .i64) nilL)) (fun (n, size, _) => (0 ≤ n) ∧ (n < 18446744073709551616)) (fun (n, size, _) => .d (.str (putS8 n size))) (fun (n, size, _) hp => ⟨rfl, zuU n size hp.1 hp.2⟩)
attribute [go_sem] zhq
theorem zuV (n : Int) (size : Int) (h0 : 0 ≤ n) (h1 : n < 9223372036854775808) : ACall Tryz.prog 162 0 [.d (.int .i64 n), .d (.int .i64 size)] [] (fun r _ => r = .d (.str (putS8 n size))) := by
 refine zk Tryz.func162 rfl (zu Tryz.func162 (by kernel_rfl) rfl) Tryz.ntmps162 (by simp) (fun base => ?_)
 have hw : IntKind.u64.wrap n = n := zaH (by omega) (by omega)
 repeat' (first | ((first | refine za tab6p (zeb) (fun K hK => ?_) | refine zc tab6p (zeb) ?_ | refine zh ?_ | refine zi ?_ | refine zn ?_); simp only [go_sem, aeq, aeq.aeqF, simprocAttr, hw, Tryz.results162]) | refine zq (fun K hK => ?_) | (refine hK _ ?_; clear hK K) | with_reducible refine And.intro ?_ ?_ | omega | assumption | clear hK K)
noncomputable def zdP : Ent Tryz.prog := .ofL 162 (consL (intT .i64) (consL (intT .i64) nilL)) (fun (n, size, _) => (0 ≤ n) ∧ (n < 9223372036854775808)) (fun (n, size, _) => .d (.str (putS8 n size))) (fun (n, size, _) hp => ⟨rfl, zuV n size hp.1 hp.2⟩)
attribute [go_sem] zdP
theorem zuW (s : Txt) (hs : s.length ≤ 9223372036854775807) : ACall Tryz.prog 165 0 [.d (.str s)] [] (fun r _ => r = .d (.str (padR s))) := by
 refine zk Tryz.func165 rfl (zu Tryz.func165 (by kernel_rfl) rfl) Tryz.ntmps165 (by simp) (fun base => ?_)
 repeat' (first | ((first | refine za tab6p (zeb) (fun K hK => ?_) | refine zc tab6p (zeb) ?_ | refine zh ?_ | refine zi ?_ | refine zn ?_); simp only [go_sem, aeq, aeq.aeqF, simprocAttr, Tryz.results165]) | refine zq (fun K hK => ?_) | (refine hK _ ?_; clear hK K) | with_reducible refine And.intro ?_ ?_ | omega | assumption | clear hK K)
 rfl
noncomputable def zdQ : Ent Tryz.prog := .ofL 165 (consL strT nilL) (fun (s, _) => s.length ≤ 9223372036854775807) (fun (s, _) => .d (.str (padR s))) (fun (s, _) hp => ⟨rfl, zuW s hp⟩)
attribute [go_sem] zdQ
def zbz (l : List Int) : List (List Int) := if l = [] then [] else if l.length ≤ 16 then [l] else [l.take 16, l.drop 16]
def zaq (l : List Int) : List AV := [.d (.sl 1 (l.map intD))]
theorem zs4 (l : List Int) : ACall Tryz.prog 205 0 [.d (.sl 1 (l.map intD)), .d (.int .i64 16)] [] (fun r _ => r = .fn (.func 219) [] [.dp [.d (.sl 1 (l.map intD))], .dp [.d (.int .i64 16)]]) := by
 refine zA ?_
 refine zk Tryz.func205 rfl (zu Tryz.func205 (by kernel_rfl) rfl) Tryz.ntmps205 (by simp) (fun base => ?_)
 repeat' (first | ((first | refine za noTab (zb _) (fun K hK => ?_) | refine zc noTab (zb _) ?_ | refine zh ?_ | refine zi ?_ | refine zn ?_); simp only [go_sem, aeq, aeq.aeqF, simprocAttr, Tryz.results205]) | refine zq (fun K hK => ?_) | refine zf rfl ?_ | refine zg rfl ?_ | refine zp rfl (fun hc => ?_) (fun hc => ?_) | (refine hK _ ?_; clear hK K) | refine fun (nb : Bool) (hnb : nb = true → _) => ?_ | with_reducible refine And.intro ?_ ?_ | omega | assumption | clear hK K)
noncomputable def zfT : Ent Tryz.prog := .ofL 205 (consL (slT 1 intD zbj) (consL (zjq (.d (.int .i64 16))) nilL)) (fun (l, _, _) => True) (fun (l, _, _) => .fn (.func 219) [] [.dp [.d (.sl 1 (l.map intD))], .dp [.d (.int .i64 16)]]) (fun (l, _, _) hp => ⟨rfl, zs4 l⟩)
attribute [go_sem] zfT
abbrev Cst (l : List Int) := { q : Nat × List (List AV) // (q.1 = 0 ∧ q.2 = []) ∨ (q.1 = 16 ∧ 0 < l.length ∧ q.2 = [zaq (l.take 16)]) ∨ (q.1 = 32 ∧ 16 < l.length ∧ q.2 = [zaq (l.take 16), zaq (l.drop 16)]) }
theorem zj6 (l : List Int) (hl : l.length ≤ 24) (fl : Nat) : AIter Tryz.prog 219 fl [] [.dp [.d (.sl 1 (l.map intD))], .dp [.d (.int .i64 16)]] [] ((zbz l).map zaq) (fun g h' => (∀ xs, g = some xs → xs = (zbz l).map zaq) ∧ h' = []) := by
 refine zaE Tryz.func219 rfl (zu Tryz.func219 (by kernel_rfl) rfl) Tryz.ntmps219 rfl (by simp) (fun base y => ?_)
 repeat' (first | (refine zN (fun i => decide (i < fl)) (by simp only [inH, idsH, hsel, AV.ids, AV.idsL, AV.idsR, AObj.ids, hget, go_sem, aeq, aeq.aeqF, simprocAttr]) ?_; simp only [go_sem, aeq, aeq.aeqF, simprocAttr, hsel, keepT]; refine zn ?_; simp only [go_sem, aeq, aeq.aeqF, simprocAttr]) | ((first | refine zv noTab (zb _) (fun K hK => ?_) | refine zB noTab (zb _) ?_ | refine ze noTab (zb _) mx (fun K hK => ?_) | refine zj noTab (zb _) mx ?_ | refine zh ?_ | refine zi ?_ | refine zn ?_); simp only [go_sem, aeq, aeq.aeqF, simprocAttr]) | refine zq (fun K hK => ?_) | refine zo ?_ | refine zf rfl ?_ | refine zg rfl ?_ | refine zp rfl (fun hc => ?_) (fun hc => ?_) | (refine hK _ ?_; clear hK K) | ((first | refine (show AS.le _ _ from ?_) | refine (show leH _ _ from ?_) | refine (show inH _ _ from ?_)); simp only [AS.le, leT, leH, zr, AsgK, AV.le, AV.leL, AObj.le, inH, idsT, idsH, AV.ids, AV.idsL, AV.idsR, AObj.ids, lk, hget, go_sem, aeq, aeq.aeqF, simprocAttr]) | refine fun (r2 : Rnd _) => ?_ | with_reducible refine And.intro ?_ ?_ | exact ‹_ <+: _› | (refine (show zt _ _ = true from ?_); kernel_rfl) | omega | assumption | clear hK K)
 refine zL (fun q : Cst l => ⟨[(0, true, .fn (.yield y.yl) [] []), (1, true, .dp [.d (.sl 1 (l.map intD))]), (2, true, .dp [.d (.int .i64 16)]), (4, true, .d (.int .i64 q.1.1))], [], some q.1.2⟩) (fun q => 40 - q.1.1) ⟨(0, []), .inl ⟨rfl, rfl⟩⟩ (by simp only [AS.le, leT, leH, zr, AsgK, AV.le, AV.leL, AObj.le, inH, idsT, idsH, AV.ids, AV.idsL, AV.idsR, AObj.ids, lk, hget, go_sem, aeq, aeq.aeqF, simprocAttr] <;> and_intros <;> rfl) (fun q => ?_)
 obtain ⟨⟨i, xs⟩, hi⟩ := q
 simp only at hi ⊢
 rcases hi with ⟨rfl, rfl⟩ | ⟨rfl, h0, rfl⟩ | ⟨rfl, h16, rfl⟩
 ·by_cases h : l = []
  ·subst h
   repeat' (first | (refine zN (fun i => decide (i < fl)) (by simp only [inH, idsH, hsel, AV.ids, AV.idsL, AV.idsR, AObj.ids, hget, go_sem, aeq, aeq.aeqF, simprocAttr]) ?_; simp only [go_sem, aeq, aeq.aeqF, simprocAttr, hsel, keepT]; refine zn ?_; simp only [go_sem, aeq, aeq.aeqF, simprocAttr]) | ((first | refine zv noTab (zb _) (fun K hK => ?_) | refine zB noTab (zb _) ?_ | refine ze noTab (zb _) mx (fun K hK => ?_) | refine zj noTab (zb _) mx ?_ | refine zh ?_ | refine zi ?_ | refine zn ?_); simp only [go_sem, aeq, aeq.aeqF, simprocAttr]) | refine zq (fun K hK => ?_) | refine zo ?_ | refine zf rfl ?_ | refine zg rfl ?_ | refine zp rfl (fun hc => ?_) (fun hc => ?_) | (refine hK _ ?_; clear hK K) | ((first | refine (show AS.le _ _ from ?_) | refine (show leH _ _ from ?_) | refine (show inH _ _ from ?_)); simp only [AS.le, leT, leH, zr, AsgK, AV.le, AV.leL, AObj.le, inH, idsT, idsH, AV.ids, AV.idsL, AV.idsR, AObj.ids, lk, hget, go_sem, aeq, aeq.aeqF, simprocAttr]) | refine fun (r2 : Rnd _) => ?_ | with_reducible refine And.intro ?_ ?_ | exact ‹_ <+: _› | (refine (show zt _ _ = true from ?_); kernel_rfl) | omega | assumption | clear hK K)
   rintro zs rfl
   rfl
  ·have hpos : 0 < l.length := List.length_pos_iff.2 h
   have hcmp : decide ((0 : Int) < (l.length : Int)) = true := decide_eq_true (by omega)
   obtain ⟨n, hn⟩ : ∃ n, n = min 16 l.length := ⟨_, rfl⟩
   have hm : imin 16 (l.length : Int) = (n : Int) := by unfold imin; split <;> omega
   have hw : IntKind.i64.wrap (0 + (n : Int)) = n := by rw [Int.zero_add]; exact zD (by omega) (by omega)
   have ht : (l.map intD).take n = (l.take 16).map intD := by
    rw [← List.map_take]
    rcases Nat.le_total l.length 16 with h2 | h2
    ·rw [hn, Nat.min_eq_right h2, List.take_length, List.take_of_length_le h2]
    ·rw [hn, Nat.min_eq_left h2]
   have hc0 : ((0 : Nat) : Int) = 0 := rfl
   have hz : (Int.toNat 0) = 0 := rfl
   repeat' (first | (refine zN (fun i => decide (i < fl)) (by simp only [inH, idsH, hsel, AV.ids, AV.idsL, AV.idsR, AObj.ids, hget, go_sem, aeq, aeq.aeqF, simprocAttr]) ?_; simp only [go_sem, aeq, aeq.aeqF, simprocAttr, hc0, hcmp, hm, hw, hz, Int.toNat_natCast, List.drop_zero, ht, hsel, keepT]; refine zn ?_; simp only [go_sem, aeq, aeq.aeqF, simprocAttr, hc0, hcmp, hm, hw, hz, Int.toNat_natCast, List.drop_zero, ht]) | ((first | refine zv noTab (zb _) (fun K hK => ?_) | refine zB noTab (zb _) ?_ | refine ze noTab (zb _) mx (fun K hK => ?_) | refine zj noTab (zb _) mx ?_ | refine zh ?_ | refine zi ?_ | refine zn ?_); simp only [go_sem, aeq, aeq.aeqF, simprocAttr, hc0, hcmp, hm, hw, hz, Int.toNat_natCast, List.drop_zero, ht]) | refine zq (fun K hK => ?_) | refine zo ?_ | refine zf rfl ?_ | refine zg rfl ?_ | refine zp rfl (fun hc => ?_) (fun hc => ?_) | (refine hK _ ?_; clear hK K) | ((first | refine (show AS.le _ _ from ?_) | refine (show leH _ _ from ?_) | refine (show inH _ _ from ?_)); simp only [AS.le, leT, leH, zr, AsgK, AV.le, AV.leL, AObj.le, inH, idsT, idsH, AV.ids, AV.idsL, AV.idsR, AObj.ids, lk, hget, go_sem, aeq, aeq.aeqF, simprocAttr, hc0, hcmp, hm, hw, hz, Int.toNat_natCast, List.drop_zero, ht]) | refine fun (r2 : Rnd _) => ?_ | with_reducible refine And.intro ?_ ?_ | exact ‹_ <+: _› | (refine (show zt _ _ = true from ?_); kernel_rfl) | omega | assumption | clear hK K)
   ·unfold zbz
    rw [if_neg h]
    split
    ·rename_i h2
     rw [List.take_of_length_le h2]
     exact ⟨[], rfl⟩
    ·exact ⟨[zaq (l.drop 16)], rfl⟩
   ·have hw16 : IntKind.i64.wrap 16 = 16 := by decide
    exact ⟨⟨(16, [zaq (l.take 16)]), .inr (.inl ⟨rfl, hpos, rfl⟩)⟩, by simp only [AS.le, leT, leH, zr, AsgK, AV.le, AV.leL, AObj.le, inH, idsT, idsH, AV.ids, AV.idsL, AV.idsR, AObj.ids, lk, hget, go_sem, aeq, aeq.aeqF, simprocAttr, hw16, zaq] <;> and_intros <;> rfl, by simp⟩
 ·rcases Nat.lt_or_ge 16 l.length with h16 | h16
  ·have hcmp : decide ((16 : Int) < (l.length : Int)) = true := decide_eq_true (by omega)
   obtain ⟨n, hn⟩ : ∃ n, n = l.length - 16 := ⟨_, rfl⟩
   have hdl : ((l.drop 16).length : Int) = (n : Int) := by simp [hn]
   have hm : imin 16 (n : Int) = (n : Int) := by unfold imin; split <;> omega
   have hw : IntKind.i64.wrap (16 + (n : Int)) = ((16 + n : Nat) : Int) := by rw [zD (by omega) (by omega)]; omega
   have ht : (l.map intD).take (16 + n) = l.map intD := List.take_of_length_le (by simp; omega)
   have hmd : (l.map intD).drop 16 = (l.drop 16).map intD := by rw [← List.map_drop]
   have hc0 : ((16 : Nat) : Int) = 16 := rfl
   have hz : (Int.toNat 16) = 16 := rfl
   repeat' (first | (refine zN (fun i => decide (i < fl)) (by simp only [inH, idsH, hsel, AV.ids, AV.idsL, AV.idsR, AObj.ids, hget, go_sem, aeq, aeq.aeqF, simprocAttr]) ?_; simp only [go_sem, aeq, aeq.aeqF, simprocAttr, hc0, hcmp, hm, hw, hz, hdl, Int.toNat_natCast, ht, hmd, hsel, keepT]; refine zn ?_; simp only [go_sem, aeq, aeq.aeqF, simprocAttr, hc0, hcmp, hm, hw, hz, hdl, Int.toNat_natCast, ht, hmd]) | ((first | refine zv noTab (zb _) (fun K hK => ?_) | refine zB noTab (zb _) ?_ | refine ze noTab (zb _) mx (fun K hK => ?_) | refine zj noTab (zb _) mx ?_ | refine zh ?_ | refine zi ?_ | refine zn ?_); simp only [go_sem, aeq, aeq.aeqF, simprocAttr, hc0, hcmp, hm, hw, hz, hdl, Int.toNat_natCast, ht, hmd]) | refine zq (fun K hK => ?_) | refine zo ?_ | refine zf rfl ?_ | refine zg rfl ?_ | refine zp rfl (fun hc => ?_) (fun hc => ?_) | (refine hK _ ?_; clear hK K) | ((first | refine (show AS.le _ _ from ?_) | refine (show leH _ _ from ?_) | refine (show inH _ _ from ?_)); simp only [AS.le, leT, leH, zr, AsgK, AV.le, AV.leL, AObj.le, inH, idsT, idsH, AV.ids, AV.idsL, AV.idsR, AObj.ids, lk, hget, go_sem, aeq, aeq.aeqF, simprocAttr, hc0, hcmp, hm, hw, hz, hdl, Int.toNat_natCast, ht, hmd]) | refine fun (r2 : Rnd _) => ?_ | with_reducible refine And.intro ?_ ?_ | exact ‹_ <+: _› | (refine (show zt _ _ = true from ?_); kernel_rfl) | omega | assumption | clear hK K)
   ·unfold zbz
    rw [if_neg (by intro e; rw [e] at h16; simp at h16), if_neg (by omega)]
    exact ⟨[], rfl⟩
   ·have hw32 : IntKind.i64.wrap 32 = 32 := by decide
    exact ⟨⟨(32, [zaq (l.take 16), zaq (l.drop 16)]), .inr (.inr ⟨rfl, h16, rfl⟩)⟩, by simp only [AS.le, leT, leH, zr, AsgK, AV.le, AV.leL, AObj.le, inH, idsT, idsH, AV.ids, AV.idsL, AV.idsR, AObj.ids, lk, hget, go_sem, aeq, aeq.aeqF, simprocAttr, hw32, zaq] <;> and_intros <;> rfl, by simp⟩
  ·have hcmp : decide ((16 : Int) < (l.length : Int)) = false := decide_eq_false (by omega)
   have hc0 : ((16 : Nat) : Int) = 16 := rfl
   repeat' (first | (refine zN (fun i => decide (i < fl)) (by simp only [inH, idsH, hsel, AV.ids, AV.idsL, AV.idsR, AObj.ids, hget, go_sem, aeq, aeq.aeqF, simprocAttr]) ?_; simp only [go_sem, aeq, aeq.aeqF, simprocAttr, hc0, hcmp, hsel, keepT]; refine zn ?_; simp only [go_sem, aeq, aeq.aeqF, simprocAttr, hc0, hcmp]) | ((first | refine zv noTab (zb _) (fun K hK => ?_) | refine zB noTab (zb _) ?_ | refine ze noTab (zb _) mx (fun K hK => ?_) | refine zj noTab (zb _) mx ?_ | refine zh ?_ | refine zi ?_ | refine zn ?_); simp only [go_sem, aeq, aeq.aeqF, simprocAttr, hc0, hcmp]) | refine zq (fun K hK => ?_) | refine zo ?_ | refine zf rfl ?_ | refine zg rfl ?_ | refine zp rfl (fun hc => ?_) (fun hc => ?_) | (refine hK _ ?_; clear hK K) | ((first | refine (show AS.le _ _ from ?_) | refine (show leH _ _ from ?_) | refine (show inH _ _ from ?_)); simp only [AS.le, leT, leH, zr, AsgK, AV.le, AV.leL, AObj.le, inH, idsT, idsH, AV.ids, AV.idsL, AV.idsR, AObj.ids, lk, hget, go_sem, aeq, aeq.aeqF, simprocAttr, hc0, hcmp]) | refine fun (r2 : Rnd _) => ?_ | with_reducible refine And.intro ?_ ?_ | exact ‹_ <+: _› | (refine (show zt _ _ = true from ?_); kernel_rfl) | omega | assumption | clear hK K)
   rintro zs rfl
   unfold zbz
   rw [if_neg (by intro e; rw [e] at h0; simp at h0), if_pos h16, List.take_of_length_le h16]
   rfl
 ·have hcmp : decide ((32 : Int) < (l.length : Int)) = false := decide_eq_false (by omega)
  have hc0 : ((32 : Nat) : Int) = 32 := rfl
  repeat' (first | (refine zN (fun i => decide (i < fl)) (by simp only [inH, idsH, hsel, AV.ids, AV.idsL, AV.idsR, AObj.ids, hget, go_sem, aeq, aeq.aeqF, simprocAttr]) ?_; simp only [go_sem, aeq, aeq.aeqF, simprocAttr, hc0, hcmp, hsel, keepT]; refine zn ?_; simp only [go_sem, aeq, aeq.aeqF, simprocAttr, hc0, hcmp]) | ((first | refine zv noTab (zb _) (fun K hK => ?_) | refine zB noTab (zb _) ?_ | refine ze noTab (zb _) mx (fun K hK => ?_) | refine zj noTab (zb _) mx ?_ | refine zh ?_ | refine zi ?_ | refine zn ?_); simp only [go_sem, aeq, aeq.aeqF, simprocAttr, hc0, hcmp]) | refine zq (fun K hK => ?_) | refine zo ?_ | refine zf rfl ?_ | refine zg rfl ?_ | refine zp rfl (fun hc => ?_) (fun hc => ?_) | (refine hK _ ?_; clear hK K) | ((first | refine (show AS.le _ _ from ?_) | refine (show leH _ _ from ?_) | refine (show inH _ _ from ?_)); simp only [AS.le, leT, leH, zr, AsgK, AV.le, AV.leL, AObj.le, inH, idsT, idsH, AV.ids, AV.idsL, AV.idsR, AObj.ids, lk, hget, go_sem, aeq, aeq.aeqF, simprocAttr, hc0, hcmp]) | refine fun (r2 : Rnd _) => ?_ | with_reducible refine And.intro ?_ ?_ | exact ‹_ <+: _› | (refine (show zt _ _ = true from ?_); kernel_rfl) | omega | assumption | clear hK K)
  rintro zs rfl
  unfold zbz
  rw [if_neg (by intro e; rw [e] at h16; simp at h16), if_neg (by omega)]
  rfl
open Go Go.Proofs
def bItem (s : Txt) : List AV := [.d (.str s)]
def unC (x : List AV) : List AV :=
 match x with
 | [.d (.sl _ rows)] => bItem (padR (encT (rows.map fun r => match r with | [.int _ n] => n | _ => 0)))
 | _ => []
theorem zmf (c : List Int) : unC (zaq c) = bItem (padR (encT c)) := by
 simp only [unC, zaq, List.map_map]
 have : ((fun r : List D => match r with | [.int _ n] => n | _ => (0 : Int)) ∘ intD) = id := rfl
 rw [this, List.map_id]
theorem zkY (l : List (List Int)) : (l.map zaq).map unC = l.map (fun c => bItem (padR (encT c))) := by
 rw [List.map_map]
 exact List.map_congr_left (fun c _ => zmf c)
theorem zkZ {l : List Int} (h : l ≠ []) : trows l = (zbz l).map (fun c => padR (encT c)) := by
 unfold trows zbz
 rw [if_neg h]
 split <;> rfl
theorem zhr {p : Plan} (h : p.targets ≠ []) : (tbody p).map bItem = (zbz p.targets).map (fun c => bItem (padR (encT c))) ++ p.texts.map bItem := by
 rw [tbody, zkZ h, List.map_append, List.map_map]
 rfl
theorem zk0 {l c : List Int} (h : c ∈ zbz l) (hl : l.length ≤ 24) : c.length ≤ 16 ∧ ∀ t ∈ c, t ∈ l := by
 unfold zbz at h
 split at h
 ·cases h
 split at h
 ·rename_i h1 h2
  obtain rfl : c = l := by simpa using h
  exact ⟨h2, fun t ht => ht⟩
 ·rcases List.mem_cons.1 h with rfl | h
  ·exact ⟨by simp; omega, fun t ht => List.mem_of_mem_take ht⟩
  ·obtain rfl : c = l.drop 16 := by simpa using h
   exact ⟨by simp; omega, fun t ht => List.mem_of_mem_drop ht⟩
theorem zuX : liesAt Tryz.prog Tryz.prog.depth 133 (2 / Tryz.prog.cellsOf 133) 0 133 1 = true := by kernel_rfl
noncomputable def tabCh : Tab := tabOf [zfT]
theorem zgD : TabOk Tryz.prog tabCh := zz _
@[go_sem] theorem zrj (args : List AV) : tabCh 205 args = (zfT).e args := rfl
noncomputable def tabNm : Tab := tabOf [zdP, zdQ]
theorem zfc : TabOk Tryz.prog tabNm := zz _
@[go_sem] theorem zs5 (args : List AV) : tabNm 162 args = (zdP).e args := rfl
@[go_sem] theorem zs6 (args : List AV) : tabNm 165 args = (zdQ).e args := rfl
theorem zi0 (p : Plan) (hp : PlanOk p) (h24 : p.targets.length ≤ 24) (hne : p.targets ≠ []) (hr : ∀ t ∈ p.targets, 0 ≤ t ∧ t < 1024) : AIter Tryz.prog 204 100 [] [.dp [.d (.sl 1 (p.targets.map intD)), .d (.sl 1 (p.texts.map strD))]] [] ((tbody p).map bItem) (fun g h' => (∀ xs, g = some xs → xs = (tbody p).map bItem) ∧ h' = []) := by
 refine zaE Tryz.func204 rfl (zu Tryz.func204 (by kernel_rfl) rfl) Tryz.ntmps204 rfl (by simp) (fun base y => ?_)
 refine zg4 ?_
 repeat' (first | (refine zN (fun i => decide (i < 100)) (by simp only [inH, idsH, hsel, AV.ids, AV.idsL, AV.idsR, AObj.ids, hget, go_sem, aeq, aeq.aeqF, simprocAttr]) ?_; simp only [go_sem, aeq, aeq.aeqF, simprocAttr, hsel, keepT]; refine zn ?_; simp only [go_sem, aeq, aeq.aeqF, simprocAttr]) | ((first | refine zv tabCh (zgD) (fun K hK => ?_) | refine zB tabCh (zgD) ?_ | refine ze tabCh (zgD) mx (fun K hK => ?_) | refine zj tabCh (zgD) mx ?_ | refine zh ?_ | refine zi ?_ | refine zn ?_); simp only [go_sem, aeq, aeq.aeqF, simprocAttr]) | refine zq (fun K hK => ?_) | refine zo ?_ | refine zf rfl ?_ | refine zg rfl ?_ | refine zp rfl (fun hc => ?_) (fun hc => ?_) | (refine hK _ ?_; clear hK K) | ((first | refine (show AS.le _ _ from ?_) | refine (show leH _ _ from ?_) | refine (show inH _ _ from ?_)); simp only [AS.le, leT, leH, zr, AsgK, AV.le, AV.leL, AObj.le, inH, idsT, idsH, AV.ids, AV.idsL, AV.idsR, AObj.ids, lk, hget, go_sem, aeq, aeq.aeqF, simprocAttr]) | refine fun (r2 : Rnd _) => ?_ | with_reducible refine And.intro ?_ ?_ | exact ‹_ <+: _› | (refine (show zt _ _ = true from ?_); kernel_rfl) | omega | assumption | clear hK K)
 obtain ⟨I, hI⟩ : ∃ I : List (List AV) → AHeap × Option (List (List AV)), I = fun xs => ([(100, .var [.fn (.yield y.yl) [] []])], some (xs.map unC)) := ⟨_, rfl⟩
 obtain ⟨G, hG⟩ : ∃ G : List (List AV) → Prop, G = fun _ => True := ⟨_, rfl⟩
 obtain ⟨J, hJ⟩ : ∃ J : Code → AHeap → Option (List (List AV)) → Prop, J = fun c h g => c = .ret ∧ h = [(100, .var [.fn (.yield y.yl) [] []])] ∧ g = none := ⟨_, rfl⟩
 refine za0 200 G I J (zj6 p.targets h24 200) (by simp only [go_sem, aeq, aeq.aeqF, simprocAttr]) rfl (zT rfl) (by simp [cxOf, cxY]) rfl (by rw [hG]; first | trivial | rfl | simp) (by rw [hI]; simp only [AS.le, leT, leH, zr, AsgK, AV.le, AV.leL, AObj.le, inH, idsT, idsH, AV.ids, AV.idsL, AV.idsR, AObj.ids, lk, hget, go_sem, aeq, aeq.aeqF, simprocAttr] <;> simp [AV.leL, AV.le]) (by rw [hI]; simp only [AS.le, leT, leH, zr, AsgK, AV.le, AV.leL, AObj.le, inH, idsT, idsH, AV.ids, AV.idsL, AV.idsR, AObj.ids, lk, hget, go_sem, aeq, aeq.aeqF, simprocAttr] <;> simp) (by rw [hI] <;> rfl) (by intro x hx; obtain ⟨q, _, rfl⟩ := List.mem_map.1 hx; rfl) (by intro t ht; simp at ht; first | (rcases ht with rfl | rfl <;> simp [cxOf, cxY] <;> done) | (subst ht; simp [cxOf, cxY])) ?_ ?_ ?_
 ·intro xs x hpre hgd l1 r1
  obtain ⟨ys, c, zs, rfl, rfl, hzl⟩ := zcV hpre
  have hcm : c ∈ zbz p.targets := by rw [hzl]; simp
  obtain ⟨hc16, hcr⟩ := zk0 hcm h24
  have hit : (ys.map (fun c => bItem (padR (encT c))) ++ [bItem (padR (encT c))]) <+: (tbody p).map bItem := by
   rw [zhr hne, hzl, List.map_append, List.map_cons]
   exact ⟨zs.map (fun c => bItem (padR (encT c))) ++ p.texts.map bItem, by simp⟩
  simp only [zaq]
  refine aw_le ⟨[(12, true, .d (.sl 1 (c.map intD))), (2, true, .vp 100 0)], [(100, .var [.fn (.yield y.yl) [] []])], some (ys.map (fun c => bItem (padR (encT c))))⟩ (by rw [hI]; simp only [zkY]; simp only [AS.le, leT, leH, zr, AsgK, AV.le, AV.leL, AObj.le, inH, idsT, idsH, AV.ids, AV.idsL, AV.idsR, AObj.ids, lk, hget, go_sem, aeq, aeq.aeqF, simprocAttr]) ?_
  repeat' (first | (refine zN (fun i => decide (i < 200)) (by simp only [inH, idsH, hsel, AV.ids, AV.idsL, AV.idsR, AObj.ids, hget, go_sem, aeq, aeq.aeqF, simprocAttr]) ?_; simp only [go_sem, aeq, aeq.aeqF, simprocAttr, hI, hsel, keepT]; refine zn ?_; simp only [go_sem, aeq, aeq.aeqF, simprocAttr, hI]) | ((first | refine zv noTab (zb _) (fun K hK => ?_) | refine zB noTab (zb _) ?_ | refine ze noTab (zb _) mx (fun K hK => ?_) | refine zj noTab (zb _) mx ?_ | refine zh ?_ | refine zi ?_ | refine zn ?_); simp only [go_sem, aeq, aeq.aeqF, simprocAttr, hI]) | refine zq (fun K hK => ?_) | refine zo ?_ | refine zf rfl ?_ | refine zg rfl ?_ | refine zp rfl (fun hc => ?_) (fun hc => ?_) | (refine hK _ ?_; clear hK K) | ((first | refine (show AS.le _ _ from ?_) | refine (show leH _ _ from ?_) | refine (show inH _ _ from ?_)); simp only [AS.le, leT, leH, zr, AsgK, AV.le, AV.leL, AObj.le, inH, idsT, idsH, AV.ids, AV.idsL, AV.idsR, AObj.ids, lk, hget, go_sem, aeq, aeq.aeqF, simprocAttr, hI]) | refine fun (r2 : Rnd _) => ?_ | with_reducible refine And.intro ?_ ?_ | exact ‹_ <+: _› | (refine (show zt _ _ = true from ?_); kernel_rfl) | omega | assumption | clear hK K)
  refine zql 200 1 rfl rfl ?_
  simp only [go_sem, aeq, aeq.aeqF, simprocAttr]
  refine zL (fun q : { i : Nat // i ≤ c.length } => ⟨[(2, true, .vp 100 0), (4, true, .tp 200 0), (13, true, .d (.sl 1 (c.map intD))), (14, true, .d (.int .i64 c.length)), (15, true, .d (.int .i64 q.1))], [(201, .buf 5 (encT (c.take q.1))), (200, .tvar 133 [if q.1 = 0 then .d .nilp else .tp 200 0, .bsl 201 (encT (c.take q.1)).length]), (100, .var [.fn (.yield y.yl) [] []])], some (ys.map (fun c => bItem (padR (encT c))))⟩) (fun q => c.length - q.1) ⟨0, Nat.zero_le _⟩ (by simp only [AS.le, leT, leH, zr, AsgK, AV.le, AV.leL, AObj.le, inH, idsT, idsH, AV.ids, AV.idsL, AV.idsR, AObj.ids, lk, hget, go_sem, aeq, aeq.aeqF, simprocAttr, if_true, List.take_zero] <;> and_intros <;> rfl) (fun q => ?_)
  obtain ⟨i, hi⟩ := q
  simp only at hi ⊢
  rcases zad intD c i hi with ⟨t, hq, hlt, hcmp, hrow, hdr, htk⟩ | ⟨hend, hcmp⟩
  ·simp only [intD] at hrow
   have hwi := zP (i := i) (by omega)
   obtain ⟨ht0, ht1⟩ := hr t (hcr t (List.mem_of_getElem? hq))
   have hel : (encT (c.take i)).length ≤ 64 := by rw [ze3, List.length_take]; omega
   have hpl : putS8 t 4 = putN t.toNat 4 := rfl
   have hpn : (putN t.toNat 4).length = 4 := zar _ _
   have hsn : encT (c.take (i + 1)) = encT (c.take i) ++ putN t.toNat 4 := by rw [htk, zpQ]
   have hnt : ∀ a, tabNm 84 a = none := fun a => rfl
   repeat' (first | (refine zN (fun i => decide (i < 200)) (by simp only [inH, idsH, hsel, AV.ids, AV.idsL, AV.idsR, AObj.ids, hget, go_sem, aeq, aeq.aeqF, simprocAttr]) ?_; simp only [go_sem, aeq, aeq.aeqF, simprocAttr, hcmp, hrow, hpl, hnt, hsel, keepT]; refine zn ?_; simp only [go_sem, aeq, aeq.aeqF, simprocAttr, hcmp, hrow, hpl, hnt]) | ((first | refine zv tabNm (zfc) (fun K hK => ?_) | refine zB tabNm (zfc) ?_ | refine ze tabNm (zfc) mx (fun K hK => ?_) | refine zj tabNm (zfc) mx ?_ | refine zh ?_ | refine zi ?_ | refine zn ?_); simp only [go_sem, aeq, aeq.aeqF, simprocAttr, hcmp, hrow, hpl, hnt]) | refine zq (fun K hK => ?_) | refine zo ?_ | refine zf rfl ?_ | refine zg rfl ?_ | refine zp rfl (fun hc => ?_) (fun hc => ?_) | (refine hK _ ?_; clear hK K) | ((first | refine (show AS.le _ _ from ?_) | refine (show leH _ _ from ?_) | refine (show inH _ _ from ?_)); simp only [AS.le, leT, leH, zr, AsgK, AV.le, AV.leL, AObj.le, inH, idsT, idsH, AV.ids, AV.idsL, AV.idsR, AObj.ids, lk, hget, go_sem, aeq, aeq.aeqF, simprocAttr, hcmp, hrow, hpl, hnt]) | refine fun (r2 : Rnd _) => ?_ | with_reducible refine And.intro ?_ ?_ | exact ‹_ <+: _› | (refine (show zt _ _ = true from ?_); kernel_rfl) | omega | assumption | clear hK K)
   refine (zs3 (i := 200) (j := 201) (o := 0) (T := 133) (cs := [if i = 0 then .d .nilp else .tp 200 0, .bsl 201 (encT (c.take i)).length]) (xs := encT (c.take i)) rfl (by by_cases h0 : i = 0 <;> simp [h0]) rfl rfl rfl zuX (by omega)).mono ?_
   rintro r h' ⟨rfl, rfl⟩
   repeat' (first | (refine zN (fun i => decide (i < 200)) (by simp only [inH, idsH, hsel, AV.ids, AV.idsL, AV.idsR, AObj.ids, hget, go_sem, aeq, aeq.aeqF, simprocAttr]) ?_; simp only [go_sem, aeq, aeq.aeqF, simprocAttr, hsel, keepT]; refine zn ?_; simp only [go_sem, aeq, aeq.aeqF, simprocAttr]) | ((first | refine zv noTab (zb _) (fun K hK => ?_) | refine zB noTab (zb _) ?_ | refine ze noTab (zb _) mx (fun K hK => ?_) | refine zj noTab (zb _) mx ?_ | refine zh ?_ | refine zi ?_ | refine zn ?_); simp only [go_sem, aeq, aeq.aeqF, simprocAttr]) | refine zq (fun K hK => ?_) | refine zo ?_ | refine zf rfl ?_ | refine zg rfl ?_ | refine zp rfl (fun hc => ?_) (fun hc => ?_) | (refine hK _ ?_; clear hK K) | ((first | refine (show AS.le _ _ from ?_) | refine (show leH _ _ from ?_) | refine (show inH _ _ from ?_)); simp only [AS.le, leT, leH, zr, AsgK, AV.le, AV.leL, AObj.le, inH, idsT, idsH, AV.ids, AV.idsL, AV.idsR, AObj.ids, lk, hget, go_sem, aeq, aeq.aeqF, simprocAttr]) | refine fun (r2 : Rnd _) => ?_ | with_reducible refine And.intro ?_ ?_ | exact ‹_ <+: _› | (refine (show zt _ _ = true from ?_); kernel_rfl) | omega | assumption | clear hK K)
   have hif : (if i + 1 = 0 then AV.d .nilp else AV.tp 200 0) = .tp 200 0 := if_neg (by omega)
   exact ⟨⟨i + 1, by omega⟩, by simp only [AS.le, leT, leH, zr, AsgK, AV.le, AV.leL, AObj.le, inH, idsT, idsH, AV.ids, AV.idsL, AV.idsR, AObj.ids, lk, hget, go_sem, aeq, aeq.aeqF, simprocAttr, hwi, hsn, hif, List.length_append], by simp; omega⟩
  ·have htk : c.take i = c := by rw [hend, List.take_length]
   rw [htk]
   have hel : (encT c).length ≤ 64 := by rw [ze3]; omega
   obtain ⟨x0, hx0⟩ : ∃ x0, x0 = (if i = 0 then AV.d .nilp else AV.tp 200 0) := ⟨_, rfl⟩
   rw [← hx0]
   repeat' ((fail_if_success refine hds 9 (by rfl) ?_); first | (refine zN (fun i => decide (i < 200)) (by simp only [inH, idsH, hsel, AV.ids, AV.idsL, AV.idsR, AObj.ids, hget, go_sem, aeq, aeq.aeqF, simprocAttr]) ?_; simp only [go_sem, aeq, aeq.aeqF, simprocAttr, hcmp, hsel, keepT]; refine zn ?_; simp only [go_sem, aeq, aeq.aeqF, simprocAttr, hcmp]) | ((first | refine zv noTab (zb _) (fun K hK => ?_) | refine zB noTab (zb _) ?_ | refine ze noTab (zb _) mx (fun K hK => ?_) | refine zj noTab (zb _) mx ?_ | refine zh ?_ | refine zi ?_ | refine zn ?_); simp only [go_sem, aeq, aeq.aeqF, simprocAttr, hcmp]) | refine zq (fun K hK => ?_) | refine zo ?_ | refine zf rfl ?_ | refine zg rfl ?_ | refine zp rfl (fun hc => ?_) (fun hc => ?_) | (refine hK _ ?_; clear hK K) | ((first | refine (show AS.le _ _ from ?_) | refine (show leH _ _ from ?_) | refine (show inH _ _ from ?_)); simp only [AS.le, leT, leH, zr, AsgK, AV.le, AV.leL, AObj.le, inH, idsT, idsH, AV.ids, AV.idsL, AV.idsR, AObj.ids, lk, hget, go_sem, aeq, aeq.aeqF, simprocAttr, hcmp]) | refine fun (r2 : Rnd _) => ?_ | with_reducible refine And.intro ?_ ?_ | exact ‹_ <+: _› | (refine (show zt _ _ = true from ?_); kernel_rfl) | omega | assumption | clear hK K)
   have hh : HotOk Tryz.prog 200 (hotOf noHot 86 [.tp 200 0] [(201, .buf 5 (encT c)), (200, .tvar 133 [x0, .bsl 201 (encT c).length]), (100, .var [.fn (.yield y.yl) [] []])] (.d (.str (encT c))) [(201, .buf 5 gone), (200, .tvar 133 [x0, .bsl 201 (encT c).length]), (100, .var [.fn (.yield y.yl) [] []])]) :=
    zmd (zmc _ _) (fun K hK => (zqk (i := 200) (j := 201) (o := 0) (T := 133) (cs := [x0, .bsl 201 (encT c).length]) (xs := encT c) rfl rfl rfl rfl (by omega)).mono (by rintro r h' ⟨rfl, rfl⟩; exact hK))
   have hnt : ∀ a, tabNm 86 a = none := fun a => rfl
   refine zq (fun K2 hK2 => ziZ tabNm _ zfc hh (by kernel_rfl) ?_)
   clear hh
   have hKT : ∀ s', s'.le ⟨[(27, true, .d (.bool false))], [(100, .var [.fn (.yield y.yl) [] []])], some (ys.map (fun c => bItem (padR (encT c))) ++ [[.d (.str (padR (encT c)))]])⟩ → K2 s' := fun s' hle => hK2 _ (aw_le _ hle (by
    repeat' (first | (refine zN (fun i => decide (i < 200)) (by simp only [inH, idsH, hsel, AV.ids, AV.idsL, AV.idsR, AObj.ids, hget, go_sem, aeq, aeq.aeqF, simprocAttr]) ?_; simp only [go_sem, aeq, aeq.aeqF, simprocAttr, hI, hsel, keepT]; refine zn ?_; simp only [go_sem, aeq, aeq.aeqF, simprocAttr, hI]) | ((first | refine zv noTab (zb _) (fun K hK => ?_) | refine zB noTab (zb _) ?_ | refine ze noTab (zb _) mx (fun K hK => ?_) | refine zj noTab (zb _) mx ?_ | refine zh ?_ | refine zi ?_ | refine zn ?_); simp only [go_sem, aeq, aeq.aeqF, simprocAttr, hI]) | refine zq (fun K hK => ?_) | refine zo ?_ | refine zf rfl ?_ | refine zg rfl ?_ | refine zp rfl (fun hc => ?_) (fun hc => ?_) | (refine hK _ ?_; clear hK K) | ((first | refine (show AS.le _ _ from ?_) | refine (show leH _ _ from ?_) | refine (show inH _ _ from ?_)); simp only [AS.le, leT, leH, zr, AsgK, AV.le, AV.leL, AObj.le, inH, idsT, idsH, AV.ids, AV.idsL, AV.idsR, AObj.ids, lk, hget, go_sem, aeq, aeq.aeqF, simprocAttr, hI]) | refine fun (r2 : Rnd _) => ?_ | with_reducible refine And.intro ?_ ?_ | exact ‹_ <+: _› | (refine (show zt _ _ = true from ?_); kernel_rfl) | omega | assumption | clear hK K)
    ·rw [hG]; trivial
    ·rw [List.map_append, zkY, List.map_singleton, show unC [AV.d (.sl 1 (c.map intD))] = [.d (.str (padR (encT c)))] from zmf c]))
   have hKF : ∀ s', s'.le ⟨[(27, true, .d (.bool true))], [(100, .var [.fn (.yield y.yl) [] []])], none⟩ → K2 s' := fun s' hle => hK2 _ (aw_le _ hle (by
    repeat' (first | (refine zN (fun i => decide (i < 200)) (by simp only [inH, idsH, hsel, AV.ids, AV.idsL, AV.idsR, AObj.ids, hget, go_sem, aeq, aeq.aeqF, simprocAttr]) ?_; simp only [go_sem, aeq, aeq.aeqF, simprocAttr, hI, hsel, keepT]; refine zn ?_; simp only [go_sem, aeq, aeq.aeqF, simprocAttr, hI]) | ((first | refine zv noTab (zb _) (fun K hK => ?_) | refine zB noTab (zb _) ?_ | refine ze noTab (zb _) mx (fun K hK => ?_) | refine zj noTab (zb _) mx ?_ | refine zh ?_ | refine zi ?_ | refine zn ?_); simp only [go_sem, aeq, aeq.aeqF, simprocAttr, hI]) | refine zq (fun K hK => ?_) | refine zo ?_ | refine zf rfl ?_ | refine zg rfl ?_ | refine zp rfl (fun hc => ?_) (fun hc => ?_) | (refine hK _ ?_; clear hK K) | ((first | refine (show AS.le _ _ from ?_) | refine (show leH _ _ from ?_) | refine (show inH _ _ from ?_)); simp only [AS.le, leT, leH, zr, AsgK, AV.le, AV.leL, AObj.le, inH, idsT, idsH, AV.ids, AV.idsL, AV.idsR, AObj.ids, lk, hget, go_sem, aeq, aeq.aeqF, simprocAttr, hI]) | refine fun (r2 : Rnd _) => ?_ | with_reducible refine And.intro ?_ ?_ | exact ‹_ <+: _› | (refine (show zt _ _ = true from ?_); kernel_rfl) | omega | assumption | clear hK K)
    ·rw [hJ]; exact ⟨rfl, rfl, rfl⟩))
   have hit' : (ys.map (fun c => bItem (padR (encT c))) ++ [[.d (.str (padR (encT c)))]]) <+: (tbody p).map bItem := hit
   clear hK2 hit
   simp only [go_sem, aeq, aeq.aeqF, simprocAttr]
   repeat' (with_reducible refine And.intro ?_ ?_)
   all_goals first | omega | exact hit' | (refine hKT _ ?_; (simp only [AS.le, leT, leH, zr, AsgK, AV.le, AV.leL, AObj.le, inH, idsT, idsH, AV.ids, AV.idsL, AV.idsR, AObj.ids, lk, hget, go_sem, aeq, aeq.aeqF, simprocAttr]); done) | (refine hKF _ ?_; (simp only [AS.le, leT, leH, zr, AsgK, AV.le, AV.leL, AObj.le, inH, idsT, idsH, AV.ids, AV.idsL, AV.idsR, AObj.ids, lk, hget, go_sem, aeq, aeq.aeqF, simprocAttr]); done)
 ·intro _
  rw [hI]
  simp only [zkY]
  obtain ⟨B, hB⟩ : ∃ B, B = (zbz p.targets).map (fun c => bItem (padR (encT c))) := ⟨_, rfl⟩
  have hall : (tbody p).map bItem = B ++ p.texts.map bItem := by rw [hB]; exact zhr hne
  rw [← hB]
  repeat' (first | (refine zN (fun i => decide (i < 100)) (by simp only [inH, idsH, hsel, AV.ids, AV.idsL, AV.idsR, AObj.ids, hget, go_sem, aeq, aeq.aeqF, simprocAttr]) ?_; simp only [go_sem, aeq, aeq.aeqF, simprocAttr, hsel, keepT]; refine zn ?_; simp only [go_sem, aeq, aeq.aeqF, simprocAttr]) | ((first | refine zv noTab (zb _) (fun K hK => ?_) | refine zB noTab (zb _) ?_ | refine ze noTab (zb _) mx (fun K hK => ?_) | refine zj noTab (zb _) mx ?_ | refine zh ?_ | refine zi ?_ | refine zn ?_); simp only [go_sem, aeq, aeq.aeqF, simprocAttr]) | refine zq (fun K hK => ?_) | refine zo ?_ | refine zf rfl ?_ | refine zg rfl ?_ | refine zp rfl (fun hc => ?_) (fun hc => ?_) | (refine hK _ ?_; clear hK K) | ((first | refine (show AS.le _ _ from ?_) | refine (show leH _ _ from ?_) | refine (show inH _ _ from ?_)); simp only [AS.le, leT, leH, zr, AsgK, AV.le, AV.leL, AObj.le, inH, idsT, idsH, AV.ids, AV.idsL, AV.idsR, AObj.ids, lk, hget, go_sem, aeq, aeq.aeqF, simprocAttr]) | refine fun (r2 : Rnd _) => ?_ | with_reducible refine And.intro ?_ ?_ | exact ‹_ <+: _› | (refine (show zt _ _ = true from ?_); kernel_rfl) | omega | assumption | clear hK K)
  have htx := hp.texts
  refine zL (fun q : { i : Nat // i ≤ p.texts.length } => ⟨[(2, true, .vp 100 0), (29, true, .d (.sl 1 (p.texts.map strD))), (30, true, .d (.int .i64 p.texts.length)), (31, true, .d (.int .i64 q.1))], [(100, .var [.fn (.yield y.yl) [] []])], some (B ++ (p.texts.take q.1).map bItem)⟩) (fun q => p.texts.length - q.1) ⟨0, Nat.zero_le _⟩ (by simp only [AS.le, leT, leH, zr, AsgK, AV.le, AV.leL, AObj.le, inH, idsT, idsH, AV.ids, AV.idsL, AV.idsR, AObj.ids, lk, hget, go_sem, aeq, aeq.aeqF, simprocAttr] <;> simp) (fun q => ?_)
  obtain ⟨i, hi⟩ := q
  simp only at hi ⊢
  rcases zad strD p.texts i hi with ⟨s, hq, hlt, hcmp, hrow, hdr, htk⟩ | ⟨hend, hcmp⟩
  ·simp only [strD] at hrow
   have hwi := zP (i := i) (by omega)
   have hpr : ((B ++ (p.texts.take i).map bItem) ++ [[.d (.str s)]]) <+: (tbody p).map bItem := by
    rw [hall]
    refine ⟨(p.texts.drop (i + 1)).map bItem, ?_⟩
    have h1 := List.take_append_drop i p.texts
    rw [hdr] at h1
    conv => rhs; rw [← h1]
    simp [bItem]
   repeat' (first | (refine zN (fun i => decide (i < 100)) (by simp only [inH, idsH, hsel, AV.ids, AV.idsL, AV.idsR, AObj.ids, hget, go_sem, aeq, aeq.aeqF, simprocAttr]) ?_; simp only [go_sem, aeq, aeq.aeqF, simprocAttr, hcmp, hrow, hsel, keepT]; refine zn ?_; simp only [go_sem, aeq, aeq.aeqF, simprocAttr, hcmp, hrow]) | ((first | refine zv noTab (zb _) (fun K hK => ?_) | refine zB noTab (zb _) ?_ | refine ze noTab (zb _) mx (fun K hK => ?_) | refine zj noTab (zb _) mx ?_ | refine zh ?_ | refine zi ?_ | refine zn ?_); simp only [go_sem, aeq, aeq.aeqF, simprocAttr, hcmp, hrow]) | refine zq (fun K hK => ?_) | refine zo ?_ | refine zf rfl ?_ | refine zg rfl ?_ | refine zp rfl (fun hc => ?_) (fun hc => ?_) | (refine hK _ ?_; clear hK K) | ((first | refine (show AS.le _ _ from ?_) | refine (show leH _ _ from ?_) | refine (show inH _ _ from ?_)); simp only [AS.le, leT, leH, zr, AsgK, AV.le, AV.leL, AObj.le, inH, idsT, idsH, AV.ids, AV.idsL, AV.idsR, AObj.ids, lk, hget, go_sem, aeq, aeq.aeqF, simprocAttr, hcmp, hrow]) | refine fun (r2 : Rnd _) => ?_ | with_reducible refine And.intro ?_ ?_ | exact ‹_ <+: _› | (refine (show zt _ _ = true from ?_); kernel_rfl) | omega | assumption | clear hK K)
   exact ⟨⟨i + 1, by omega⟩, by simp only [AS.le, leT, leH, zr, AsgK, AV.le, AV.leL, AObj.le, inH, idsT, idsH, AV.ids, AV.idsL, AV.idsR, AObj.ids, lk, hget, go_sem, aeq, aeq.aeqF, simprocAttr, hwi, htk, List.map_append, List.append_assoc, bItem, List.map_singleton], by simp; omega⟩
  ·repeat' (first | (refine zN (fun i => decide (i < 100)) (by simp only [inH, idsH, hsel, AV.ids, AV.idsL, AV.idsR, AObj.ids, hget, go_sem, aeq, aeq.aeqF, simprocAttr]) ?_; simp only [go_sem, aeq, aeq.aeqF, simprocAttr, hcmp, hsel, keepT]; refine zn ?_; simp only [go_sem, aeq, aeq.aeqF, simprocAttr, hcmp]) | ((first | refine zv noTab (zb _) (fun K hK => ?_) | refine zB noTab (zb _) ?_ | refine ze noTab (zb _) mx (fun K hK => ?_) | refine zj noTab (zb _) mx ?_ | refine zh ?_ | refine zi ?_ | refine zn ?_); simp only [go_sem, aeq, aeq.aeqF, simprocAttr, hcmp]) | refine zq (fun K hK => ?_) | refine zo ?_ | refine zf rfl ?_ | refine zg rfl ?_ | refine zp rfl (fun hc => ?_) (fun hc => ?_) | (refine hK _ ?_; clear hK K) | ((first | refine (show AS.le _ _ from ?_) | refine (show leH _ _ from ?_) | refine (show inH _ _ from ?_)); simp only [AS.le, leT, leH, zr, AsgK, AV.le, AV.leL, AObj.le, inH, idsT, idsH, AV.ids, AV.idsL, AV.idsR, AObj.ids, lk, hget, go_sem, aeq, aeq.aeqF, simprocAttr, hcmp]) | refine fun (r2 : Rnd _) => ?_ | with_reducible refine And.intro ?_ ?_ | exact ‹_ <+: _› | (refine (show zt _ _ = true from ?_); kernel_rfl) | omega | assumption | clear hK K)
   rintro zs rfl
   rw [hall, hend, List.take_length]
 ·rw [hJ]
  rintro c h3 g3 ⟨rfl, rfl, rfl⟩
  repeat' (first | (refine zN (fun i => decide (i < 100)) (by simp only [inH, idsH, hsel, AV.ids, AV.idsL, AV.idsR, AObj.ids, hget, go_sem, aeq, aeq.aeqF, simprocAttr]) ?_; simp only [go_sem, aeq, aeq.aeqF, simprocAttr, hsel, keepT]; refine zn ?_; simp only [go_sem, aeq, aeq.aeqF, simprocAttr]) | ((first | refine zv noTab (zb _) (fun K hK => ?_) | refine zB noTab (zb _) ?_ | refine ze noTab (zb _) mx (fun K hK => ?_) | refine zj noTab (zb _) mx ?_ | refine zh ?_ | refine zi ?_ | refine zn ?_); simp only [go_sem, aeq, aeq.aeqF, simprocAttr]) | refine zq (fun K hK => ?_) | refine zo ?_ | refine zf rfl ?_ | refine zg rfl ?_ | refine zp rfl (fun hc => ?_) (fun hc => ?_) | (refine hK _ ?_; clear hK K) | ((first | refine (show AS.le _ _ from ?_) | refine (show leH _ _ from ?_) | refine (show inH _ _ from ?_)); simp only [AS.le, leT, leH, zr, AsgK, AV.le, AV.leL, AObj.le, inH, idsT, idsH, AV.ids, AV.idsL, AV.idsR, AObj.ids, lk, hget, go_sem, aeq, aeq.aeqF, simprocAttr]) | refine fun (r2 : Rnd _) => ?_ | with_reducible refine And.intro ?_ ?_ | exact ‹_ <+: _› | (refine (show zt _ _ = true from ?_); kernel_rfl) | omega | assumption | clear hK K)
open Go Go.Proofs
theorem zqm (p : Plan) : ACall Tryz.prog 163 0 [planA p] [] (fun r _ => r = .fn (.func 204) [] [.dp [.d (.sl 1 (p.targets.map intD)), .d (.sl 1 (p.texts.map strD))]]) := by
 refine zA ?_
 refine zk Tryz.func163 rfl (zu Tryz.func163 (by kernel_rfl) rfl) Tryz.ntmps163 (by simp) (fun base => ?_)
 repeat' (first | ((first | refine za noTab (zb _) (fun K hK => ?_) | refine zc noTab (zb _) ?_ | refine zh ?_ | refine zi ?_ | refine zn ?_); simp only [go_sem, aeq, aeq.aeqF, simprocAttr, Tryz.results163]) | refine zq (fun K hK => ?_) | (refine hK _ ?_; clear hK K) | refine fun (nb : Bool) (hnb : nb = true → _) => ?_ | with_reducible refine And.intro ?_ ?_ | omega | assumption | clear hK K)
noncomputable def zeA : Ent Tryz.prog := .ofL 163 (consL zU nilL) (fun (p, _) => True) (fun (p, _) => .fn (.func 204) [] [.dp [.d (.sl 1 (p.targets.map intD)), .d (.sl 1 (p.texts.map strD))]]) (fun (p, _) hp => ⟨rfl, zqm p⟩)
attribute [go_sem] zeA
noncomputable def tab6q : Tab := tabOf [zhg, zhq, zdP, zdQ, zby, zdH, zaJ, zeA]
theorem za4 : TabOk Tryz.prog tab6q := zz _
@[go_sem] theorem zs7 (args : List AV) : tab6q 160 args = (zhg).e args := rfl
@[go_sem] theorem zs8 (args : List AV) : tab6q 161 args = (zhq).e args := rfl
@[go_sem] theorem zs9 (args : List AV) : tab6q 162 args = (zdP).e args := rfl
@[go_sem] theorem zta (args : List AV) : tab6q 165 args = (zdQ).e args := rfl
@[go_sem] theorem zrk (args : List AV) : tab6q 147 args = (zby).e args := rfl
@[go_sem] theorem zn2 (args : List AV) : tab6q 164 args = (zdH).e args := rfl
@[go_sem] theorem znu (args : List AV) : tab6q 146 args = (zaJ).e args := rfl
@[go_sem] theorem zqn (args : List AV) : tab6q 163 args = (zeA).e args := rfl
@[simp] theorem tsum_nil (c : Int) : tsum c [] = c := rfl
def unB (x : List AV) : Txt := match x with | [.d (.str s)] => s | _ => []
theorem zk1 (l : List Txt) : (l.map bItem).map unB = l := by
 rw [List.map_map]
 conv => rhs; rw [← List.map_id l]
 exact List.map_congr_left (fun c _ => rfl)
theorem zk2 (t : Tx) (hp : PlanOk t.plan) (hf : pfit t.plan = true) (hn : t.plan.targets.length ≠ 0) (h0 : 0 ≤ t.seq) (h1 : t.seq < 18446744073709551616) : ACall Tryz.prog 107 0 [txA t] [] (fun r _ => r = .tup [.d (.sl 1 ((zdi t.seq t.plan).map strD)), .d (.int .i64 0)]) := by
 refine zA ?_
 refine zk Tryz.func107 rfl (zu Tryz.func107 (by kernel_rfl) rfl) Tryz.ntmps107 (by simp) (fun base => ?_)
 obtain ⟨hl, h24, h64⟩ := zaI hf
 have hrng := zsE hf
 have hn0 : ((t.plan.targets.length : Int) == 0) = false := by rw [beq_eq_false_iff_ne]; omega
 have hne : t.plan.targets ≠ [] := by intro e; rw [e] at hn; exact hn rfl
 have hp8 : putS8 t.seq 8 = putN t.seq.toNat 8 := by rw [putS8, if_neg (by omega)]; rfl
 have hp2 : putS8 (t.plan.targets.length : Int) 2 = putN t.plan.targets.length 2 := by rw [putS8, if_neg (by omega)]; rfl
 have hw5 : IntKind.i64.wrap (65535 - (t.plan.targets.length : Int)) = ((65535 - t.plan.targets.length : Nat) : Int) := by rw [zD (by omega) (by omega)]; omega
 have hp5 : putS8 ((65535 - t.plan.targets.length : Nat) : Int) 2 = putN (65535 - t.plan.targets.length) 2 := by rw [putS8, if_neg (by omega)]; rfl
 have hl8 := zar t.seq.toNat 8
 have hl2 := zar t.plan.targets.length 2
 have hl5 := zar (65535 - t.plan.targets.length) 2
 repeat' (first | ((first | refine za tab6q (za4) (fun K hK => ?_) | refine zc tab6q (za4) ?_ | refine ze tab6q (za4) mx (fun K hK => ?_) | refine zj tab6q (za4) mx ?_ | refine zh ?_ | refine zi ?_ | refine zn ?_); simp only [go_sem, aeq, aeq.aeqF, simprocAttr, hf, hn0, hp8, hp2, hl8, hl2, List.length_append, Tryz.results107]) | refine zq (fun K hK => ?_) | refine zo ?_ | refine zf rfl ?_ | refine zg rfl ?_ | refine zp rfl (fun hc => ?_) (fun hc => ?_) | (refine hK _ ?_; clear hK K) | ((first | refine (show AS.le _ _ from ?_) | refine (show leH _ _ from ?_) | refine (show inH _ _ from ?_)); simp only [AS.le, leT, leH, zr, AsgK, AV.le, AV.leL, AObj.le, inH, idsT, idsH, AV.ids, AV.idsL, AV.idsR, AObj.ids, lk, hget, go_sem, aeq, aeq.aeqF, simprocAttr, hf, hn0, hp8, hp2, hl8, hl2, List.length_append]) | refine fun (r2 : Rnd _) => ?_ | refine fun (nb : Bool) (hnb : nb = true → _) => ?_ | with_reducible refine And.intro ?_ ?_ | exact ‹_ <+: _› | (refine (show zt _ _ = true from ?_); kernel_rfl) | omega | assumption | refine fun (hg : (_ : Bool) = (_ : Bool)) => ?_ | clear hK K)
 obtain ⟨H, hH⟩ : ∃ H, H = putN t.seq.toNat 8 ++ putN t.plan.targets.length 2 := ⟨_, rfl⟩
 have hHl : H.length = 10 := by rw [hH, List.length_append, hl8, hl2]
 rw [← hH]
 have hc0 : 0 ≤ sumOf 0 H ∧ sumOf 0 H ≤ 4294967295 := zpP 0 H (by omega) (by omega)
 obtain ⟨I, hI⟩ : ∃ I : List (List AV) → AHeap × Option (List (List AV)), I = fun xs => ([(3, .var [.d (.int .u32 (tsum (sumOf 0 H) (xs.map unB)))]), (2, .var [.osl 1 1 (xs.length + 1) 0 (xs.length + 1)]), (1, .arr 1 ([.str []] :: (xs.map unB).map strD)), (0, .var [.d (.int .u64 t.seq), .d (.sl 1 (t.plan.targets.map intD)), .d (.sl 1 (t.plan.texts.map strD))])], some []) := ⟨_, rfl⟩
 obtain ⟨G, hG⟩ : ∃ G : List (List AV) → Prop, G = fun _ => True := ⟨_, rfl⟩
 obtain ⟨J, hJ⟩ : ∃ J : Code → AHeap → Option (List (List AV)) → Prop, J = fun c h g => False := ⟨_, rfl⟩
 have hB64 : ∀ s ∈ tbody t.plan, s.length = 64 := zjW hf
 have hBl : (tbody t.plan).length ≤ 26 := by
  have : (trows t.plan.targets).length ≤ 2 := by unfold trows; split <;> simp
  rw [tbody, List.length_append]
  omega
 refine za0 100 G I J (zi0 t.plan hp h24 hne hrng) (by simp only [go_sem, aeq, aeq.aeqF, simprocAttr]) rfl (zT rfl) (by simp [cxOf, cxY]) rfl (by rw [hG]; first | trivial | rfl | simp) (by rw [hI]; simp only [AS.le, leT, leH, zr, AsgK, AV.le, AV.leL, AObj.le, inH, idsT, idsH, AV.ids, AV.idsL, AV.idsR, AObj.ids, lk, hget, go_sem, aeq, aeq.aeqF, simprocAttr] <;> simp [AV.leL, AV.le]) (by rw [hI]; simp only [AS.le, leT, leH, zr, AsgK, AV.le, AV.leL, AObj.le, inH, idsT, idsH, AV.ids, AV.idsL, AV.idsR, AObj.ids, lk, hget, go_sem, aeq, aeq.aeqF, simprocAttr] <;> simp) (by rw [hI] <;> rfl) (by intro x hx; obtain ⟨q, _, rfl⟩ := List.mem_map.1 hx; rfl) (by intro t ht; simp at ht; first | (rcases ht with rfl | rfl <;> simp [cxOf, cxY] <;> done) | (subst ht; simp [cxOf, cxY])) ?_ ?_ ?_
 ·intro xs x hpre hgd l1 r1
  obtain ⟨ys, s, zs, rfl, rfl, hzl⟩ := zcV hpre
  have hs64 := hB64 s (by rw [hzl]; simp)
  have hyl : ys.length ≤ 26 := by rw [hzl, List.length_append] at hBl; omega
  simp only [bItem]
  refine aw_le ⟨[(33, true, .d (.str s)), (6, true, .vp 2 0), (7, true, .vp 3 0)], [(3, .var [.d (.int .u32 (tsum (sumOf 0 H) ys))]), (2, .var [.osl 1 1 (ys.length + 1) 0 (ys.length + 1)]), (1, .arr 1 ([.str []] :: ys.map strD)), (0, .var [.d (.int .u64 t.seq), .d (.sl 1 (t.plan.targets.map intD)), .d (.sl 1 (t.plan.texts.map strD))])], some []⟩ (by rw [hI]; simp only [zk1, List.length_map]; simp only [AS.le, leT, leH, zr, AsgK, AV.le, AV.leL, AObj.le, inH, idsT, idsH, AV.ids, AV.idsL, AV.idsR, AObj.ids, lk, hget, go_sem, aeq, aeq.aeqF, simprocAttr]) ?_
  have hsn : (ys.map bItem ++ [[AV.d (.str s)]]).map unB = ys ++ [s] := by rw [List.map_append, zk1]; rfl
  repeat' (first | ((first | refine za tab6q (za4) (fun K hK => ?_) | refine zc tab6q (za4) ?_ | refine zE tab6q [] (za4) mx (fun K hK => ?_) | refine zF tab6q [] (za4) mx ?_ | refine zh ?_ | refine zi ?_ | refine zn ?_); simp only [go_sem, aeq, aeq.aeqF, simprocAttr, hI, hsn, Tryz.results107]) | refine zq (fun K hK => ?_) | refine zo ?_ | refine zf rfl ?_ | refine zg rfl ?_ | refine zp rfl (fun hc => ?_) (fun hc => ?_) | (refine hK _ ?_; clear hK K) | ((first | refine (show AS.le _ _ from ?_) | refine (show leH _ _ from ?_) | refine (show inH _ _ from ?_)); simp only [AS.le, leT, leH, zr, AsgK, AV.le, AV.leL, AObj.le, inH, idsT, idsH, AV.ids, AV.idsL, AV.idsR, AObj.ids, lk, hget, go_sem, aeq, aeq.aeqF, simprocAttr, hI, hsn]) | refine fun (r2 : Rnd _) => ?_ | refine fun (nb : Bool) (hnb : nb = true → _) => ?_ | with_reducible refine And.intro ?_ ?_ | exact ‹_ <+: _› | (refine (show zah _ _ = true from ?_); kernel_rfl) | omega | assumption | refine fun (hg : (_ : Bool) = (_ : Bool)) => ?_ | clear hK K)
  ·rw [hG]; trivial
  ·rw [zpR]; rfl
  ·simp
  ·rw [List.map_append]; rfl
 ·intro _
  rw [hI]
  simp only [zk1, List.length_map]
  have hbl := zd7 (tsum (sumOf 0 H) (tbody t.plan))
  repeat' (first | ((first | refine za tab6q (za4) (fun K hK => ?_) | refine zc tab6q (za4) ?_ | refine ze tab6q (za4) mx (fun K hK => ?_) | refine zj tab6q (za4) mx ?_ | refine zh ?_ | refine zi ?_ | refine zn ?_); simp only [go_sem, aeq, aeq.aeqF, simprocAttr, hp5, hw5, hl5, Tryz.results107]) | refine zq (fun K hK => ?_) | refine zo ?_ | refine zf rfl ?_ | refine zg rfl ?_ | refine zp rfl (fun hc => ?_) (fun hc => ?_) | (refine hK _ ?_; clear hK K) | ((first | refine (show AS.le _ _ from ?_) | refine (show leH _ _ from ?_) | refine (show inH _ _ from ?_)); simp only [AS.le, leT, leH, zr, AsgK, AV.le, AV.leL, AObj.le, inH, idsT, idsH, AV.ids, AV.idsL, AV.idsR, AObj.ids, lk, hget, go_sem, aeq, aeq.aeqF, simprocAttr, hp5, hw5, hl5]) | refine fun (r2 : Rnd _) => ?_ | refine fun (nb : Bool) (hnb : nb = true → _) => ?_ | with_reducible refine And.intro ?_ ?_ | exact ‹_ <+: _› | (refine (show zt _ _ = true from ?_); kernel_rfl) | omega | assumption | refine fun (hg : (_ : Bool) = (_ : Bool)) => ?_ | clear hK K)
  ·simp only [List.length_append, hHl, hl5, hbl]; omega
  ·simp only [List.length_append, hHl, hl5, hbl]; omega
  ·rw [hH]
   simp [zdi, ttop, thead, zt0, strD]
 ·rw [hJ]
  rintro c h3 g3 h
  exact h.elim
noncomputable def zda : Ent Tryz.prog := .ofL 107 (consL txA_T nilL) (fun (t, _) => (PlanOk t.plan) ∧ (pfit t.plan = true) ∧ (t.plan.targets.length ≠ 0) ∧ (0 ≤ t.seq) ∧ (t.seq < 18446744073709551616)) (fun (t, _) => .tup [.d (.sl 1 ((zdi t.seq t.plan).map strD)), .d (.int .i64 0)]) (fun (t, _) hp => ⟨rfl, zk2 t hp.1 hp.2.1 hp.2.2.1 hp.2.2.2.1 hp.2.2.2.2⟩)
attribute [go_sem] zda
open Go Go.Proofs
structure Jour where
 seq : Int
 pos : Int
 deriving DecidableEq
def jourA (j : Jour) : AV := .agg [.d (.int .u64 j.seq), .d (.int .i64 j.pos)]
attribute [go_sem] jourA
theorem zsN (j : Jour) : Jour.mk j.seq j.pos = j := rfl
noncomputable def ziQ : PT Jour := aggT (consL (intT .u64) (consL (intT .i64) nilL)) (fun p => ⟨p.1, p.2.1⟩) (fun x => (x.seq, x.pos, ())) (fun _ => rfl)
attribute [go_sem] ziQ
attribute [go_sem] zsN
def jfit (j : Jour) : Bool := decide (1 ≤ j.seq) && decide (j.seq ≤ 4611686018427387904) && decide (0 ≤ j.pos) && decide (j.pos ≤ 81)
def zeh (pos size : Int) : Int := if pos < 0 ∨ size < 0 ∨ 81 < size ∨ 81 - size < pos then 0 else pos
def numF : Int → List Txt → List (Int × Txt)
 | _, [] => []
 | a, s :: r => (a, s) :: numF (a + 1) r
theorem zpT : ∀ (l : List Txt) (a : Int) (i : Nat) (s : Txt), l[i]? = some s → (numF a l)[i]? = some (a + i, s)
 | [], a, i, s, h => by simp at h
 | x :: l, a, 0, s, h => by
  have : x = s := by simpa using h
  subst this
  simp [numF]
 | x :: l, a, i + 1, s, h => by
  rw [numF, List.getElem?_cons_succ, zpT l (a + 1) i s (by simpa using h)]
  congr 2
  omega
theorem zl3 : ∀ (l : List Txt) (a : Int), (numF a l).length = l.length
 | [], _ => rfl
 | x :: l, a => by rw [numF, List.length_cons, zl3 l, List.length_cons]
def jtail (d : Disk) (j : Jour) (p : Plan) (L : List Txt) (A : Int) : Disk × Jour × Int :=
 if (layL d (numF (6 + A) L)).2 ≠ 0 then ((layL d (numF (6 + A) L)).1, j, (layL d (numF (6 + A) L)).2)
 else if (dflush (layL d (numF (6 + A) L)).1).2 ≠ 0 then ((dflush (layL d (numF (6 + A) L)).1).1, j, (dflush (layL d (numF (6 + A) L)).1).2)
 else if (play (dflush (layL d (numF (6 + A) L)).1).1 p).2 ≠ 0 then ((play (dflush (layL d (numF (6 + A) L)).1).1 p).1, j, (play (dflush (layL d (numF (6 + A) L)).1).1 p).2)
 else ((play (dflush (layL d (numF (6 + A) L)).1).1 p).1, ⟨j.seq + 1, A + L.length⟩, 0)
def jcommit (d : Disk) (j : Jour) (p : Plan) : Disk × Jour × Int :=
 if p.targets.length = 0 then (d, j, 0) else if 4611686018427387904 ≤ j.seq then (d, j, 10)
 else if (dflush d).2 ≠ 0 then ((dflush d).1, j, (dflush d).2)
 else jtail (dflush d).1 j p (zdi j.seq p) (zeh j.pos (zdi j.seq p).length)
theorem znb (pos size : Int) : 0 ≤ zeh pos size ∧ zeh pos size ≤ 81 := by
 unfold zeh
 split <;> omega
theorem znc {p : Plan} (seq : Int) (hf : pfit p = true) : (zdi seq p).length ≤ 27 ∧ ∀ s ∈ zdi seq p, s.length ≤ 64 := by
 obtain ⟨hl, h24, h64⟩ := zaI hf
 refine ⟨?_, ?_⟩
 ·rw [zdi, tbody, List.length_cons, List.length_append]
  have : (trows p.targets).length ≤ 2 := by unfold trows; split <;> simp
  omega
 ·intro s hs
  rcases List.mem_cons.1 hs with rfl | hs
  ·rw [ttop, zgC]
   ·exact Nat.le_refl _
   ·rw [List.length_append, List.length_append, List.length_append, thead, List.length_append, zar, zar, zar, zd7]
    decide
  ·rw [zjW hf s hs]; exact Nat.le_refl _
theorem zsO (j : Jour) : ACall Tryz.prog 66 0 [jourA j] [] (fun r _ => r = .d (.bool (jfit j))) := by
 refine zk Tryz.func66 rfl (zu Tryz.func66 (by kernel_rfl) rfl) Tryz.ntmps66 (by simp) (fun base => ?_)
 repeat' (first | ((first | refine za noTab (zb _) (fun K hK => ?_) | refine zc noTab (zb _) ?_ | refine zh ?_ | refine zi ?_ | refine zn ?_); simp only [go_sem, aeq, aeq.aeqF, simprocAttr, Tryz.results66]) | refine zq (fun K hK => ?_) | (refine hK _ ?_; clear hK K) | with_reducible refine And.intro ?_ ?_ | omega | assumption | refine fun (hg : (_ : Bool) = (_ : Bool)) => ?_ | clear hK K)
 rfl
noncomputable def zfL : Ent Tryz.prog := .ofL 66 (consL ziQ nilL) (fun (j, _) => True) (fun (j, _) => .d (.bool (jfit j))) (fun (j, _) hp => ⟨rfl, zsO j⟩)
attribute [go_sem] zfL
open Go Go.Proofs
theorem ztb : ACall Tryz.prog 166 0 [] [] (fun r _ => r = .tup [.d (.int .i64 6), .d (.int .i64 81)]) := by
 refine zk Tryz.func166 rfl (zu Tryz.func166 (by kernel_rfl) rfl) Tryz.ntmps166 (by simp) (fun base => ?_)
 repeat' (first | ((first | refine za noTab (zb _) (fun K hK => ?_) | refine zc noTab (zb _) ?_ | refine zh ?_ | refine zi ?_ | refine zn ?_); simp only [go_sem, aeq, aeq.aeqF, simprocAttr, Tryz.results166]) | refine zq (fun K hK => ?_) | (refine hK _ ?_; clear hK K) | with_reducible refine And.intro ?_ ?_ | omega | assumption | clear hK K)
noncomputable def zfU : Ent Tryz.prog := .ofL 166 nilL (fun _ => True) (fun _ => .tup [.d (.int .i64 6), .d (.int .i64 81)]) (fun _ hp => ⟨rfl, ztb ⟩)
attribute [go_sem] zfU
noncomputable def tabJa : Tab := tabOf [zfU]
theorem zmh : TabOk Tryz.prog tabJa := zz _
@[go_sem] theorem zrl (args : List AV) : tabJa 166 args = (zfU).e args := rfl
theorem ztc : ACall Tryz.prog 108 0 [] [] (fun r _ => r = .tup [.d (.int .i64 6), .d (.int .i64 81)]) := by
 refine zk Tryz.func108 rfl (zu Tryz.func108 (by kernel_rfl) rfl) Tryz.ntmps108 (by simp) (fun base => ?_)
 repeat' (first | ((first | refine za tabJa (zmh) (fun K hK => ?_) | refine zc tabJa (zmh) ?_ | refine zh ?_ | refine zi ?_ | refine zn ?_); simp only [go_sem, aeq, aeq.aeqF, simprocAttr, Tryz.results108]) | refine zq (fun K hK => ?_) | (refine hK _ ?_; clear hK K) | with_reducible refine And.intro ?_ ?_ | omega | assumption | clear hK K)
noncomputable def zcG : Ent Tryz.prog := .ofL 108 nilL (fun _ => True) (fun _ => .tup [.d (.int .i64 6), .d (.int .i64 81)]) (fun _ hp => ⟨rfl, ztc ⟩)
attribute [go_sem] zcG
noncomputable def tabJb : Tab := tabOf [zcG]
theorem zgE : TabOk Tryz.prog tabJb := zz _
@[go_sem] theorem zrm (args : List AV) : tabJb 108 args = (zcG).e args := rfl
theorem ztd (j : Jour) : ACall Tryz.prog 72 0 [jourA j] [] (fun r _ => r = .d (.bool (jfit j))) := by
 refine zk Tryz.func72 rfl (zu Tryz.func72 (by kernel_rfl) rfl) Tryz.ntmps72 (by simp) (fun base => ?_)
 repeat' (first | ((first | refine za tabJb (zgE) (fun K hK => ?_) | refine zc tabJb (zgE) ?_ | refine zh ?_ | refine zi ?_ | refine zn ?_); simp only [go_sem, aeq, aeq.aeqF, simprocAttr, Tryz.results72]) | refine zq (fun K hK => ?_) | (refine hK _ ?_; clear hK K) | with_reducible refine And.intro ?_ ?_ | omega | assumption | refine fun (hg : (_ : Bool) = (_ : Bool)) => ?_ | clear hK K)
 rfl
noncomputable def zfV : Ent Tryz.prog := .ofL 72 (consL ziQ nilL) (fun (j, _) => True) (fun (j, _) => .d (.bool (jfit j))) (fun (j, _) hp => ⟨rfl, ztd j⟩)
attribute [go_sem] zfV
theorem znv (pos : Int) (size : Int) (h0 : 0 ≤ size) (h1 : size ≤ 1000) : ACall Tryz.prog 109 0 [.d (.int .i64 pos), .d (.int .i64 size)] [] (fun r _ => r = .d (.int .i64 (zeh pos size))) := by
 refine zk Tryz.func109 rfl (zu Tryz.func109 (by kernel_rfl) rfl) Tryz.ntmps109 (by simp) (fun base => ?_)
 have hw : IntKind.i64.wrap (81 - size) = 81 - size := zD (by omega) (by omega)
 repeat' (first | ((first | refine za tabJb (zgE) (fun K hK => ?_) | refine zc tabJb (zgE) ?_ | refine zh ?_ | refine zi ?_ | refine zn ?_); simp only [go_sem, aeq, aeq.aeqF, simprocAttr, hw, Tryz.results109]) | refine zq (fun K hK => ?_) | refine zf rfl ?_ | refine zg rfl ?_ | refine zp rfl (fun hc => ?_) (fun hc => ?_) | (refine hK _ ?_; clear hK K) | with_reducible refine And.intro ?_ ?_ | omega | assumption | refine fun (hg : (_ : Bool) = (_ : Bool)) => ?_ | clear hK K)
 ·simp only [Bool.or_eq_true, decide_eq_true_eq, or_assoc] at hc
  rw [zeh, if_pos hc]
 ·rw [zeh, if_neg]
  intro h
  have : (decide (pos < 0) || decide (size < 0) || decide (81 < size) || decide (81 - size < pos)) = true := by
   simp only [Bool.or_eq_true, decide_eq_true_eq, or_assoc]; exact h
  rw [hc] at this; cases this
noncomputable def zdR : Ent Tryz.prog := .ofL 109 (consL (intT .i64) (consL (intT .i64) nilL)) (fun (pos, size, _) => (0 ≤ size) ∧ (size ≤ 1000)) (fun (pos, size, _) => .d (.int .i64 (zeh pos size))) (fun (pos, size, _) hp => ⟨rfl, znv pos size hp.1 hp.2⟩)
attribute [go_sem] zdR
theorem zte (a : Int) (L : List Txt) : ACall Tryz.prog 112 0 [.d (.int .i64 a), .d (.sl 1 (L.map strD))] [] (fun r _ => r = .fn (.func 170) [] [.dp [.d (.sl 1 (L.map strD))], .dp [.d (.int .i64 a)]]) := by
 refine zA ?_
 refine zk Tryz.func112 rfl (zu Tryz.func112 (by kernel_rfl) rfl) Tryz.ntmps112 (by simp) (fun base => ?_)
 repeat' (first | ((first | refine za noTab (zb _) (fun K hK => ?_) | refine zc noTab (zb _) ?_ | refine zh ?_ | refine zi ?_ | refine zn ?_); simp only [go_sem, aeq, aeq.aeqF, simprocAttr, Tryz.results112]) | refine zq (fun K hK => ?_) | (refine hK _ ?_; clear hK K) | refine fun (nb : Bool) (hnb : nb = true → _) => ?_ | with_reducible refine And.intro ?_ ?_ | omega | assumption | clear hK K)
noncomputable def zfW : Ent Tryz.prog := .ofL 112 (consL (intT .i64) (consL (slT 1 strD zeV) nilL)) (fun (a, L, _) => True) (fun (a, L, _) => .fn (.func 170) [] [.dp [.d (.sl 1 (L.map strD))], .dp [.d (.int .i64 a)]]) (fun (a, L, _) hp => ⟨rfl, zte a L⟩)
attribute [go_sem] zfW
theorem ztf (p : Plan) : ACall Tryz.prog 113 0 [planA p] [] (fun r _ => r = .fn (.func 171) [] [.dp (planC p)]) := by
 refine zA ?_
 refine zk Tryz.func113 rfl (zu Tryz.func113 (by kernel_rfl) rfl) Tryz.ntmps113 (by simp) (fun base => ?_)
 repeat' (first | ((first | refine za noTab (zb _) (fun K hK => ?_) | refine zc noTab (zb _) ?_ | refine zh ?_ | refine zi ?_ | refine zn ?_); simp only [go_sem, aeq, aeq.aeqF, simprocAttr, Tryz.results113]) | refine zq (fun K hK => ?_) | (refine hK _ ?_; clear hK K) | refine fun (nb : Bool) (hnb : nb = true → _) => ?_ | with_reducible refine And.intro ?_ ?_ | omega | assumption | clear hK K)
noncomputable def zfX : Ent Tryz.prog := .ofL 113 (consL zU nilL) (fun (p, _) => True) (fun (p, _) => .fn (.func 171) [] [.dp (planC p)]) (fun (p, _) hp => ⟨rfl, ztf p⟩)
attribute [go_sem] zfX
noncomputable def tabJc : Tab := tabOf [zhf, zaG]
theorem zci : TabOk Tryz.prog tabJc := zz _
@[go_sem] theorem ztg (args : List AV) : tabJc 172 args = (zhf).e args := rfl
@[go_sem] theorem znw (args : List AV) : tabJc 153 args = (zaG).e args := rfl
theorem zqo (d : Disk) (p : Plan) (hd : DiskOk d) (hp : PlanOk p) (hl : p.targets.length = p.texts.length) : ACall Tryz.prog 171 0 [diskA d, .dp (planC p)] [] (fun r _ => r = .tup [diskA (play d p).1, .d (.int .i64 (play d p).2)]) := by
 refine zA ?_
 refine zk Tryz.func171 rfl (zu Tryz.func171 (by kernel_rfl) rfl) Tryz.ntmps171 (by simp) (fun base => ?_)
 repeat' (first | ((first | refine za tabJc (zci) (fun K hK => ?_) | refine zc tabJc (zci) ?_ | refine zh ?_ | refine zi ?_ | refine zn ?_); simp only [go_sem, aeq, aeq.aeqF, simprocAttr, Tryz.results171]) | refine zq (fun K hK => ?_) | (refine hK _ ?_; clear hK K) | with_reducible refine And.intro ?_ ?_ | omega | assumption | clear hK K)
noncomputable def zeB : Ent Tryz.prog := .ofL 171 (consL zM (consL zpp nilL)) (fun (d, p, _) => (DiskOk d) ∧ (PlanOk p) ∧ (p.targets.length = p.texts.length)) (fun (d, p, _) => .tup [diskA (play d p).1, .d (.int .i64 (play d p).2)]) (fun (d, p, _) hp => ⟨rfl, zqo d p hp.1 hp.2.1 hp.2.2⟩)
attribute [go_sem] zeB
theorem zqp (d : Disk) (L : List Txt) (a : Int) (hd : DiskF d) (hn : L.length ≤ 100) (h0 : 0 ≤ a) (h1 : a ≤ 100) : ACall Tryz.prog 170 0 [diskA d, .dp [.d (.sl 1 (L.map strD))], .dp [.d (.int .i64 a)]] [] (fun r _ => r = .tup [diskA (layL d (numF a L)).1, .d (.int .i64 (layL d (numF a L)).2)]) := by
 refine zA ?_
 refine zk Tryz.func170 rfl (zu Tryz.func170 (by kernel_rfl) rfl) Tryz.ntmps170 (by simp) (fun base => ?_)
 repeat' (first | ((first | refine za tabJc (zci) (fun K hK => ?_) | refine zc tabJc (zci) ?_ | refine zh ?_ | refine zi ?_ | refine zn ?_); simp only [go_sem, aeq, aeq.aeqF, simprocAttr, Tryz.results170]) | refine zq (fun K hK => ?_) | refine zo ?_ | refine zf rfl ?_ | refine zg rfl ?_ | refine zp rfl (fun hc => ?_) (fun hc => ?_) | (refine hK _ ?_; clear hK K) | with_reducible refine And.intro ?_ ?_ | omega | assumption | clear hK K)
 refine zL (fun q : { q : Nat × Disk // q.1 ≤ L.length ∧ DiskF q.2 ∧ layL d (numF a L) = layL q.2 ((numF a L).drop q.1) } => ⟨[(2, true, .dp [.d (.int .i64 a)]), (3, true, .vp 0 0), (4, true, .vp 1 0), (6, true, .d (.int .i64 0)), (9, true, .d (.sl 1 (L.map strD))), (10, true, .d (.int .i64 L.length)), (11, true, .d (.int .i64 q.1.1))], [(1, .var [.d (.str []), .nils 2, .d (.int .i64 0), .d (.bool false), .nils 1]), (0, (.var [.d (.str q.1.2.data), .d (.sl 2 (q.1.2.cache.map putD)), .d (.int .i64 q.1.2.fuse), .d (.bool q.1.2.off), .d (.sl 1 (q.1.2.bad.map intD))]))], some []⟩) (fun q => L.length - q.1.1) ⟨(0, d), Nat.zero_le _, hd, rfl⟩ (by simp only [AS.le, leT, leH, zr, AsgK, AV.le, AV.leL, AObj.le, inH, idsT, idsH, AV.ids, AV.idsL, AV.idsR, AObj.ids, lk, hget, go_sem, aeq, aeq.aeqF, simprocAttr] <;> and_intros <;> rfl) (fun q => ?_)
 obtain ⟨⟨i, x⟩, hi, hx, hfx⟩ := q
 simp only at hi hx hfx ⊢
 have hxo := hx.ok
 rcases zad strD L i hi with ⟨s, hq, hlt, hcmp, hrow, hdr, htk⟩ | ⟨hend, hcmp⟩
 ·simp only [strD] at hrow
  have hwi := zP (i := i) (by omega)
  have hw1 : IntKind.i64.wrap (a + (i : Int)) = a + i := zD (by omega) (by omega)
  rw [zcS (zpT L a i s hq), layL] at hfx
  have hxw := hx.write (a + i) s
  repeat' (first | ((first | refine za tabJc (zci) (fun K hK => ?_) | refine zc tabJc (zci) ?_ | refine zh ?_ | refine zi ?_ | refine zn ?_); simp only [go_sem, aeq, aeq.aeqF, simprocAttr, hcmp, hrow, hw1, Tryz.results170]) | refine zq (fun K hK => ?_) | refine zo ?_ | refine zf rfl ?_ | refine zg rfl ?_ | refine zp rfl (fun hc => ?_) (fun hc => ?_) | (refine hK _ ?_; clear hK K) | with_reducible refine And.intro ?_ ?_ | omega | assumption | clear hK K)
  ·have hc : (zQ x (a + i) s).2 ≠ 0 := by simpa using hc
   rw [if_pos hc] at hfx
   rw [hfx]
  ·have hc : ¬ (zQ x (a + i) s).2 ≠ 0 := by simpa using hc
   have hc' : (zQ x (a + i) s).2 = 0 := by simpa using hc
   rw [if_neg hc] at hfx
   exact ⟨⟨(i + 1, (zQ x (a + i) s).1), by omega, hxw, hfx⟩, by simp only [AS.le, leT, leH, zr, AsgK, AV.le, AV.leL, AObj.le, inH, idsT, idsH, AV.ids, AV.idsL, AV.idsR, AObj.ids, lk, hget, go_sem, aeq, aeq.aeqF, simprocAttr, hwi, hc'], by simp; omega⟩
 ·subst hend
  have hlay : layL d (numF a L) = (x, 0) := by
   rw [hfx, List.drop_of_length_le (by rw [zl3]; omega)]; rfl
  repeat' (first | ((first | refine za tabJc (zci) (fun K hK => ?_) | refine zc tabJc (zci) ?_ | refine zh ?_ | refine zi ?_ | refine zn ?_); simp only [go_sem, aeq, aeq.aeqF, simprocAttr, hcmp, Tryz.results170]) | refine zq (fun K hK => ?_) | refine zo ?_ | refine zf rfl ?_ | refine zg rfl ?_ | refine zp rfl (fun hc => ?_) (fun hc => ?_) | (refine hK _ ?_; clear hK K) | with_reducible refine And.intro ?_ ?_ | omega | assumption | clear hK K)
  rw [hlay]
noncomputable def zeC : Ent Tryz.prog := .ofL 170 (consL zM (consL (dpT (consL (slT 1 strD zeV) nilL) (fun p => p) (fun p => p) (fun _ => rfl)) (consL (dpT (consL (intT .i64) nilL) (fun p => p) (fun p => p) (fun _ => rfl)) nilL))) (fun (d, (L, _), (a, _), _) => (DiskF d) ∧ (L.length ≤ 100) ∧ (0 ≤ a) ∧ (a ≤ 100)) (fun (d, (L, _), (a, _), _) => .tup [diskA (layL d (numF a L)).1, .d (.int .i64 (layL d (numF a L)).2)]) (fun (d, (L, _), (a, _), _) hp => ⟨rfl, zqp d L a hp.1 hp.2.1 hp.2.2.1 hp.2.2.2⟩)
attribute [go_sem] zeC
open Go Go.Proofs
def runD : List (Disk → Disk × Int) → Disk → Disk × Int
 | [], d => (d, 0)
 | f :: r, d => if (f d).2 ≠ 0 then f d else runD r (f d).1
def za1 (A : Int) (L : List Txt) (p : Plan) : List (Disk → Disk × Int) := [dflush, fun d => layL d (numF A L), dflush, fun d => play d p]
def zj7 (A : Int) (L : List Txt) (p : Plan) : List (List AV) := [[.fn (.func 111) [] []], [.fn (.func 170) [] [.dp [.d (.sl 1 (L.map strD))], .dp [.d (.int .i64 A)]]], [.fn (.func 111) [] []], [.fn (.func 171) [] [.dp [.d (.sl 1 (p.targets.map intD)), .d (.sl 1 (p.texts.map strD))]]]]
def wkD (d : Disk) (e : Int) : List AV := [.d (.str d.data), .d (.sl 2 (d.cache.map putD)), .d (.int .i64 d.fuse), .d (.bool d.off), .d (.sl 1 (d.bad.map intD)), .d (.int .i64 e)]
attribute [go_sem] wkD zj7
theorem DiskF.play {d : Disk} (h : DiskF d) (p : Plan) : DiskF (play d p).1 := DiskF.layL _ h
noncomputable def tabJd : Tab := tabOf [zcU, zeC, zeB]
theorem za5 : TabOk Tryz.prog tabJd := zz _
@[go_sem] theorem znx (args : List AV) : tabJd 111 args = (zcU).e args := rfl
@[go_sem] theorem zqq (args : List AV) : tabJd 170 args = (zeC).e args := rfl
@[go_sem] theorem zqr (args : List AV) : tabJd 171 args = (zeB).e args := rfl
theorem zvN (d : Disk) (A : Int) (L : List Txt) (p : Plan) (hd : DiskF d) (hp : PlanOk p) (hl : p.targets.length = p.texts.length) (hn : L.length ≤ 100) (h0 : 0 ≤ A) (h1 : A ≤ 100) :
  ACall Tryz.prog 110 6 [.vp 5 0, .asl 1 (zj7 A L p)] [(5, .var (wkD d 0))] (fun r h' => ∃ ob', h' = [(5, ob')] ∧ r = .tup [] ∧ ob' = .var (wkD (runD (za1 A L p) d).1 (runD (za1 A L p) d).2)) := by
 refine zk Tryz.func110 rfl (zu Tryz.func110 (by kernel_rfl) rfl) Tryz.ntmps110 (by simp) (fun base => ?_)
 repeat' (first | ((first | refine za tabJd (za5) (fun K hK => ?_) | refine zc tabJd (za5) ?_ | refine zh ?_ | refine zi ?_ | refine zn ?_ | refine zal ?_); simp only [go_sem, aeq, aeq.aeqF, simprocAttr, Tryz.results110]) | refine zq (fun K hK => ?_) | refine zo ?_ | refine zan ?_ | refine zf rfl ?_ | refine zg rfl ?_ | refine zp rfl (fun hc => ?_) (fun hc => ?_) | (refine hK _ ?_; clear hK K) | ((first | refine (show AS.le _ _ from ?_) | refine (show leH _ _ from ?_) | refine (show inH _ _ from ?_)); simp only [AS.le, leT, leH, zr, AsgK, AV.le, AV.leL, AObj.le, inH, idsT, idsH, AV.ids, AV.idsL, AV.idsR, AObj.ids, lk, hget, go_sem, aeq, aeq.aeqF, simprocAttr]) | refine fun (nb : Bool) (hnb : nb = true → _) => ?_ | with_reducible refine And.intro ?_ ?_ | omega | assumption | clear hK K)
 refine zL (fun q : { q : Nat × Disk // q.1 ≤ 4 ∧ DiskF q.2 ∧ runD (za1 A L p) d = runD ((za1 A L p).drop q.1) q.2 } => ⟨[(0, true, .vp 5 0), (6, true, .asl 1 (zj7 A L p)), (7, true, .d (.int .i64 4)), (8, true, .d (.int .i64 q.1.1))], [(5, .var (wkD q.1.2 0))], some []⟩) (fun q => 4 - q.1.1) ⟨(0, d), Nat.zero_le _, hd, rfl⟩ (by simp only [AS.le, leT, leH, zr, AsgK, AV.le, AV.leL, AObj.le, inH, idsT, idsH, AV.ids, AV.idsL, AV.idsR, AObj.ids, lk, hget, go_sem, aeq, aeq.aeqF, simprocAttr] <;> and_intros <;> rfl) (fun q => ?_)
 obtain ⟨⟨k, x⟩, hk, hx, hr⟩ := q
 simp only at hk hx hr ⊢
 have hxo := hx.ok
 have hxp := hx.puts
 have h4 : k = 0 ∨ k = 1 ∨ k = 2 ∨ k = 3 ∨ k = 4 := by omega
 have hc0 : ((0 : Nat) : Int) = 0 := rfl
 have hc1 : ((1 : Nat) : Int) = 1 := rfl
 have hc2 : ((2 : Nat) : Int) = 2 := rfl
 have hc3 : ((3 : Nat) : Int) = 3 := rfl
 have hc4 : ((4 : Nat) : Int) = 4 := rfl
 have ht1 : Int.toNat 1 = 1 := rfl
 have ht2 : Int.toNat 2 = 2 := rfl
 have ht3 : Int.toNat 3 = 3 := rfl
 have hw1 : IntKind.i64.wrap 1 = 1 := by decide
 have hw2 : IntKind.i64.wrap 2 = 2 := by decide
 have hw3 : IntKind.i64.wrap 3 = 3 := by decide
 have hw4 : IntKind.i64.wrap 4 = 4 := by decide
 rcases h4 with rfl | rfl | rfl | rfl | rfl
 ·have hr' : runD (za1 A L p) d = if (dflush x).2 ≠ 0 then dflush x else runD ((za1 A L p).drop 1) (dflush x).1 := hr
  have hxn : DiskF (dflush x).1 := hx.flush
  repeat' (first | ((first | refine za tabJd (za5) (fun K hK => ?_) | refine zc tabJd (za5) ?_ | refine zh ?_ | refine zi ?_ | refine zn ?_ | refine zal ?_); simp only [go_sem, aeq, aeq.aeqF, simprocAttr, hc0, hw1, Tryz.results110]) | refine zq (fun K hK => ?_) | refine zo ?_ | refine zan ?_ | refine zf rfl ?_ | refine zg rfl ?_ | refine zp rfl (fun hc => ?_) (fun hc => ?_) | (refine hK _ ?_; clear hK K) | ((first | refine (show AS.le _ _ from ?_) | refine (show leH _ _ from ?_) | refine (show inH _ _ from ?_)); simp only [AS.le, leT, leH, zr, AsgK, AV.le, AV.leL, AObj.le, inH, idsT, idsH, AV.ids, AV.idsL, AV.idsR, AObj.ids, lk, hget, go_sem, aeq, aeq.aeqF, simprocAttr, hc0, hw1]) | refine fun (nb : Bool) (hnb : nb = true → _) => ?_ | with_reducible refine And.intro ?_ ?_ | omega | assumption | clear hK K)
  ·have hc : (dflush x).2 ≠ 0 := by simpa using hc
   rw [if_pos hc] at hr'
   exact ⟨_, rfl, by rw [hr']⟩
  ·have hc : (dflush x).2 = 0 := by simpa using hc
   rw [if_neg (by rw [hc]; decide)] at hr'
   exact ⟨⟨(1, (dflush x).1), by show (_ : Nat) ≤ 4; omega, hxn, hr'⟩, by simp only [AS.le, leT, leH, zr, AsgK, AV.le, AV.leL, AObj.le, inH, idsT, idsH, AV.ids, AV.idsL, AV.idsR, AObj.ids, lk, hget, go_sem, aeq, aeq.aeqF, simprocAttr, hw1, hc] <;> and_intros <;> rfl, by simp⟩
 ·have hr' : runD (za1 A L p) d = if (layL x (numF A L)).2 ≠ 0 then layL x (numF A L) else runD ((za1 A L p).drop 2) (layL x (numF A L)).1 := hr
  have hxn : DiskF (layL x (numF A L)).1 := DiskF.layL _ hx
  repeat' (first | ((first | refine za tabJd (za5) (fun K hK => ?_) | refine zc tabJd (za5) ?_ | refine zh ?_ | refine zi ?_ | refine zn ?_ | refine zal ?_); simp only [go_sem, aeq, aeq.aeqF, simprocAttr, hc1, hw2, ht1, Tryz.results110]) | refine zq (fun K hK => ?_) | refine zo ?_ | refine zan ?_ | refine zf rfl ?_ | refine zg rfl ?_ | refine zp rfl (fun hc => ?_) (fun hc => ?_) | (refine hK _ ?_; clear hK K) | ((first | refine (show AS.le _ _ from ?_) | refine (show leH _ _ from ?_) | refine (show inH _ _ from ?_)); simp only [AS.le, leT, leH, zr, AsgK, AV.le, AV.leL, AObj.le, inH, idsT, idsH, AV.ids, AV.idsL, AV.idsR, AObj.ids, lk, hget, go_sem, aeq, aeq.aeqF, simprocAttr, hc1, hw2, ht1]) | refine fun (nb : Bool) (hnb : nb = true → _) => ?_ | with_reducible refine And.intro ?_ ?_ | omega | assumption | clear hK K)
  ·have hc : (layL x (numF A L)).2 ≠ 0 := by simpa using hc
   rw [if_pos hc] at hr'
   exact ⟨_, rfl, by rw [hr']⟩
  ·have hc : (layL x (numF A L)).2 = 0 := by simpa using hc
   rw [if_neg (by rw [hc]; decide)] at hr'
   exact ⟨⟨(2, (layL x (numF A L)).1), by show (_ : Nat) ≤ 4; omega, hxn, hr'⟩, by simp only [AS.le, leT, leH, zr, AsgK, AV.le, AV.leL, AObj.le, inH, idsT, idsH, AV.ids, AV.idsL, AV.idsR, AObj.ids, lk, hget, go_sem, aeq, aeq.aeqF, simprocAttr, hw2, hc] <;> and_intros <;> rfl, by simp⟩
 ·have hr' : runD (za1 A L p) d = if (dflush x).2 ≠ 0 then dflush x else runD ((za1 A L p).drop 3) (dflush x).1 := hr
  have hxn : DiskF (dflush x).1 := hx.flush
  repeat' (first | ((first | refine za tabJd (za5) (fun K hK => ?_) | refine zc tabJd (za5) ?_ | refine zh ?_ | refine zi ?_ | refine zn ?_ | refine zal ?_); simp only [go_sem, aeq, aeq.aeqF, simprocAttr, hc2, hw3, ht2, Tryz.results110]) | refine zq (fun K hK => ?_) | refine zo ?_ | refine zan ?_ | refine zf rfl ?_ | refine zg rfl ?_ | refine zp rfl (fun hc => ?_) (fun hc => ?_) | (refine hK _ ?_; clear hK K) | ((first | refine (show AS.le _ _ from ?_) | refine (show leH _ _ from ?_) | refine (show inH _ _ from ?_)); simp only [AS.le, leT, leH, zr, AsgK, AV.le, AV.leL, AObj.le, inH, idsT, idsH, AV.ids, AV.idsL, AV.idsR, AObj.ids, lk, hget, go_sem, aeq, aeq.aeqF, simprocAttr, hc2, hw3, ht2]) | refine fun (nb : Bool) (hnb : nb = true → _) => ?_ | with_reducible refine And.intro ?_ ?_ | omega | assumption | clear hK K)
  ·have hc : (dflush x).2 ≠ 0 := by simpa using hc
   rw [if_pos hc] at hr'
   exact ⟨_, rfl, by rw [hr']⟩
  ·have hc : (dflush x).2 = 0 := by simpa using hc
   rw [if_neg (by rw [hc]; decide)] at hr'
   exact ⟨⟨(3, (dflush x).1), by show (_ : Nat) ≤ 4; omega, hxn, hr'⟩, by simp only [AS.le, leT, leH, zr, AsgK, AV.le, AV.leL, AObj.le, inH, idsT, idsH, AV.ids, AV.idsL, AV.idsR, AObj.ids, lk, hget, go_sem, aeq, aeq.aeqF, simprocAttr, hw3, hc] <;> and_intros <;> rfl, by simp⟩
 ·have hr' : runD (za1 A L p) d = if (play x p).2 ≠ 0 then play x p else runD ((za1 A L p).drop 4) (play x p).1 := hr
  have hxn : DiskF (play x p).1 := hx.play p
  repeat' (first | ((first | refine za tabJd (za5) (fun K hK => ?_) | refine zc tabJd (za5) ?_ | refine zh ?_ | refine zi ?_ | refine zn ?_ | refine zal ?_); simp only [go_sem, aeq, aeq.aeqF, simprocAttr, hc3, hw4, ht3, Tryz.results110]) | refine zq (fun K hK => ?_) | refine zo ?_ | refine zan ?_ | refine zf rfl ?_ | refine zg rfl ?_ | refine zp rfl (fun hc => ?_) (fun hc => ?_) | (refine hK _ ?_; clear hK K) | ((first | refine (show AS.le _ _ from ?_) | refine (show leH _ _ from ?_) | refine (show inH _ _ from ?_)); simp only [AS.le, leT, leH, zr, AsgK, AV.le, AV.leL, AObj.le, inH, idsT, idsH, AV.ids, AV.idsL, AV.idsR, AObj.ids, lk, hget, go_sem, aeq, aeq.aeqF, simprocAttr, hc3, hw4, ht3]) | refine fun (nb : Bool) (hnb : nb = true → _) => ?_ | with_reducible refine And.intro ?_ ?_ | omega | assumption | clear hK K)
  ·have hc : (play x p).2 ≠ 0 := by simpa using hc
   rw [if_pos hc] at hr'
   exact ⟨_, rfl, by rw [hr']⟩
  ·have hc : (play x p).2 = 0 := by simpa using hc
   rw [if_neg (by rw [hc]; decide)] at hr'
   exact ⟨⟨(4, (play x p).1), by show (_ : Nat) ≤ 4; omega, hxn, hr'⟩, by simp only [AS.le, leT, leH, zr, AsgK, AV.le, AV.leL, AObj.le, inH, idsT, idsH, AV.ids, AV.idsL, AV.idsR, AObj.ids, lk, hget, go_sem, aeq, aeq.aeqF, simprocAttr, hw4, hc] <;> and_intros <;> rfl, by simp⟩
 ·repeat' (first | ((first | refine za tabJd (za5) (fun K hK => ?_) | refine zc tabJd (za5) ?_ | refine zh ?_ | refine zi ?_ | refine zn ?_ | refine zal ?_); simp only [go_sem, aeq, aeq.aeqF, simprocAttr, hc4, Tryz.results110]) | refine zq (fun K hK => ?_) | refine zo ?_ | refine zan ?_ | refine zf rfl ?_ | refine zg rfl ?_ | refine zp rfl (fun hc => ?_) (fun hc => ?_) | (refine hK _ ?_; clear hK K) | ((first | refine (show AS.le _ _ from ?_) | refine (show leH _ _ from ?_) | refine (show inH _ _ from ?_)); simp only [AS.le, leT, leH, zr, AsgK, AV.le, AV.leL, AObj.le, inH, idsT, idsH, AV.ids, AV.idsL, AV.idsR, AObj.ids, lk, hget, go_sem, aeq, aeq.aeqF, simprocAttr, hc4]) | refine fun (nb : Bool) (hnb : nb = true → _) => ?_ | with_reducible refine And.intro ?_ ?_ | omega | assumption | clear hK K)
  have hr' : runD (za1 A L p) d = (x, 0) := hr
  exact ⟨_, rfl, by rw [hr']⟩
noncomputable def tabJe : Tab := tabOf [zda, zcG, zdR, zfW, zfX]
theorem zav : TabOk Tryz.prog tabJe := zz _
@[go_sem] theorem zny (args : List AV) : tabJe 107 args = (zda).e args := rfl
@[go_sem] theorem zrn (args : List AV) : tabJe 108 args = (zcG).e args := rfl
@[go_sem] theorem zn3 (args : List AV) : tabJe 109 args = (zdR).e args := rfl
@[go_sem] theorem zro (args : List AV) : tabJe 112 args = (zfW).e args := rfl
@[go_sem] theorem zrp (args : List AV) : tabJe 113 args = (zfX).e args := rfl
theorem zqs (d : Disk) (A : Int) (L : List Txt) (p : Plan) (j : Jour) : (if (dflush d).2 ≠ 0 then ((dflush d).1, j, (dflush d).2) else jtail (dflush d).1 j p L A) = (if (runD (za1 (6 + A) L p) d).2 ≠ 0 then ((runD (za1 (6 + A) L p) d).1, j, (runD (za1 (6 + A) L p) d).2) else ((runD (za1 (6 + A) L p) d).1, ⟨j.seq + 1, A + L.length⟩, 0)) := by
 simp only [za1, runD, jtail]
 repeat' split
 all_goals simp_all
theorem zk6 (d : Disk) (j : Jour) (p : Plan) (hd : DiskF d) (hf : pfit p = true) (h0 : 0 ≤ j.seq) (h1 : j.seq < 18446744073709551616) : ACall Tryz.prog 49 0 [diskA d, jourA j, planA p] [] (fun r _ => r = .tup [diskA (jcommit d j p).1, jourA (jcommit d j p).2.1, .d (.int .i64 (jcommit d j p).2.2)]) := by
 refine zA ?_
 refine zk Tryz.func49 rfl (zu Tryz.func49 (by kernel_rfl) rfl) Tryz.ntmps49 (by simp) (fun base => ?_)
 obtain ⟨hl, h24, h64⟩ := zaI hf
 have hpo : PlanOk p := ⟨by omega, by omega⟩
 have hdo := hd.ok
 have hdp := hd.puts
 by_cases hn : p.targets.length = 0
 ·have hb : ((p.targets.length : Int) == 0) = true := by rw [hn]; rfl
  repeat' (first | ((first | refine za tabJe (zav) (fun K hK => ?_) | refine zc tabJe (zav) ?_ | refine ze tabJe (zav) mx (fun K hK => ?_) | refine zj tabJe (zav) mx ?_ | refine zh ?_ | refine zi ?_ | refine zn ?_); simp only [go_sem, aeq, aeq.aeqF, simprocAttr, hb, Tryz.results49]) | refine zq (fun K hK => ?_) | refine zo ?_ | refine zf rfl ?_ | refine zg rfl ?_ | refine zp rfl (fun hc => ?_) (fun hc => ?_) | (refine hK _ ?_; clear hK K) | ((first | refine (show AS.le _ _ from ?_) | refine (show leH _ _ from ?_) | refine (show inH _ _ from ?_)); simp only [AS.le, leT, leH, zr, AsgK, AV.le, AV.leL, AObj.le, inH, idsT, idsH, AV.ids, AV.idsL, AV.idsR, AObj.ids, lk, hget, go_sem, aeq, aeq.aeqF, simprocAttr, hb]) | refine fun (nb : Bool) (hnb : nb = true → _) => ?_ | with_reducible refine And.intro ?_ ?_ | (refine (show zt _ _ = true from ?_); kernel_rfl) | omega | assumption | clear hK K)
  rw [jcommit, if_pos hn]
 have hb : ((p.targets.length : Int) == 0) = false := by rw [beq_eq_false_iff_ne]; omega
 by_cases hs : 4611686018427387904 ≤ j.seq
 ·have hb2 : decide (4611686018427387904 ≤ j.seq) = true := decide_eq_true hs
  repeat' (first | ((first | refine za tabJe (zav) (fun K hK => ?_) | refine zc tabJe (zav) ?_ | refine ze tabJe (zav) mx (fun K hK => ?_) | refine zj tabJe (zav) mx ?_ | refine zh ?_ | refine zi ?_ | refine zn ?_); simp only [go_sem, aeq, aeq.aeqF, simprocAttr, hb, hb2, Tryz.results49]) | refine zq (fun K hK => ?_) | refine zo ?_ | refine zf rfl ?_ | refine zg rfl ?_ | refine zp rfl (fun hc => ?_) (fun hc => ?_) | (refine hK _ ?_; clear hK K) | ((first | refine (show AS.le _ _ from ?_) | refine (show leH _ _ from ?_) | refine (show inH _ _ from ?_)); simp only [AS.le, leT, leH, zr, AsgK, AV.le, AV.leL, AObj.le, inH, idsT, idsH, AV.ids, AV.idsL, AV.idsR, AObj.ids, lk, hget, go_sem, aeq, aeq.aeqF, simprocAttr, hb, hb2]) | refine fun (nb : Bool) (hnb : nb = true → _) => ?_ | with_reducible refine And.intro ?_ ?_ | (refine (show zt _ _ = true from ?_); kernel_rfl) | omega | assumption | clear hK K)
  rw [jcommit, if_neg hn, if_pos hs]
 have hb2 : decide (4611686018427387904 ≤ j.seq) = false := decide_eq_false hs
 obtain ⟨htl, ht64⟩ := znc j.seq hf
 have hjr := znb j.pos (zdi j.seq p).length
 have hjc : jcommit d j p = if (dflush d).2 ≠ 0 then ((dflush d).1, j, (dflush d).2) else jtail (dflush d).1 j p (zdi j.seq p) (zeh j.pos (zdi j.seq p).length) := by rw [jcommit, if_neg hn, if_neg hs]
 rw [zqs] at hjc
 obtain ⟨L, hL⟩ : ∃ L, L = zdi j.seq p := ⟨_, rfl⟩
 rw [← hL] at htl ht64 hjr hjc
 obtain ⟨A, hA⟩ : ∃ A, A = zeh j.pos L.length := ⟨_, rfl⟩
 rw [← hA] at hjr hjc
 have hw6 : IntKind.i64.wrap (6 + A) = 6 + A := zD (by omega) (by omega)
 repeat' ((fail_if_success refine hds 9 (by rfl) ?_); first | ((first | refine za tabJe (zav) (fun K hK => ?_) | refine zc tabJe (zav) ?_ | refine ze tabJe (zav) mx (fun K hK => ?_) | refine zj tabJe (zav) mx ?_ | refine zh ?_ | refine zi ?_ | refine zn ?_); simp only [go_sem, aeq, aeq.aeqF, simprocAttr, hb, hb2, ← hL, ← hA, Tryz.results49]) | refine zq (fun K hK => ?_) | refine zo ?_ | refine zf rfl ?_ | refine zg rfl ?_ | refine zp rfl (fun hc => ?_) (fun hc => ?_) | (refine hK _ ?_; clear hK K) | ((first | refine (show AS.le _ _ from ?_) | refine (show leH _ _ from ?_) | refine (show inH _ _ from ?_)); simp only [AS.le, leT, leH, zr, AsgK, AV.le, AV.leL, AObj.le, inH, idsT, idsH, AV.ids, AV.idsL, AV.idsR, AObj.ids, lk, hget, go_sem, aeq, aeq.aeqF, simprocAttr, hb, hb2, ← hL, ← hA]) | refine fun (nb : Bool) (hnb : nb = true → _) => ?_ | with_reducible refine And.intro ?_ ?_ | (refine (show zt _ _ = true from ?_); kernel_rfl) | omega | assumption | clear hK K)
 obtain ⟨H, hH⟩ : ∃ H : AHeap, H = [(4, .var [.d (.int .u64 0), .d (.int .i64 0)]), (3, .var [.d (.str []), .nils 2, .d (.int .i64 0), .d (.bool false), .nils 1]), (2, .var [.d (.sl 1 (p.targets.map intD)), .d (.sl 1 (p.texts.map strD))]), (1, .var [.d (.int .u64 j.seq), .d (.int .i64 j.pos)]), (0, (.var [.d (.str d.data), .d (.sl 2 (d.cache.map putD)), .d (.int .i64 d.fuse), .d (.bool d.off), .d (.sl 1 (d.bad.map intD))]))] := ⟨_, rfl⟩
 have hh : HotOk Tryz.prog 0 (hotOf noHot 110 [.vp 5 0, .asl 1 (zj7 (6 + A) L p)] ((5, .var (wkD d 0)) :: H) (.tup []) ((5, .var (wkD (runD (za1 (6 + A) L p) d).1 (runD (za1 (6 + A) L p) d).2)) :: H)) := by
  rw [hH]
  refine zmd (zmc _ _) (fun K hK => ((zvN d (6 + A) L p hd hpo hl (by omega) (by omega) (by omega)).one (fl' := 0) rfl rfl (zT rfl) rfl (by simp [AObj.ids, AV.idsL, AV.ids, wkD]) (by simp [AV.idsL, AV.ids, AV.idsR, zj7]) (by omega)).mono ?_)
  rintro r h' ⟨ob', ⟨rfl, rfl⟩, rfl⟩
  exact hK
 obtain ⟨X, hX⟩ : ∃ X, X = runD (za1 (6 + A) L p) d := ⟨_, rfl⟩
 rw [← hX] at hh hjc
 have hdt : ∀ a, tabJe 110 a = none := fun a => rfl
 rw [hH] at hh
 refine zfR tabJe _ [0, 1, 2, 4] 6 rfl (by kernel_rfl) zav hh (by kernel_rfl) ⟨[(4, true, .vp 1 0), (6, true, .vp 3 0), (7, true, .vp 4 0), (9, true, .d (.sl 1 (L.map strD))), (13, true, .d (.int .i64 A)), (14, true, .vp 5 0)], (5, .var (wkD X.1 X.2)) :: [(4, .var [.d (.int .u64 0), .d (.int .i64 0)]), (3, .var [.d (.str []), .nils 2, .d (.int .i64 0), .d (.bool false), .nils 1]), (1, .var [.d (.int .u64 j.seq), .d (.int .i64 j.pos)])], some []⟩ ?_ ?_
 ·clear hh
  simp only [AS.le, leT, leH, zr, AsgK, AV.le, AV.leL, AObj.le, inH, idsT, idsH, AV.ids, AV.idsL, AV.idsR, AObj.ids, lk, hget, go_sem, aeq, aeq.aeqF, simprocAttr, hw6]
 ·clear hh
  have hws : IntKind.u64.wrap (j.seq + 1) = j.seq + 1 := zaH (by omega) (by omega)
  have hwl : IntKind.i64.wrap (A + (L.length : Int)) = A + L.length := zD (by omega) (by omega)
  repeat' (first | ((first | refine za tabJe (zav) (fun K hK => ?_) | refine zc tabJe (zav) ?_ | refine zE tabJe [] (zav) mx (fun K hK => ?_) | refine zF tabJe [] (zav) mx ?_ | refine zh ?_ | refine zi ?_ | refine zn ?_); simp only [go_sem, aeq, aeq.aeqF, simprocAttr, hws, hwl, Tryz.results49]) | refine zq (fun K hK => ?_) | refine zo ?_ | refine zf rfl ?_ | refine zg rfl ?_ | refine zp rfl (fun hc => ?_) (fun hc => ?_) | (refine hK _ ?_; clear hK K) | ((first | refine (show AS.le _ _ from ?_) | refine (show leH _ _ from ?_) | refine (show inH _ _ from ?_)); simp only [AS.le, leT, leH, zr, AsgK, AV.le, AV.leL, AObj.le, inH, idsT, idsH, AV.ids, AV.idsL, AV.idsR, AObj.ids, lk, hget, go_sem, aeq, aeq.aeqF, simprocAttr, hws, hwl]) | refine fun (nb : Bool) (hnb : nb = true → _) => ?_ | with_reducible refine And.intro ?_ ?_ | (refine (show zah _ _ = true from ?_); kernel_rfl) | omega | assumption | clear hK K)
  ·have hc : X.2 ≠ 0 := by simpa using hc
   rw [hjc, if_pos hc]
  ·have hc : ¬ X.2 ≠ 0 := by simpa using hc
   rw [hjc, if_neg hc]
noncomputable def zdb : Ent Tryz.prog := .ofL 49 (consL zM (consL ziQ (consL zU nilL))) (fun (d, j, p, _) => (DiskF d) ∧ (pfit p = true) ∧ (0 ≤ j.seq) ∧ (j.seq < 18446744073709551616)) (fun (d, j, p, _) => .tup [diskA (jcommit d j p).1, jourA (jcommit d j p).2.1, .d (.int .i64 (jcommit d j p).2.2)]) (fun (d, j, p, _) hp => ⟨rfl, zk6 d j p hp.1 hp.2.1 hp.2.2.1 hp.2.2.2⟩)
attribute [go_sem] zdb
open Go Go.Proofs
structure Geom where
 guest : Int
 host : Int
 deriving DecidableEq
def geomA (g : Geom) : AV := .agg [.d (.int .i64 g.guest), .d (.int .i64 g.host)]
attribute [go_sem] geomA
theorem zsP (g : Geom) : Geom.mk g.guest g.host = g := rfl
noncomputable def zhl : PT Geom := aggT (consL (intT .i64) (consL (intT .i64) nilL)) (fun p => ⟨p.1, p.2.1⟩) (fun x => (x.guest, x.host, ())) (fun _ => rfl)
attribute [go_sem] zhl
attribute [go_sem] zsP
structure DP (d : Disk) (p : Plan) : Prop where
 d : DiskF d
 p : pfit p = true
def p0 : Plan := ⟨[], []⟩
theorem zge : pfit p0 = true := rfl
theorem DP.zero {d : Disk} {p : Plan} (h : DP d p) : DP d p0 := ⟨h.d, zge⟩
theorem DP.dok {d : Disk} {p : Plan} (h : DP d p) : DiskOk d := h.d.ok
theorem DP.puts {d : Disk} {p : Plan} (h : DP d p) : d.cache.all (putOk d) = true := h.d.puts
theorem DP.pok {d : Disk} {p : Plan} (h : DP d p) : PlanOk p := by
 obtain ⟨hl, h24, _⟩ := zaI h.p
 exact ⟨by omega, by omega⟩
theorem DP.plen {d : Disk} {p : Plan} (h : DP d p) : p.targets.length = p.texts.length := (zaI h.p).1
theorem ziR {d : Disk} {at_ : Int} (hf : d.cache.all (putOk d) = true) (he : (dread d at_).2 = 0) : (dread d at_).1.length = 64 := by
 unfold dread at he ⊢
 repeat' split
 all_goals first | (simp_all; done) | skip
 exact zlR hf (by simp_all)
theorem ze4 {d : Disk} {p : Plan} {at_ : Int} (h : DP d p) (he : (plook d p at_).2 = 0) : (plook d p at_).1.length = 64 := by
 unfold plook at he ⊢
 rcases zbx p.targets at_ with hk | ⟨k, hk, hkl⟩
 ·rw [if_neg (by omega)] at he ⊢
  exact ziR h.puts he
 ·rw [if_pos (by omega), hk, Int.toNat_natCast]
  obtain ⟨s, hq⟩ := zae (l := p.texts) (i := k) (by have := h.plen; omega)
  rw [List.getD_eq_getElem?_getD, hq]
  exact (zaI h.p).2.2 s (List.mem_of_getElem? hq)
def zR (k : Int) : Bool := decide (0 ≤ k) && decide (k < 256)
def rget (d : Disk) (p : Plan) (k : Int) : Int × Int :=
 if !zR k then (0, 10) else if (plook d p (87 + k / 32)).2 ≠ 0 then (0, (plook d p (87 + k / 32)).2)
 else (((takeN (((plook d p (87 + k / 32)).1.drop (2 * (k % 32)).toNat).take 2) : Nat) : Int), 0)
def radd (d : Disk) (p : Plan) (k by_ : Int) : Plan × Int :=
 if (rget d p k).2 ≠ 0 then (p, (rget d p k).2) else if by_ < -(rget d p k).1 ∨ 65535 - (rget d p k).1 < by_ then (p, 18)
 else zce d p (87 + k / 32) (2 * (k % 32)) (putN ((rget d p k).1 + by_).toNat 2)
def ze5 (d : Disk) (p : Plan) : Nat → Int → Int × Int
 | 0, _ => (0, 17)
 | m + 1, k => if (rget d p k).2 ≠ 0 then (0, (rget d p k).2) else if (rget d p0 k).2 ≠ 0 then (0, (rget d p0 k).2)
  else if (rget d p k).1 = 0 ∧ (rget d p0 k).1 = 0 then (k, 0) else ze5 d p m (k + 1)
def rfind (d : Disk) (p : Plan) (g : Geom) : Int × Int := ze5 d p g.host.toNat 0
def rtake (d : Disk) (p : Plan) (g : Geom) : Plan × Int × Int :=
 if (rfind d p g).2 ≠ 0 then (p, 0, (rfind d p g).2) else if (radd d p (rfind d p g).1 1).2 ≠ 0 then (p, 0, (radd d p (rfind d p g).1 1).2)
 else ((radd d p (rfind d p g).1 1).1, (rfind d p g).1, 0)
theorem zd8 (d : Disk) (p : Plan) (k : Int) : 0 ≤ (rget d p k).1 ∧ (rget d p k).1 ≤ 65535 := by
 unfold rget
 split
 ·exact ⟨Int.le_refl 0, show (0 : Int) ≤ 65535 by decide⟩
 split
 ·exact ⟨Int.le_refl 0, show (0 : Int) ≤ 65535 by decide⟩
 ·have := zcW (l := ((plook d p (87 + k / 32)).1.drop (2 * (k % 32)).toNat).take 2) (i := 2) (by rw [List.length_take]; omega)
  simp only
  omega
theorem zl4 {d : Disk} {p : Plan} {k by_ : Int} (h : pfit p = true) : pfit (radd d p k by_).1 = true := by
 unfold radd
 split
 ·exact h
 split
 ·exact h
 ·exact zh8 h
theorem DP.radd {d : Disk} {p : Plan} (h : DP d p) (k by_ : Int) : DP d (radd d p k by_).1 := ⟨h.d, zl4 h.p⟩
theorem DP.rtake {d : Disk} {p : Plan} (h : DP d p) (g : Geom) : DP d (rtake d p g).1 := by
 unfold Aw.rtake
 split
 ·exact h
 split
 ·exact h
 ·exact h.radd _ _
theorem hostOk_iff {k : Int} : zR k = true ↔ 0 ≤ k ∧ k < 256 := by simp [zR]
theorem zbd (k : Int) : (decide (k < 0) || decide (256 ≤ k)) = !zR k := by
 rw [zR, Bool.not_and]
 congr 1
 ·by_cases h : k < 0
  ·rw [decide_eq_true h, decide_eq_false (by omega)]; rfl
  ·rw [decide_eq_false h, decide_eq_true (by omega)]; rfl
 ·by_cases h : k < 256
  ·rw [decide_eq_true h, decide_eq_false (by omega)]; rfl
  ·rw [decide_eq_false h, decide_eq_true (by omega)]; rfl
theorem zhm {s : Txt} {z : Int} (n : Nat) (hz : z = n) (h0 : 0 < n) (h8 : n ≤ 8) (h : n ≤ s.length) : takeS s z = (((takeN (s.take n) : Nat) : Int), s.drop n, 0) := by
 subst hz
 rw [takeS, if_neg (by omega), if_neg (by omega)]
 simp
noncomputable def tab8a : Tab := tabOf [zcB, zb2, zev]
theorem zd9 : TabOk Tryz.prog tab8a := zz _
@[go_sem] theorem zre (args : List AV) : tab8a 100 args = (zcB).e args := rfl
@[go_sem] theorem zpU (args : List AV) : tab8a 54 args = (zb2).e args := rfl
@[go_sem] theorem zpV (args : List AV) : tab8a 57 args = (zev).e args := rfl
theorem zsQ (d : Disk) (p : Plan) (k : Int) (h : DP d p) : ACall Tryz.prog 43 0 [diskA d, planA p, .d (.int .i64 k)] [] (fun r _ => r = .tup [.d (.int .i64 (rget d p k).1), .d (.int .i64 (rget d p k).2)]) := by
 refine zk Tryz.func43 rfl (zu Tryz.func43 (by kernel_rfl) rfl) Tryz.ntmps43 (by simp) (fun base => ?_)
 have h1 := h.dok
 have h2 := h.pok
 have h3 := h.plen
 by_cases hk : zR k = true
 ·have hdec : (!zR k) = false := by rw [hk]; rfl
  obtain ⟨hk0, hk1⟩ := hostOk_iff.1 hk
  by_cases he : (plook d p (87 + k / 32)).2 = 0
  ·have hb : ((plook d p (87 + k / 32)).2 != 0) = false := by simpa using he
   have h64 := ze4 h he
   have hts := zhm (s := ((plook d p (87 + k / 32)).1.drop (2 * (k % 32)).toNat)) (z := 2) 2 rfl (by omega) (by omega) (by rw [List.length_drop]; omega)
   have hr := zd8 d p k
   have hrg : rget d p k = (((takeN (((plook d p (87 + k / 32)).1.drop (2 * (k % 32)).toNat).take 2) : Nat) : Int), 0) := by
    rw [rget, if_neg (by rw [hdec]; exact Bool.false_ne_true), if_neg (by simpa using he)]
   have hwr : IntKind.i64.wrap (rget d p k).1 = (rget d p k).1 := zD (by omega) (by omega)
   rw [hrg] at hwr
   simp only at hwr
   have hld : ((plook d p (87 + k / 32)).1.drop (2 * (k % 32)).toNat).length ≤ 64 := by rw [List.length_drop]; omega
   have htk : List.take (plook d p (87 + k / 32)).1.length (plook d p (87 + k / 32)).1 = (plook d p (87 + k / 32)).1 := List.take_length
   repeat' (first | ((first | refine za tab8a (zd9) (fun K hK => ?_) | refine zc tab8a (zd9) ?_ | refine zh ?_ | refine zi ?_ | refine zn ?_); simp only [go_sem, aeq, aeq.aeqF, simprocAttr, zbd, hdec, hb, hts, hwr, htk, Tryz.results43]) | refine zq (fun K hK => ?_) | refine zf rfl ?_ | refine zg rfl ?_ | refine zp rfl (fun hc => ?_) (fun hc => ?_) | (refine hK _ ?_; clear hK K) | with_reducible refine And.intro ?_ ?_ | omega | assumption | refine fun (hg : (_ : Bool) = (_ : Bool)) => ?_ | clear hK K)
   rw [hrg]
  ·have hb : ((plook d p (87 + k / 32)).2 != 0) = true := by simpa using he
   repeat' (first | ((first | refine za tab8a (zd9) (fun K hK => ?_) | refine zc tab8a (zd9) ?_ | refine zh ?_ | refine zi ?_ | refine zn ?_); simp only [go_sem, aeq, aeq.aeqF, simprocAttr, zbd, hdec, hb, Tryz.results43]) | refine zq (fun K hK => ?_) | refine zf rfl ?_ | refine zg rfl ?_ | refine zp rfl (fun hc => ?_) (fun hc => ?_) | (refine hK _ ?_; clear hK K) | with_reducible refine And.intro ?_ ?_ | omega | assumption | refine fun (hg : (_ : Bool) = (_ : Bool)) => ?_ | clear hK K)
   rw [rget, if_neg (by rw [hdec]; exact Bool.false_ne_true), if_pos he]
 ·have hdec : (!zR k) = true := by simpa using hk
  repeat' (first | ((first | refine za tab8a (zd9) (fun K hK => ?_) | refine zc tab8a (zd9) ?_ | refine zh ?_ | refine zi ?_ | refine zn ?_); simp only [go_sem, aeq, aeq.aeqF, simprocAttr, zbd, hdec, Tryz.results43]) | refine zq (fun K hK => ?_) | refine zf rfl ?_ | refine zg rfl ?_ | refine zp rfl (fun hc => ?_) (fun hc => ?_) | (refine hK _ ?_; clear hK K) | with_reducible refine And.intro ?_ ?_ | omega | assumption | refine fun (hg : (_ : Bool) = (_ : Bool)) => ?_ | clear hK K)
  rw [rget, if_pos hdec]
noncomputable def zfM : Ent Tryz.prog := .ofL 43 (consL zM (consL zU (consL (intT .i64) nilL))) (fun (d, p, k, _) => DP d p) (fun (d, p, k, _) => .tup [.d (.int .i64 (rget d p k).1), .d (.int .i64 (rget d p k).2)]) (fun (d, p, k, _) hp => ⟨rfl, zsQ d p k hp⟩)
attribute [go_sem] zfM
theorem zl5 {x : Int} : putS8 x 2 = putN x.toNat 2 := by rw [putS8, if_neg (by omega)]; rfl
theorem zt1 {x : Int} : putS8 x 4 = putN x.toNat 4 := by rw [putS8, if_neg (by omega)]; rfl
theorem zvM {x : Int} : putS8 x 8 = putN x.toNat 8 := by rw [putS8, if_neg (by omega)]; rfl
theorem zkO {d : Disk} {p : Plan} {k : Int} (h : (rget d p k).2 = 0) : 0 ≤ k ∧ k < 256 := by
 unfold rget at h
 by_cases hk : zR k = true
 ·exact hostOk_iff.1 hk
 ·rw [if_pos (by simpa using hk)] at h
  cases h
noncomputable def tab8b : Tab := tabOf [zfM, zcB, zcz, zdD]
theorem za3 : TabOk Tryz.prog tab8b := zz _
@[go_sem] theorem zrf (args : List AV) : tab8b 43 args = (zfM).e args := rfl
@[go_sem] theorem zrg (args : List AV) : tab8b 100 args = (zcB).e args := rfl
@[go_sem] theorem zrh (args : List AV) : tab8b 119 args = (zcz).e args := rfl
@[go_sem] theorem znZ (args : List AV) : tab8b 128 args = (zdD).e args := rfl
theorem zsR (d : Disk) (p : Plan) (k : Int) (by_ : Int) (h : DP d p) : ACall Tryz.prog 78 0 [diskA d, planA p, .d (.int .i64 k), .d (.int .i64 by_)] [] (fun r _ => r = .tup [planA (radd d p k by_).1, .d (.int .i64 (radd d p k by_).2)]) := by
 refine zA ?_
 refine zk Tryz.func78 rfl (zu Tryz.func78 (by kernel_rfl) rfl) Tryz.ntmps78 (by simp) (fun base => ?_)
 have h1 := h.dok
 have h2 := h.puts
 have h3 := h.p
 have hr := zd8 d p k
 by_cases he : (rget d p k).2 = 0
 ·have hb : ((rget d p k).2 != 0) = false := by simpa using he
  obtain ⟨hk0, hk1⟩ := zkO he
  have hw1 : IntKind.i64.wrap (0 - (rget d p k).1) = -(rget d p k).1 := by rw [zD (by omega) (by omega)]; omega
  have hw2 : IntKind.i64.wrap (65535 - (rget d p k).1) = 65535 - (rget d p k).1 := zD (by omega) (by omega)
  by_cases hc : by_ < -(rget d p k).1 ∨ 65535 - (rget d p k).1 < by_
  ·have hdec : (decide (by_ < -(rget d p k).1) || decide (65535 - (rget d p k).1 < by_)) = true := by simpa using hc
   repeat' (first | ((first | refine za tab8b (za3) (fun K hK => ?_) | refine zc tab8b (za3) ?_ | refine ze tab8b (za3) mx (fun K hK => ?_) | refine zj tab8b (za3) mx ?_ | refine zh ?_ | refine zi ?_ | refine zn ?_); simp only [go_sem, aeq, aeq.aeqF, simprocAttr, hb, hw1, hw2, hdec, Tryz.results78]) | refine zq (fun K hK => ?_) | refine zf rfl ?_ | refine zg rfl ?_ | refine zp rfl (fun hc => ?_) (fun hc => ?_) | (refine hK _ ?_; clear hK K) | with_reducible refine And.intro ?_ ?_ | (refine (show zt _ _ = true from ?_); kernel_rfl) | omega | assumption | refine fun (hg : (_ : Bool) = (_ : Bool)) => ?_ | clear hK K)
   rw [radd, if_neg (by simpa using he), if_pos hc]
  ·have hdec : (decide (by_ < -(rget d p k).1) || decide (65535 - (rget d p k).1 < by_)) = false := by simpa using hc
   have hw3 : IntKind.i64.wrap ((rget d p k).1 + by_) = (rget d p k).1 + by_ := zD (by omega) (by omega)
   have hw4 : IntKind.u64.wrap ((rget d p k).1 + by_) = (rget d p k).1 + by_ := zaH (by omega) (by omega)
   have hpl := zar ((rget d p k).1 + by_).toNat 2
   repeat' (first | ((first | refine za tab8b (za3) (fun K hK => ?_) | refine zc tab8b (za3) ?_ | refine ze tab8b (za3) mx (fun K hK => ?_) | refine zj tab8b (za3) mx ?_ | refine zh ?_ | refine zi ?_ | refine zn ?_); simp only [go_sem, aeq, aeq.aeqF, simprocAttr, hb, hw1, hw2, hw3, hw4, hdec, zl5, Tryz.results78]) | refine zq (fun K hK => ?_) | refine zf rfl ?_ | refine zg rfl ?_ | refine zp rfl (fun hc => ?_) (fun hc => ?_) | (refine hK _ ?_; clear hK K) | with_reducible refine And.intro ?_ ?_ | (refine (show zt _ _ = true from ?_); kernel_rfl) | omega | assumption | refine fun (hg : (_ : Bool) = (_ : Bool)) => ?_ | clear hK K)
   all_goals first | (rw [hpl]; decide) | skip
   rw [radd, if_neg (by simpa using he), if_neg hc]
 ·have hb : ((rget d p k).2 != 0) = true := by simpa using he
  repeat' (first | ((first | refine za tab8b (za3) (fun K hK => ?_) | refine zc tab8b (za3) ?_ | refine ze tab8b (za3) mx (fun K hK => ?_) | refine zj tab8b (za3) mx ?_ | refine zh ?_ | refine zi ?_ | refine zn ?_); simp only [go_sem, aeq, aeq.aeqF, simprocAttr, hb, Tryz.results78]) | refine zq (fun K hK => ?_) | refine zf rfl ?_ | refine zg rfl ?_ | refine zp rfl (fun hc => ?_) (fun hc => ?_) | (refine hK _ ?_; clear hK K) | with_reducible refine And.intro ?_ ?_ | (refine (show zt _ _ = true from ?_); kernel_rfl) | omega | assumption | refine fun (hg : (_ : Bool) = (_ : Bool)) => ?_ | clear hK K)
  rw [radd, if_pos he]
noncomputable def zfN : Ent Tryz.prog := .ofL 78 (consL zM (consL zU (consL (intT .i64) (consL (intT .i64) nilL)))) (fun (d, p, k, by_, _) => DP d p) (fun (d, p, k, by_, _) => .tup [planA (radd d p k by_).1, .d (.int .i64 (radd d p k by_).2)]) (fun (d, p, k, by_, _) hp => ⟨rfl, zsR d p k by_ hp⟩)
attribute [go_sem] zfN
theorem zia : ∀ (d : Disk) (p : Plan) (m : Nat) (k : Int), (ze5 d p m k).2 = 0 → (0 ≤ (ze5 d p m k).1 ∧ (ze5 d p m k).1 < 256)
 | d, p, 0, k, h => by simp [ze5] at h
 | d, p, m + 1, k, h => by
  rw [ze5] at h ⊢
  split at h
  ·rename_i hc; exact absurd h hc
  rename_i hc0
  rw [if_neg hc0]
  split at h
  ·rename_i hc; exact absurd h hc
  rename_i hc1
  rw [if_neg hc1]
  split at h
  ·rename_i hc
   rw [if_pos hc]
   exact zkO (by simpa using hc0)
  ·rename_i hc
   rw [if_neg hc]
   exact zia d p m (k + 1) h
end Go.Aw
