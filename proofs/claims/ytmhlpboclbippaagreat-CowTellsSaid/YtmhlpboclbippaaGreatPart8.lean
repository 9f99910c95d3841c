/-
  Parts of the proof: CowE, CowF, CowG, CowH, CowL, CowM, CowQ (short names; the readable texts lie in the repo, under wip).
-/
import Derived.Test.YtmhlpboclbippaaGreatPart7
import Derived.Test.YtmhlpboclbippaaGreatPart6
import Derived.Test.YtmhlpboclbippaaGreatPart5
import Derived.Test.YtmhlpboclbippaaGreatPart2
set_option maxRecDepth 100000
set_option maxHeartbeats 2000000
set_option linter.unusedSimpArgs false
set_option linter.unusedVariables false
namespace Go.Aw
open Go Go.Proofs
theorem zqC (a : List Dmap) (b : List Dmap) (ha : a.length ≤ 9223372036854775807) (hb : b.length ≤ 9223372036854775807) (hla : ∀ m ∈ a, m.bits.length = 64) (hlb : ∀ m ∈ b, m.bits.length = 64) : ACall Tryz.prog 75 0 [.d (.sl 66 (a.map dmapD)), .d (.sl 66 (b.map dmapD))] [] (fun r _ => r = .d (.bool (decide (a = b)))) := by
 refine zA ?_
 refine zk Tryz.func75 rfl (zu Tryz.func75 (by kernel_rfl) rfl) Tryz.ntmps75 (by simp) (fun base => ?_)
 by_cases hl : a.length = b.length
 ·have hb0 : ((a.length : Int) != (b.length : Int)) = false := by rw [hl]; simp
  repeat' (first | ((first | refine za noTab (zb _) (fun K hK => ?_) | refine zc noTab (zb _) ?_ | refine ze noTab (zb _) mx (fun K hK => ?_) | refine zj noTab (zb _) mx ?_ | refine zh ?_ | refine zi ?_ | refine zn ?_); simp only [go_sem, aeq, aeq.aeqF, simprocAttr, hb0, Tryz.results75]) | refine zq (fun K hK => ?_) | refine zo ?_ | refine zf rfl ?_ | refine zg rfl ?_ | refine zp rfl (fun hc => ?_) (fun hc => ?_) | (refine hK _ ?_; clear hK K) | with_reducible refine And.intro ?_ ?_ | (refine (show zt _ _ = true from ?_); kernel_rfl) | omega | assumption | clear hK K)
  refine zL (fun q : { i : Nat // i ≤ a.length ∧ decide (a = b) = decide (a.drop i = b.drop i) } => ⟨[(0, true, .d (.sl 66 (a.map dmapD))), (1, true, .d (.sl 66 (b.map dmapD))), (12, true, .d (.int .i64 a.length)), (13, true, .d (.int .i64 q.1))], [], some []⟩) (fun q => a.length - q.1) ⟨0, Nat.zero_le _, rfl⟩ (by simp only [AS.le, leT, leH, zr, AsgK, AV.le, AV.leL, AObj.le, inH, idsT, idsH, AV.ids, AV.idsL, AV.idsR, AObj.ids, lk, hget, go_sem, aeq, aeq.aeqF, simprocAttr] <;> and_intros <;> rfl) (fun q => ?_)
  obtain ⟨i, hi, hf⟩ := q
  simp only at hi hf ⊢
  rcases zad dmapD a i hi with ⟨m, hq, hlt, hcmp, hrow, hdr, htk⟩ | ⟨hend, hcmp⟩
  ·obtain ⟨m', hq'⟩ := zae (l := b) (i := i) (by omega)
   have hrow' := zbi (g := dmapD) hq'
   simp only [dmapD] at hrow hrow'
   have hcmp' : decide ((i : Int) < (b.length : Int)) = true := by rw [← hl]; exact hcmp
   have hwi := zP (i := i) (by omega)
   have hm := hla m (List.mem_of_getElem? hq)
   have hm' := hlb m' (List.mem_of_getElem? hq')
   rw [hdr, zcS hq'] at hf
   have hae := zmb (P := Tryz.prog) (t := 66) (s := 9) (b := 4) (a := 64) (e := 4) (by simp only [go_sem]) (by simp only [go_sem]) (by simp only [go_sem]) (by simp only [go_sem]) (by simp only [go_sem]) (by simp only [go_sem]) (by simp only [go_sem]) (by kernel_rfl) hm hm'
   have ht1 : List.take 64 ((m.bits.map D.bool).map AV.d) = (m.bits.map D.bool).map AV.d := List.take_of_length_le (by simp [hm])
   have ht2 : List.take 64 ((m'.bits.map D.bool).map AV.d) = (m'.bits.map D.bool).map AV.d := List.take_of_length_le (by simp [hm'])
   repeat' (first | ((first | refine za noTab (zb _) (fun K hK => ?_) | refine zc noTab (zb _) ?_ | refine ze noTab (zb _) mx (fun K hK => ?_) | refine zj noTab (zb _) mx ?_ | refine zh ?_ | refine zi ?_ | refine zn ?_); simp only [go_sem, simprocAttr, hcmp, hcmp', hrow, hrow', ht1, ht2, hae, hm, hm', Int.toNat_natCast, Tryz.results75]) | refine zq (fun K hK => ?_) | refine zo ?_ | refine zf rfl ?_ | refine zg rfl ?_ | refine zp rfl (fun hc => ?_) (fun hc => ?_) | (refine hK _ ?_; clear hK K) | with_reducible refine And.intro ?_ ?_ | (refine (show zt _ _ = true from ?_); kernel_rfl) | omega | assumption | clear hK K)
   ·rw [hf]
    simp only [Bool.not_eq_true', decide_eq_false_iff_not] at hc
    rw [decide_eq_false]
    simp only [List.cons.injEq]
    exact fun h => hc h.1
   ·simp only [Bool.not_eq_false', decide_eq_true_eq] at hc
    refine ⟨⟨i + 1, by omega, ?_⟩, by simp only [AS.le, leT, leH, zr, AsgK, AV.le, AV.leL, AObj.le, inH, idsT, idsH, AV.ids, AV.idsL, AV.idsR, AObj.ids, lk, hget, go_sem, aeq, aeq.aeqF, simprocAttr, hwi], by simp; omega⟩
    rw [hf, hc]
    simp
  ·repeat' (first | ((first | refine za noTab (zb _) (fun K hK => ?_) | refine zc noTab (zb _) ?_ | refine ze noTab (zb _) mx (fun K hK => ?_) | refine zj noTab (zb _) mx ?_ | refine zh ?_ | refine zi ?_ | refine zn ?_); simp only [go_sem, aeq, aeq.aeqF, simprocAttr, hcmp, Tryz.results75]) | refine zq (fun K hK => ?_) | refine zo ?_ | refine zf rfl ?_ | refine zg rfl ?_ | refine zp rfl (fun hc => ?_) (fun hc => ?_) | (refine hK _ ?_; clear hK K) | with_reducible refine And.intro ?_ ?_ | (refine (show zt _ _ = true from ?_); kernel_rfl) | omega | assumption | clear hK K)
   rw [hf, List.drop_of_length_le (by omega), List.drop_of_length_le (by omega)]
   rfl
 ·have hb0 : ((a.length : Int) != (b.length : Int)) = true := by rw [bne_iff_ne]; omega
  repeat' (first | ((first | refine za noTab (zb _) (fun K hK => ?_) | refine zc noTab (zb _) ?_ | refine ze noTab (zb _) mx (fun K hK => ?_) | refine zj noTab (zb _) mx ?_ | refine zh ?_ | refine zi ?_ | refine zn ?_); simp only [go_sem, aeq, aeq.aeqF, simprocAttr, hb0, Tryz.results75]) | refine zq (fun K hK => ?_) | refine zo ?_ | refine zf rfl ?_ | refine zg rfl ?_ | refine zp rfl (fun hc => ?_) (fun hc => ?_) | (refine hK _ ?_; clear hK K) | with_reducible refine And.intro ?_ ?_ | (refine (show zt _ _ = true from ?_); kernel_rfl) | omega | assumption | clear hK K)
  rw [decide_eq_false (fun h => hl (by rw [h]))]
noncomputable def zeI : Ent Tryz.prog := .ofL 75 (consL (slT 66 dmapD zcF) (consL (slT 66 dmapD zcF) nilL)) (fun (a, b, _) => (a.length ≤ 9223372036854775807) ∧ (b.length ≤ 9223372036854775807) ∧ (∀ m ∈ a, m.bits.length = 64) ∧ (∀ m ∈ b, m.bits.length = 64)) (fun (a, b, _) => .d (.bool (decide (a = b)))) (fun (a, b, _) hp => ⟨rfl, zqC a b hp.1 hp.2.1 hp.2.2.1 hp.2.2.2⟩)
attribute [go_sem] zeI
noncomputable def zka : Tab := tabOf [zg3, zeI]
theorem zkb : TabOk Tryz.prog zka := zz _
@[go_sem] theorem zrw (args : List AV) : zka 74 args = (zg3).e args := rfl
@[go_sem] theorem zoa (args : List AV) : zka 75 args = (zeI).e args := rfl
theorem znD (a : Img) (b : Img) (ha : ImgOk a) (hb : ImgOk b) : ACall Tryz.prog 25 0 [imgA a, imgA b] [] (fun r _ => r = .d (.bool (decide (a = b)))) := by
 refine zA ?_
 refine zk Tryz.func25 rfl (zu Tryz.func25 (by kernel_rfl) rfl) Tryz.ntmps25 (by simp) (fun base => ?_)
 have h1 := ha.disk
 have h2 := hb.disk
 have h3 := ha.maps
 have h4 := hb.maps
 have h5 := ha.bits
 have h6 := hb.bits
 repeat' (first | ((first | refine za zka (zkb) (fun K hK => ?_) | refine zc zka (zkb) ?_ | refine zh ?_ | refine zi ?_ | refine zn ?_); simp only [go_sem, aeq, aeq.aeqF, simprocAttr, Tryz.results25]) | refine zq (fun K hK => ?_) | (refine hK _ ?_; clear hK K) | with_reducible refine And.intro ?_ ?_ | omega | assumption | refine fun (hg : (_ : Bool) = (_ : Bool)) => ?_ | clear hK K)
 rw [zqb]
noncomputable def zdV : Ent Tryz.prog := .ofL 25 (consL zei (consL zei nilL)) (fun (a, b, _) => (ImgOk a) ∧ (ImgOk b)) (fun (a, b, _) => .d (.bool (decide (a = b)))) (fun (a, b, _) hp => ⟨rfl, znD a b hp.1 hp.2⟩)
attribute [go_sem] zdV
theorem zk8 {d : Disk} {j : Jour} {p : Plan} (h : (jcommit d j p).2.2 ≠ 0) : (jcommit d j p).2.1 = j := by
 unfold jcommit jtail at h ⊢
 repeat' split at h
 all_goals simp_all
 all_goals rw [if_neg (by omega)]
noncomputable def zig : Tab := tabOf [zdb]
theorem zfh : TabOk Tryz.prog zig := zz _
@[go_sem] theorem zmj (args : List AV) : zig 49 args = (zdb).e args := rfl
theorem znE (x : Img) (p : Plan) (h : ImgOk x) (hd : DiskF x.disk) (hf : pfit p = true) (h0 : 0 ≤ x.jour.seq) (h1 : x.jour.seq < 18446744073709551616) : ACall Tryz.prog 14 0 [imgA x, planA p] [] (fun r _ => r = .tup [imgA (cdone x p).1, .d (.int .i64 (cdone x p).2)]) := by
 refine zA ?_
 refine zk Tryz.func14 rfl (zu Tryz.func14 (by kernel_rfl) rfl) Tryz.ntmps14 (by simp) (fun base => ?_)
 repeat' (first | ((first | refine za zig (zfh) (fun K hK => ?_) | refine zc zig (zfh) ?_ | refine ze zig (zfh) mx (fun K hK => ?_) | refine zj zig (zfh) mx ?_ | refine zh ?_ | refine zi ?_ | refine zn ?_); simp only [go_sem, aeq, aeq.aeqF, simprocAttr, Tryz.results14]) | refine zq (fun K hK => ?_) | (refine hK _ ?_; clear hK K) | with_reducible refine And.intro ?_ ?_ | (refine (show zt _ _ = true from ?_); kernel_rfl) | omega | assumption | refine fun (hg : (_ : Bool) = (_ : Bool)) => ?_ | clear hK K)
 by_cases he : (jcommit x.disk x.jour p).2.2 = 0
 ·have hb : ((jcommit x.disk x.jour p).2.2 != 0) = false := by rw [he]; rfl
  rw [cdone, if_neg (by omega), hb, he, Bool.or_false]
 ·have hb : ((jcommit x.disk x.jour p).2.2 != 0) = true := by simpa using he
  rw [cdone, if_pos he, hb, Bool.or_true, zk8 he]
noncomputable def zdW : Ent Tryz.prog := .ofL 14 (consL zei (consL zU nilL)) (fun (x, p, _) => (ImgOk x) ∧ (DiskF x.disk) ∧ (pfit p = true) ∧ (0 ≤ x.jour.seq) ∧ (x.jour.seq < 18446744073709551616)) (fun (x, p, _) => .tup [imgA (cdone x p).1, .d (.int .i64 (cdone x p).2)]) (fun (x, p, _) hp => ⟨rfl, znE x p hp.1 hp.2.1 hp.2.2.1 hp.2.2.2.1 hp.2.2.2.2⟩)
attribute [go_sem] zdW
theorem zhu (l : List Dmap) (fl : Nat) (hl : l.length ≤ 5000) : ACall Tryz.prog 53 fl [.d (.sl 66 (l.map dmapD))] [] (fun r h' => r = .osl fl 66 l.length 0 l.length ∧ h' = [(fl, .arr 66 (l.map dmapD))]) := by
 refine zk Tryz.func53 rfl (zu Tryz.func53 (by kernel_rfl) rfl) Tryz.ntmps53 (by simp) (fun base => ?_)
 repeat' ((fail_if_success refine hds 2 (by rfl) ?_); first | ((first | refine za noTab (zb _) (fun K hK => ?_) | refine zc noTab (zb _) ?_ | refine zh ?_ | refine zi ?_ | refine zn ?_); simp only [go_sem, aeq, aeq.aeqF, simprocAttr, Tryz.results53]) | refine zq (fun K hK => ?_) | refine zf rfl ?_ | refine zg rfl ?_ | refine zp rfl (fun hc => ?_) (fun hc => ?_) | (refine hK _ ?_; clear hK K) | refine fun (nb : Bool) (hnb : nb = true → _) => ?_ | with_reducible refine And.intro ?_ ?_ | omega | assumption | clear hK K)
 ·refine za noTab (zb _) (fun K hK => ?_); simp only [go_sem, aeq, aeq.aeqF, simprocAttr]
  (first | (refine hK _ ?_; clear hK K) | (clear hK K; refine hK _ ?_; clear hK K) | (clear hK K; clear hK K; refine hK _ ?_; clear hK K) | (clear hK K; clear hK K; clear hK K; refine hK _ ?_; clear hK K) | (clear hK K; clear hK K; clear hK K; clear hK K; refine hK _ ?_; clear hK K))
  refine zgm 2 66 rfl ?_
  have h0 : l = [] := List.map_eq_nil_iff.1 (hnb hc)
  subst h0
  repeat' (first | ((first | refine za noTab (zb _) (fun K hK => ?_) | refine zc noTab (zb _) ?_ | refine zh ?_ | refine zi ?_ | refine zn ?_); simp only [go_sem, aeq, aeq.aeqF, simprocAttr, Tryz.results53]) | refine zq (fun K hK => ?_) | refine zf rfl ?_ | refine zg rfl ?_ | refine zp rfl (fun hc => ?_) (fun hc => ?_) | (refine hK _ ?_; clear hK K) | refine fun (nb : Bool) (hnb : nb = true → _) => ?_ | with_reducible refine And.intro ?_ ?_ | omega | assumption | clear hK K)
  all_goals rfl
theorem znF (x : Img) (guest : Int) (h : ImgOk x) (h2 : x.maps.length ≤ 5000) : ACall Tryz.prog 17 0 [imgA x, .d (.int .i64 guest)] [] (fun r _ => r = imgA (cmark x guest)) := by
 refine zA ?_
 refine zk Tryz.func17 rfl (zu Tryz.func17 (by kernel_rfl) rfl) Tryz.ntmps17 (by simp) (fun base => ?_)
 by_cases hg : guest < 0 ∨ 64 ≤ guest
 ·have hdec : (decide (0 ≤ guest) && decide (guest < 64)) = false := by
   rw [Bool.and_eq_false_iff, decide_eq_false_iff_not, decide_eq_false_iff_not]; omega
  repeat' (first | ((first | refine za noTab (zb _) (fun K hK => ?_) | refine zc noTab (zb _) ?_ | refine zh ?_ | refine zi ?_ | refine zn ?_); simp only [go_sem, aeq, aeq.aeqF, simprocAttr, hdec, Tryz.results17]) | refine zq (fun K hK => ?_) | refine zo ?_ | refine zf rfl ?_ | refine zg rfl ?_ | refine zp rfl (fun hc => ?_) (fun hc => ?_) | (refine hK _ ?_; clear hK K) | with_reducible refine And.intro ?_ ?_ | omega | assumption | refine fun (hg : (_ : Bool) = (_ : Bool)) => ?_ | clear hK K)
  rw [cmark, if_pos hg]
 ·have hdec : (decide (0 ≤ guest) && decide (guest < 64)) = true := by
   rw [Bool.and_eq_true, decide_eq_true_eq, decide_eq_true_eq]; omega
  obtain ⟨g, rfl⟩ : ∃ g : Nat, guest = g := ⟨guest.toNat, by omega⟩
  have hg2 : g < 64 := by omega
  repeat' (first | ((first | refine za noTab (zb _) (fun K hK => ?_) | refine zc noTab (zb _) ?_ | refine zh ?_ | refine zi ?_ | refine zn ?_); simp only [go_sem, aeq, aeq.aeqF, simprocAttr, hdec, Tryz.results17]) | refine zq (fun K hK => ?_) | refine zo ?_ | refine zf rfl ?_ | refine zg rfl ?_ | refine zp rfl (fun hc => ?_) (fun hc => ?_) | (refine hK _ ?_; clear hK K) | with_reducible refine And.intro ?_ ?_ | omega | assumption | refine fun (hg : (_ : Bool) = (_ : Bool)) => ?_ | clear hK K)
  refine ((zhu x.maps 2 h2).own rfl rfl (Nat.zero_le _) (by rintro r h' ⟨_, rfl⟩; rfl)).mono ?_
  rintro r h' ⟨h1, ⟨rfl, rfl⟩, rfl⟩
  simp only [go_sem, aeq, aeq.aeqF, simprocAttr]
  repeat' (first | ((first | refine za noTab (zb _) (fun K hK => ?_) | refine zc noTab (zb _) ?_ | refine zh ?_ | refine zi ?_ | refine zn ?_); simp only [go_sem, aeq, aeq.aeqF, simprocAttr, Tryz.results17]) | refine zq (fun K hK => ?_) | refine zo ?_ | refine zf rfl ?_ | refine zg rfl ?_ | refine zp rfl (fun hc => ?_) (fun hc => ?_) | (refine hK _ ?_; clear hK K) | with_reducible refine And.intro ?_ ?_ | omega | assumption | refine fun (hg : (_ : Bool) = (_ : Bool)) => ?_ | clear hK K)
  refine zL (fun q : { i : Nat // i ≤ x.maps.length } => ⟨[(1, true, .d (.int .i64 g)), (2, true, .vp 0 0), (4, true, .vp 1 0), (18, true, .d (.int .i64 x.maps.length)), (19, true, .d (.int .i64 q.1))], [(2, .arr 66 (((x.maps.take q.1).map (mset g) ++ x.maps.drop q.1).map dmapD)), (1, .var img0), (0, .var [.d (.str x.disk.data), .d (.sl 2 (x.disk.cache.map putD)), .d (.int .i64 x.disk.fuse), .d (.bool x.disk.off), .d (.sl 1 (x.disk.bad.map intD)), .d (.int .i64 x.geom.guest), .d (.int .i64 x.geom.host), .d (.int .u64 x.jour.seq), .d (.int .i64 x.jour.pos), .osl 2 66 x.maps.length 0 x.maps.length, .d (.bool x.broken)])], some []⟩) (fun q => x.maps.length - q.1) ⟨0, Nat.zero_le _⟩ (by simp only [AS.le, leT, leH, zr, AsgK, AV.le, AV.leL, AObj.le, inH, idsT, idsH, AV.ids, AV.idsL, AV.idsR, AObj.ids, lk, hget, go_sem, aeq, aeq.aeqF, simprocAttr] <;> and_intros <;> rfl) (fun q => ?_)
  obtain ⟨i, hi⟩ := q
  simp only
  have hL : ((x.maps.take i).map (mset g) ++ x.maps.drop i).length = x.maps.length := by simp; omega
  rcases Nat.lt_or_ge i x.maps.length with hlt | hge
  ·obtain ⟨m, hq⟩ := zae hlt
   have hcmp : decide ((i : Int) < (x.maps.length : Int)) = true := decide_eq_true (by omega)
   have hwi := zP (i := i) (by omega)
   have hL1 : ((x.maps.take i).map (mset g)).length = i := by simp; omega
   have hat : ((x.maps.take i).map (mset g) ++ x.maps.drop i)[i]? = some m := by rw [List.getElem?_append_right (by omega), hL1, Nat.sub_self, List.getElem?_drop, Nat.add_zero, hq]
   have hrow := zbi (g := dmapD) hat
   have hset : ((x.maps.take i).map (mset g) ++ x.maps.drop i).set i (mset g m) = (x.maps.take (i + 1)).map (mset g) ++ x.maps.drop (i + 1) := by
    rw [List.set_append, if_neg (by omega), hL1, Nat.sub_self, zcS hq, zcn hq, List.map_append, List.append_assoc]
    rfl
   repeat' (first | ((first | refine za noTab (zb _) (fun K hK => ?_) | refine zc noTab (zb _) ?_ | refine zh ?_ | refine zi ?_ | refine zn ?_); simp only [go_sem, aeq, aeq.aeqF, simprocAttr, hcmp, hL, hrow, Tryz.results17]) | refine zq (fun K hK => ?_) | refine zo ?_ | refine zf rfl ?_ | refine zg rfl ?_ | refine zp rfl (fun hc => ?_) (fun hc => ?_) | (refine hK _ ?_; clear hK K) | with_reducible refine And.intro ?_ ?_ | omega | assumption | refine fun (hg : (_ : Bool) = (_ : Bool)) => ?_ | clear hK K)
   have hnew : (((x.maps.take i).map (mset g) ++ x.maps.drop i).map dmapD).set i ((dmapD m).set (2 + g * 1) (.bool true)) = ((x.maps.take (i + 1)).map (mset g) ++ x.maps.drop (i + 1)).map dmapD := by
    rw [Nat.mul_one, zsZ, ← List.map_set, hset]
   exact ⟨⟨i + 1, by omega⟩, by simp only [AS.le, leT, leH, zr, AsgK, AV.le, AV.leL, AObj.le, inH, idsT, idsH, AV.ids, AV.idsL, AV.idsR, AObj.ids, lk, hget, go_sem, aeq, aeq.aeqF, simprocAttr, hwi, hnew], by simp; omega⟩
  ·have hcmp : decide ((i : Int) < (x.maps.length : Int)) = false := decide_eq_false (by omega)
   repeat' (first | ((first | refine za noTab (zb _) (fun K hK => ?_) | refine zc noTab (zb _) ?_ | refine zh ?_ | refine zi ?_ | refine zn ?_); simp only [go_sem, aeq, aeq.aeqF, simprocAttr, hcmp, hL, Tryz.results17]) | refine zq (fun K hK => ?_) | refine zo ?_ | refine zf rfl ?_ | refine zg rfl ?_ | refine zp rfl (fun hc => ?_) (fun hc => ?_) | (refine hK _ ?_; clear hK K) | with_reducible refine And.intro ?_ ?_ | omega | assumption | refine fun (hg : (_ : Bool) = (_ : Bool)) => ?_ | clear hK K)
   rw [cmark, if_neg hg, show i = x.maps.length by omega, List.take_length, List.drop_length, List.append_nil, List.take_of_length_le (by simp)]
   rfl
noncomputable def zdX : Ent Tryz.prog := .ofL 17 (consL zei (consL (intT .i64) nilL)) (fun (x, guest, _) => (ImgOk x) ∧ (x.maps.length ≤ 5000)) (fun (x, guest, _) => imgA (cmark x guest)) (fun (x, guest, _) hp => ⟨rfl, znF x guest hp.1 hp.2⟩)
attribute [go_sem] zdX
def sectI (k : Int) : List (Int × Int) := [(96 + 2 * k, 0), (96 + 2 * k + 1, 64)]
def z6 (q : Int × Int) : List AV := [.d (.int .i64 q.1), .d (.int .i64 q.2)]
abbrev Scst (k : Int) := { q : Nat × List (List AV) // q.1 ≤ 2 ∧ q.2 ++ ((sectI k).drop q.1).map z6 = (sectI k).map z6 }
noncomputable def zgh : Tab := tabOf [zb0]
theorem zcL : TabOk Tryz.prog zgh := zz _
@[go_sem] theorem zt7 (args : List AV) : zgh 88 args = (zb0).e args := rfl
theorem zeJ (fl : Nat) (k : Int) (h0 : 0 ≤ k) (h1 : k ≤ 1000) : AIter Tryz.prog 87 fl [] [.dp [.d (.int .i64 k)]] [] ((sectI k).map z6) (fun g h' => (∀ xs, g = some xs → xs = (sectI k).map z6) ∧ h' = []) := by
 refine zaE Tryz.func87 rfl (zu Tryz.func87 (by kernel_rfl) rfl) Tryz.ntmps87 rfl (by simp) (fun base y => ?_)
 repeat' (first | (refine zN (fun i => decide (i < fl)) (by simp only [inH, idsH, hsel, AV.ids, AV.idsL, AV.idsR, AObj.ids, hget, go_sem, aeq, aeq.aeqF, simprocAttr]) ?_; simp only [go_sem, aeq, aeq.aeqF, simprocAttr, hsel, keepT]; refine zn ?_; simp only [go_sem, aeq, aeq.aeqF, simprocAttr]) | ((first | refine zv noTab (zb _) (fun K hK => ?_) | refine zB noTab (zb _) ?_ | refine zh ?_ | refine zi ?_ | refine zn ?_); simp only [go_sem, aeq, aeq.aeqF, simprocAttr]) | refine zq (fun K hK => ?_) | refine zo ?_ | refine zf rfl ?_ | refine zg rfl ?_ | refine zp rfl (fun hc => ?_) (fun hc => ?_) | (refine hK _ ?_; clear hK K) | ((first | refine (show AS.le _ _ from ?_) | refine (show leH _ _ from ?_) | refine (show inH _ _ from ?_)); simp only [AS.le, leT, leH, zr, AsgK, AV.le, AV.leL, AObj.le, inH, idsT, idsH, AV.ids, AV.idsL, AV.idsR, AObj.ids, lk, hget, go_sem, aeq, aeq.aeqF, simprocAttr]) | refine fun (r2 : Rnd _) => ?_ | with_reducible refine And.intro ?_ ?_ | exact ‹_ <+: _› | omega | assumption | clear hK K)
 refine zL (fun q : Scst k => ⟨[(0, true, .fn (.yield y.yl) [] []), (1, true, .dp [.d (.int .i64 k)]), (4, true, .d (.int .i64 q.1.1))], [], some q.1.2⟩) (fun q => 2 - q.1.1) ⟨(0, []), Nat.zero_le _, rfl⟩ (by simp only [AS.le, leT, leH, zr, AsgK, AV.le, AV.leL, AObj.le, inH, idsT, idsH, AV.ids, AV.idsL, AV.idsR, AObj.ids, lk, hget, go_sem, aeq, aeq.aeqF, simprocAttr] <;> and_intros <;> rfl) (fun q => ?_)
 obtain ⟨⟨i, xs⟩, hi, hf⟩ := q
 simp only at hi hf ⊢
 have hc0 : ((0 : Nat) : Int) = 0 := rfl
 have hc1 : ((1 : Nat) : Int) = 1 := rfl
 have hc2 : ((2 : Nat) : Int) = 2 := rfl
 have hw1 : IntKind.i64.wrap 1 = 1 := by decide
 have hw2 : IntKind.i64.wrap 2 = 2 := by decide
 have hw64 : IntKind.i64.wrap 64 = 64 := by decide
 have hwz : IntKind.i64.wrap 0 = 0 := by decide
 have hwk : IntKind.i64.wrap (96 + 2 * k + 0) = 96 + 2 * k := by rw [Int.add_zero]; exact zD (by omega) (by omega)
 have hwk1 : IntKind.i64.wrap (96 + 2 * k + 1) = 96 + 2 * k + 1 := zD (by omega) (by omega)
 have h3 : i = 0 ∨ i = 1 ∨ i = 2 := by omega
 rcases h3 with rfl | rfl | rfl
 ·have hpre : (xs ++ [z6 (96 + 2 * k, 0)]) <+: (sectI k).map z6 := by rw [← hf]; exact ⟨[z6 (96 + 2 * k + 1, 64)], by simp [sectI]⟩
  simp only [z6] at hpre
  repeat' (first | (refine zN (fun i => decide (i < fl)) (by simp only [inH, idsH, hsel, AV.ids, AV.idsL, AV.idsR, AObj.ids, hget, go_sem, aeq, aeq.aeqF, simprocAttr]) ?_; simp only [go_sem, aeq, aeq.aeqF, simprocAttr, hc0, hw1, hwz, hwk, hsel, keepT]; refine zn ?_; simp only [go_sem, aeq, aeq.aeqF, simprocAttr, hc0, hw1, hwz, hwk]) | ((first | refine zv zgh (zcL) (fun K hK => ?_) | refine zB zgh (zcL) ?_ | refine zh ?_ | refine zi ?_ | refine zn ?_); simp only [go_sem, aeq, aeq.aeqF, simprocAttr, hc0, hw1, hwz, hwk]) | refine zq (fun K hK => ?_) | refine zo ?_ | refine zf rfl ?_ | refine zg rfl ?_ | refine zp rfl (fun hc => ?_) (fun hc => ?_) | (refine hK _ ?_; clear hK K) | ((first | refine (show AS.le _ _ from ?_) | refine (show leH _ _ from ?_) | refine (show inH _ _ from ?_)); simp only [AS.le, leT, leH, zr, AsgK, AV.le, AV.leL, AObj.le, inH, idsT, idsH, AV.ids, AV.idsL, AV.idsR, AObj.ids, lk, hget, go_sem, aeq, aeq.aeqF, simprocAttr, hc0, hw1, hwz, hwk]) | refine fun (r2 : Rnd _) => ?_ | with_reducible refine And.intro ?_ ?_ | exact ‹_ <+: _› | omega | assumption | clear hK K)
  exact ⟨⟨(1, xs ++ [z6 (96 + 2 * k, 0)]), by show (1 : Nat) ≤ 2; omega, by rw [← hf]; simp [sectI]⟩, by simp only [AS.le, leT, leH, zr, AsgK, AV.le, AV.leL, AObj.le, inH, idsT, idsH, AV.ids, AV.idsL, AV.idsR, AObj.ids, lk, hget, go_sem, aeq, aeq.aeqF, simprocAttr, z6] <;> and_intros <;> rfl, by simp⟩
 ·have hpre : (xs ++ [z6 (96 + 2 * k + 1, 64)]) <+: (sectI k).map z6 := by rw [← hf]; exact ⟨[], by simp [sectI]⟩
  simp only [z6] at hpre
  repeat' (first | (refine zN (fun i => decide (i < fl)) (by simp only [inH, idsH, hsel, AV.ids, AV.idsL, AV.idsR, AObj.ids, hget, go_sem, aeq, aeq.aeqF, simprocAttr]) ?_; simp only [go_sem, aeq, aeq.aeqF, simprocAttr, hc1, hw2, hw64, hwk1, hsel, keepT]; refine zn ?_; simp only [go_sem, aeq, aeq.aeqF, simprocAttr, hc1, hw2, hw64, hwk1]) | ((first | refine zv zgh (zcL) (fun K hK => ?_) | refine zB zgh (zcL) ?_ | refine zh ?_ | refine zi ?_ | refine zn ?_); simp only [go_sem, aeq, aeq.aeqF, simprocAttr, hc1, hw2, hw64, hwk1]) | refine zq (fun K hK => ?_) | refine zo ?_ | refine zf rfl ?_ | refine zg rfl ?_ | refine zp rfl (fun hc => ?_) (fun hc => ?_) | (refine hK _ ?_; clear hK K) | ((first | refine (show AS.le _ _ from ?_) | refine (show leH _ _ from ?_) | refine (show inH _ _ from ?_)); simp only [AS.le, leT, leH, zr, AsgK, AV.le, AV.leL, AObj.le, inH, idsT, idsH, AV.ids, AV.idsL, AV.idsR, AObj.ids, lk, hget, go_sem, aeq, aeq.aeqF, simprocAttr, hc1, hw2, hw64, hwk1]) | refine fun (r2 : Rnd _) => ?_ | with_reducible refine And.intro ?_ ?_ | exact ‹_ <+: _› | omega | assumption | clear hK K)
  exact ⟨⟨(2, xs ++ [z6 (96 + 2 * k + 1, 64)]), by show (2 : Nat) ≤ 2; omega, by rw [← hf]; simp [sectI]⟩, by simp only [AS.le, leT, leH, zr, AsgK, AV.le, AV.leL, AObj.le, inH, idsT, idsH, AV.ids, AV.idsL, AV.idsR, AObj.ids, lk, hget, go_sem, aeq, aeq.aeqF, simprocAttr, z6] <;> and_intros <;> rfl, by simp⟩
 ·repeat' (first | (refine zN (fun i => decide (i < fl)) (by simp only [inH, idsH, hsel, AV.ids, AV.idsL, AV.idsR, AObj.ids, hget, go_sem, aeq, aeq.aeqF, simprocAttr]) ?_; simp only [go_sem, aeq, aeq.aeqF, simprocAttr, hc2, hsel, keepT]; refine zn ?_; simp only [go_sem, aeq, aeq.aeqF, simprocAttr, hc2]) | ((first | refine zv zgh (zcL) (fun K hK => ?_) | refine zB zgh (zcL) ?_ | refine zh ?_ | refine zi ?_ | refine zn ?_); simp only [go_sem, aeq, aeq.aeqF, simprocAttr, hc2]) | refine zq (fun K hK => ?_) | refine zo ?_ | refine zf rfl ?_ | refine zg rfl ?_ | refine zp rfl (fun hc => ?_) (fun hc => ?_) | (refine hK _ ?_; clear hK K) | ((first | refine (show AS.le _ _ from ?_) | refine (show leH _ _ from ?_) | refine (show inH _ _ from ?_)); simp only [AS.le, leT, leH, zr, AsgK, AV.le, AV.leL, AObj.le, inH, idsT, idsH, AV.ids, AV.idsL, AV.idsR, AObj.ids, lk, hget, go_sem, aeq, aeq.aeqF, simprocAttr, hc2]) | refine fun (r2 : Rnd _) => ?_ | with_reducible refine And.intro ?_ ?_ | exact ‹_ <+: _› | omega | assumption | clear hK K)
  rintro zs rfl
  simpa [sectI] using hf
theorem znG (k : Int) : ACall Tryz.prog 31 0 [.d (.int .i64 k)] [] (fun r _ => r = .fn (.func 87) [] [.dp [.d (.int .i64 k)]]) := by
 refine zA ?_
 refine zk Tryz.func31 rfl (zu Tryz.func31 (by kernel_rfl) rfl) Tryz.ntmps31 (by simp) (fun base => ?_)
 repeat' (first | ((first | refine za noTab (zb _) (fun K hK => ?_) | refine zc noTab (zb _) ?_ | refine zh ?_ | refine zi ?_ | refine zn ?_); simp only [go_sem, aeq, aeq.aeqF, simprocAttr, Tryz.results31]) | refine zq (fun K hK => ?_) | (refine hK _ ?_; clear hK K) | refine fun (nb : Bool) (hnb : nb = true → _) => ?_ | with_reducible refine And.intro ?_ ?_ | omega | assumption | clear hK K)
noncomputable def zbG : Ent Tryz.prog := .ofL 31 (consL (intT .i64) nilL) (fun (k, _) => True) (fun (k, _) => .fn (.func 87) [] [.dp [.d (.int .i64 k)]]) (fun (k, _) hp => ⟨rfl, znG k⟩)
attribute [go_sem] zbG
def rdA (d : Disk) (k : Int) : Nat → Txt
 | 0 => []
 | 1 => (dread d (96 + 2 * k)).1
 | _ => (dread d (96 + 2 * k)).1 ++ (dread d (96 + 2 * k + 1)).1
@[go_sem] theorem rdA_0 (d : Disk) (k : Int) : rdA d k 0 = [] := rfl
def rdG (d : Disk) (k : Int) : Nat → Prop
 | 0 => True
 | 1 => (dread d (96 + 2 * k)).2 = 0
 | _ => (dread d (96 + 2 * k)).2 = 0 ∧ (dread d (96 + 2 * k + 1)).2 = 0
theorem zfZ {k : Int} {ys zs : List (Int × Int)} {q : Int × Int} (h : sectI k = ys ++ q :: zs) : (ys = [] ∧ q = (96 + 2 * k, 0)) ∨ (ys = [(96 + 2 * k, 0)] ∧ q = (96 + 2 * k + 1, 64)) := by
 match ys, h with
 | [], h => simp only [sectI, List.nil_append, List.cons.injEq] at h; exact .inl ⟨rfl, h.1.symm⟩
 | [a], h => simp only [sectI, List.cons_append, List.nil_append, List.cons.injEq] at h; exact .inr ⟨by rw [h.1], h.2.1.symm⟩
 | a :: b :: r, h =>
  exfalso
  have := congrArg List.length h
  simp [sectI] at this
noncomputable def zb7 : Tab := tabOf [zcI, za9, zbG, zaT]
theorem za2 : TabOk Tryz.prog zb7 := zz _
@[go_sem] theorem zqD (args : List AV) : zb7 29 args = (zcI).e args := rfl
@[go_sem] theorem zob (args : List AV) : zb7 30 args = (za9).e args := rfl
@[go_sem] theorem znH (args : List AV) : zb7 31 args = (zbG).e args := rfl
@[go_sem] theorem znI (args : List AV) : zb7 32 args = (zaT).e args := rfl
theorem znJ (d : Disk) (l1 : Int) (guest : Int) (h : DiskF d) : ACall Tryz.prog 10 0 [diskA d, .d (.int .i64 l1), .d (.int .i64 guest)] [] (fun r _ => r = .tup [.d (.str (cread d l1 guest).1), .d (.int .i64 (cread d l1 guest).2)]) := by
 refine zA ?_
 refine zk Tryz.func10 rfl (zu Tryz.func10 (by kernel_rfl) rfl) Tryz.ntmps10 (by simp) (fun base => ?_)
 have hdp : DP d p0 := ⟨h, zge⟩
 have hk1 : (elook d p0 l1 guest).1.kind = 1 → zR (elook d p0 l1 guest).1.loc = true := zid
 repeat' (first | ((first | refine za zb7 (za2) (fun K hK => ?_) | refine zc zb7 (za2) ?_ | refine zh ?_ | refine zi ?_ | refine zn ?_); simp only [go_sem, aeq, aeq.aeqF, simprocAttr, Tryz.results10]) | refine zq (fun K hK => ?_) | refine zo ?_ | refine zf rfl ?_ | refine zg rfl ?_ | refine zp rfl (fun hc => ?_) (fun hc => ?_) | (refine hK _ ?_; clear hK K) | ((first | refine (show AS.le _ _ from ?_) | refine (show leH _ _ from ?_) | refine (show inH _ _ from ?_)); simp only [AS.le, leT, leH, zr, AsgK, AV.le, AV.leL, AObj.le, inH, idsT, idsH, AV.ids, AV.idsL, AV.idsR, AObj.ids, lk, hget, go_sem, aeq, aeq.aeqF, simprocAttr]) | refine fun (r2 : Rnd _) => ?_ | with_reducible refine And.intro ?_ ?_ | exact ‹_ <+: _› | omega | assumption | clear hK K)
 ·rw [cread, if_pos (bneP hc)]
 ·rename_i hc0
  rw [cread, if_neg (bneN hc0), if_neg (bneP hc)]
  rfl
 rename_i hc0
 have hkk : (elook d p0 l1 guest).1.kind = 1 := Classical.byContradiction (fun h => bneN hc h)
 have hrd : cread d l1 guest = zea d (elook d p0 l1 guest).1.loc := by rw [cread, if_neg (bneN hc0), if_pos hkk]
 have hho := hostOk_iff.1 (hk1 hkk)
 have hcl : zea d (elook d p0 l1 guest).1.loc = if (dread d (96 + 2 * (elook d p0 l1 guest).1.loc)).2 ≠ 0 then ([], (dread d (96 + 2 * (elook d p0 l1 guest).1.loc)).2) else if (dread d (96 + 2 * (elook d p0 l1 guest).1.loc + 1)).2 ≠ 0 then ([], (dread d (96 + 2 * (elook d p0 l1 guest).1.loc + 1)).2)
   else ((dread d (96 + 2 * (elook d p0 l1 guest).1.loc)).1 ++ (dread d (96 + 2 * (elook d p0 l1 guest).1.loc + 1)).1, 0) := rfl
 rw [hcl] at hrd
 clear hcl hc0 hc
 revert hkk hho hrd
 generalize (elook d p0 l1 guest).1.loc = k
 intro hkk hcl hho
 have hdo := h.ok
 have hl1 := zeZ (at_ := 96 + 2 * k) h.puts
 have hl2 := zeZ (at_ := 96 + 2 * k + 1) h.puts
 obtain ⟨I, hI⟩ : ∃ I : List (List AV) → AHeap × Option (List (List AV)), I = fun xs => ([(4, .var [.d (.str (rdA d k xs.length))]), (2, .var [.d (.int .i64 0)]), (1, .var [.d (.str [])]), (0, (.var [.d (.str d.data), .d (.sl 2 (d.cache.map putD)), .d (.int .i64 d.fuse), .d (.bool d.off), .d (.sl 1 (d.bad.map intD))]))], some []) := ⟨_, rfl⟩
 obtain ⟨G, hG⟩ : ∃ G : List (List AV) → Prop, G = fun xs => rdG d k xs.length := ⟨_, rfl⟩
 obtain ⟨J, hJ⟩ : ∃ J : Code → AHeap → Option (List (List AV)) → Prop, J = fun c h g => c = .ret ∧ g = some [] ∧ ∃ t e, cread d l1 guest = ([], e) ∧ h = [(4, .var [.d (.str t)]), (2, .var [.d (.int .i64 e)]), (1, .var [.d (.str [])]), (0, (.var [.d (.str d.data), .d (.sl 2 (d.cache.map putD)), .d (.int .i64 d.fuse), .d (.bool d.off), .d (.sl 1 (d.bad.map intD))]))] := ⟨_, rfl⟩
 refine aw_le ⟨[(3, true, .vp 0 0), (6, true, .vp 1 0), (7, true, .vp 2 0), (10, true, .vp 4 0), (33, true, .fn (.func 87) [] [.dp [.d (.int .i64 k)]])], [(4, .var [.d (.str [])]), (2, .var [.d (.int .i64 0)]), (1, .var [.d (.str [])]), (0, (.var [.d (.str d.data), .d (.sl 2 (d.cache.map putD)), .d (.int .i64 d.fuse), .d (.bool d.off), .d (.sl 1 (d.bad.map intD))]))], some []⟩ (by simp only [AS.le, leT, leH, zr, AsgK, AV.le, AV.leL, AObj.le, inH, idsT, idsH, AV.ids, AV.idsL, AV.idsR, AObj.ids, lk, hget, go_sem, aeq, aeq.aeqF, simprocAttr]) ?_
 refine za0 100 G I J (zeJ 100 k (by omega) (by omega)) (by simp only [go_sem, aeq, aeq.aeqF, simprocAttr]) rfl (zT rfl) (by simp [cxOf, cxY]) rfl (by rw [hG]; first | trivial | rfl | simp) (by rw [hI]; simp only [AS.le, leT, leH, zr, AsgK, AV.le, AV.leL, AObj.le, inH, idsT, idsH, AV.ids, AV.idsL, AV.idsR, AObj.ids, lk, hget, go_sem, aeq, aeq.aeqF, simprocAttr] <;> simp [AV.leL, AV.le]) (by rw [hI]; simp only [AS.le, leT, leH, zr, AsgK, AV.le, AV.leL, AObj.le, inH, idsT, idsH, AV.ids, AV.idsL, AV.idsR, AObj.ids, lk, hget, go_sem, aeq, aeq.aeqF, simprocAttr] <;> simp) (by rw [hI] <;> rfl) (by intro x hx; obtain ⟨q, _, rfl⟩ := List.mem_map.1 hx; rfl) (by intro t ht; simp at ht; first | (rcases ht with rfl | rfl <;> simp [cxOf, cxY] <;> done) | (subst ht; simp [cxOf, cxY])) ?_ ?_ ?_
 ·intro xs x hpre hgd l1 r1
  obtain ⟨ys, q, zs, hys, rfl, hzl⟩ := zcV hpre
  have hln : xs.length = ys.length := by rw [hys]; simp
  rw [hG] at hgd
  rcases zfZ hzl with ⟨rfl, rfl⟩ | ⟨rfl, rfl⟩
  ·have hx0 : xs = [] := by simpa using hys
   subst hx0
   simp only [z6]
   refine aw_le ⟨[(34, true, .d (.int .i64 (96 + 2 * k))), (3, true, .vp 0 0), (6, true, .vp 1 0), (7, true, .vp 2 0), (10, true, .vp 4 0)], [(4, .var [.d (.str [])]), (2, .var [.d (.int .i64 0)]), (1, .var [.d (.str [])]), (0, (.var [.d (.str d.data), .d (.sl 2 (d.cache.map putD)), .d (.int .i64 d.fuse), .d (.bool d.off), .d (.sl 1 (d.bad.map intD))]))], some []⟩ (by rw [hI]; simp only [AS.le, leT, leH, zr, AsgK, AV.le, AV.leL, AObj.le, inH, idsT, idsH, AV.ids, AV.idsL, AV.idsR, AObj.ids, lk, hget, go_sem, aeq, aeq.aeqF, simprocAttr, rdA]) ?_
   repeat' (first | ((first | refine za zb7 (za2) (fun K hK => ?_) | refine zc zb7 (za2) ?_ | refine zh ?_ | refine zi ?_ | refine zn ?_); simp only [go_sem, aeq, aeq.aeqF, simprocAttr, hI, rdA, Tryz.results10]) | refine zq (fun K hK => ?_) | refine zo ?_ | refine zf rfl ?_ | refine zg rfl ?_ | refine zp rfl (fun hc => ?_) (fun hc => ?_) | (refine hK _ ?_; clear hK K) | ((first | refine (show AS.le _ _ from ?_) | refine (show leH _ _ from ?_) | refine (show inH _ _ from ?_)); simp only [AS.le, leT, leH, zr, AsgK, AV.le, AV.leL, AObj.le, inH, idsT, idsH, AV.ids, AV.idsL, AV.idsR, AObj.ids, lk, hget, go_sem, aeq, aeq.aeqF, simprocAttr, hI, rdA]) | refine fun (r2 : Rnd _) => ?_ | with_reducible refine And.intro ?_ ?_ | exact ‹_ <+: _› | omega | assumption | clear hK K)
   ·rw [hJ]
    exact ⟨rfl, rfl, _, _, by rw [hcl, if_pos (bneP hc)], rfl⟩
   ·rw [hG]
    exact Classical.byContradiction (bneN hc)
  ·have hx1 : xs = [z6 (96 + 2 * k, 0)] := by simpa using hys
   subst hx1
   simp only [z6]
   refine aw_le ⟨[(34, true, .d (.int .i64 (96 + 2 * k + 1))), (3, true, .vp 0 0), (6, true, .vp 1 0), (7, true, .vp 2 0), (10, true, .vp 4 0)], [(4, .var [.d (.str (dread d (96 + 2 * k)).1)]), (2, .var [.d (.int .i64 0)]), (1, .var [.d (.str [])]), (0, (.var [.d (.str d.data), .d (.sl 2 (d.cache.map putD)), .d (.int .i64 d.fuse), .d (.bool d.off), .d (.sl 1 (d.bad.map intD))]))], some []⟩ (by rw [hI]; simp only [AS.le, leT, leH, zr, AsgK, AV.le, AV.leL, AObj.le, inH, idsT, idsH, AV.ids, AV.idsL, AV.idsR, AObj.ids, lk, hget, go_sem, aeq, aeq.aeqF, simprocAttr, rdA]) ?_
   have h0 : (dread d (96 + 2 * k)).2 = 0 := hgd
   repeat' (first | ((first | refine za zb7 (za2) (fun K hK => ?_) | refine zc zb7 (za2) ?_ | refine zh ?_ | refine zi ?_ | refine zn ?_); simp only [go_sem, aeq, aeq.aeqF, simprocAttr, hI, rdA, Tryz.results10]) | refine zq (fun K hK => ?_) | refine zo ?_ | refine zf rfl ?_ | refine zg rfl ?_ | refine zp rfl (fun hc => ?_) (fun hc => ?_) | (refine hK _ ?_; clear hK K) | ((first | refine (show AS.le _ _ from ?_) | refine (show leH _ _ from ?_) | refine (show inH _ _ from ?_)); simp only [AS.le, leT, leH, zr, AsgK, AV.le, AV.leL, AObj.le, inH, idsT, idsH, AV.ids, AV.idsL, AV.idsR, AObj.ids, lk, hget, go_sem, aeq, aeq.aeqF, simprocAttr, hI, rdA]) | refine fun (r2 : Rnd _) => ?_ | with_reducible refine And.intro ?_ ?_ | exact ‹_ <+: _› | omega | assumption | clear hK K)
   ·rw [hJ]
    exact ⟨rfl, rfl, _, _, by rw [hcl, if_neg (by omega), if_pos (bneP hc)], rfl⟩
   ·rw [hG]
    exact ⟨h0, Classical.byContradiction (bneN hc)⟩
 ·intro hgd
  rw [hG] at hgd
  have hgd : (dread d (96 + 2 * k)).2 = 0 ∧ (dread d (96 + 2 * k + 1)).2 = 0 := hgd
  rw [hI]
  repeat' (first | ((first | refine za zb7 (za2) (fun K hK => ?_) | refine zc zb7 (za2) ?_ | refine zh ?_ | refine zi ?_ | refine zn ?_); simp only [go_sem, aeq, aeq.aeqF, simprocAttr, sectI, rdA, Tryz.results10]) | refine zq (fun K hK => ?_) | refine zo ?_ | refine zf rfl ?_ | refine zg rfl ?_ | refine zp rfl (fun hc => ?_) (fun hc => ?_) | (refine hK _ ?_; clear hK K) | ((first | refine (show AS.le _ _ from ?_) | refine (show leH _ _ from ?_) | refine (show inH _ _ from ?_)); simp only [AS.le, leT, leH, zr, AsgK, AV.le, AV.leL, AObj.le, inH, idsT, idsH, AV.ids, AV.idsL, AV.idsR, AObj.ids, lk, hget, go_sem, aeq, aeq.aeqF, simprocAttr, sectI, rdA]) | refine fun (r2 : Rnd _) => ?_ | with_reducible refine And.intro ?_ ?_ | exact ‹_ <+: _› | omega | assumption | clear hK K)
  rw [hcl, if_neg (by omega), if_neg (by omega)]
 ·rw [hJ]
  rintro c h3 g3 ⟨rfl, rfl, t, e, he, rfl⟩
  repeat' (first | ((first | refine za zb7 (za2) (fun K hK => ?_) | refine zc zb7 (za2) ?_ | refine zh ?_ | refine zi ?_ | refine zn ?_); simp only [go_sem, aeq, aeq.aeqF, simprocAttr, Tryz.results10]) | refine zq (fun K hK => ?_) | refine zo ?_ | refine zf rfl ?_ | refine zg rfl ?_ | refine zp rfl (fun hc => ?_) (fun hc => ?_) | (refine hK _ ?_; clear hK K) | ((first | refine (show AS.le _ _ from ?_) | refine (show leH _ _ from ?_) | refine (show inH _ _ from ?_)); simp only [AS.le, leT, leH, zr, AsgK, AV.le, AV.leL, AObj.le, inH, idsT, idsH, AV.ids, AV.idsL, AV.idsR, AObj.ids, lk, hget, go_sem, aeq, aeq.aeqF, simprocAttr]) | refine fun (r2 : Rnd _) => ?_ | with_reducible refine And.intro ?_ ?_ | exact ‹_ <+: _› | omega | assumption | clear hK K)
  rw [he]
noncomputable def zbH : Ent Tryz.prog := .ofL 10 (consL zM (consL (intT .i64) (consL (intT .i64) nilL))) (fun (d, l1, guest, _) => DiskF d) (fun (d, l1, guest, _) => .tup [.d (.str (cread d l1 guest).1), .d (.int .i64 (cread d l1 guest).2)]) (fun (d, l1, guest, _) hp => ⟨rfl, znJ d l1 guest hp⟩)
attribute [go_sem] zbH
open Go Go.Proofs
theorem zqP (s : Txt) : ((nameS s).2 != 0) = !zbY s := by
 unfold nameS
 split
 ·rename_i h
  have hl : s.length ≤ 8 := by
   unfold zbY at h
   simp only [Bool.and_eq_true, decide_eq_true_eq] at h
   exact h.2.2
  rw [h, padS, if_neg (by omega)]
  rfl
 ·rename_i h
  simp only [Bool.not_eq_true] at h
  rw [h]
  rfl
theorem zqQ {α : Type} {x y : α} {r bs : List α} (h : r.length = bs.length) : putL (x :: y :: r) 2 bs = x :: y :: bs := by
 rw [zin _ _ _ (by simp; omega)]
 simp
 omega
theorem znM (l : List Bool) : ((l.map D.bool).map AV.d).all AV.leaf = true := by simp [AV.leaf]
noncomputable def zaV : Tab := tabOf [zdC, zet, zbl, ziJ, zfV, zg6]
theorem zak : TabOk Tryz.prog zaV := zz _
@[go_sem] theorem zrC (args : List AV) : zaV 68 args = (zdC).e args := rfl
@[go_sem] theorem zof (args : List AV) : zaV 69 args = (zet).e args := rfl
@[go_sem] theorem zrD (args : List AV) : zaV 70 args = (zbl).e args := rfl
@[go_sem] theorem ztu (args : List AV) : zaV 71 args = (ziJ).e args := rfl
@[go_sem] theorem zqR (args : List AV) : zaV 72 args = (zfV).e args := rfl
@[go_sem] theorem zrE (args : List AV) : zaV 73 args = (zg6).e args := rfl
theorem zqS (x : Img) (h : ImgOk x) : ACall Tryz.prog 24 0 [imgA x] [] (fun r _ => r = .d (.bool (ifit x))) := by
 refine zA ?_
 refine zk Tryz.func24 rfl (zu Tryz.func24 (by kernel_rfl) rfl) Tryz.ntmps24 (by simp) (fun base => ?_)
 have h1 := h.disk
 have h2 := h.maps
 by_cases hc0 : (!zcd x.geom.guest x.geom.host || !dfit x.disk || ((dsize x.disk : Int) != zcA x.geom.guest x.geom.host) || !jfit x.jour || decide (2 < (x.maps.length : Int))) = true
 ·repeat' (first | ((first | refine za zaV (zak) (fun K hK => ?_) | refine zc zaV (zak) ?_ | refine ze zaV (zak) mx (fun K hK => ?_) | refine zj zaV (zak) mx ?_ | refine zh ?_ | refine zi ?_ | refine zn ?_); simp only [go_sem, aeq, aeq.aeqF, simprocAttr, hc0, Tryz.results24]) | refine zq (fun K hK => ?_) | refine zo ?_ | refine zf rfl ?_ | refine zg rfl ?_ | refine zp rfl (fun hc => ?_) (fun hc => ?_) | (refine hK _ ?_; clear hK K) | with_reducible refine And.intro ?_ ?_ | (refine (show zt _ _ = true from ?_); kernel_rfl) | omega | assumption | refine fun (hg : (_ : Bool) = (_ : Bool)) => ?_ | clear hK K)
  have : ifit x = false := by
   simp only [Bool.or_eq_true, Bool.not_eq_true', bne_iff_ne, decide_eq_true_eq] at hc0
   unfold ifit
   rcases hc0 with (((hh | hh) | hh) | hh) | hh
   ·rw [hh]; simp
   ·rw [hh]; simp
   ·rw [beq_eq_false_iff_ne.2 hh]; simp
   ·rw [hh]; simp
   ·rw [decide_eq_false (p := x.maps.length ≤ 2) (by omega)]; simp
  rw [this]
 have hc0 : (!zcd x.geom.guest x.geom.host || !dfit x.disk || ((dsize x.disk : Int) != zcA x.geom.guest x.geom.host) || !jfit x.jour || decide (2 < (x.maps.length : Int))) = false := by simpa using hc0
 have hfit : ifit x = mfit (x.maps.head?.map (·.name) |>.getD []) 0 x.maps := by
  simp only [Bool.or_eq_false_iff, Bool.not_eq_false', bne_eq_false_iff_eq, decide_eq_false_iff_not] at hc0
  rw [ifit, hc0.1.1.1.1, hc0.1.1.1.2, hc0.1.2, beq_iff_eq.2 hc0.1.1.2, decide_eq_true (p := x.maps.length ≤ 2) (by omega)]
  rfl
 repeat' (first | ((first | refine za zaV (zak) (fun K hK => ?_) | refine zc zaV (zak) ?_ | refine ze zaV (zak) mx (fun K hK => ?_) | refine zj zaV (zak) mx ?_ | refine zh ?_ | refine zi ?_ | refine zn ?_); simp only [go_sem, aeq, aeq.aeqF, simprocAttr, hc0, Tryz.results24]) | refine zq (fun K hK => ?_) | refine zo ?_ | refine zf rfl ?_ | refine zg rfl ?_ | refine zp rfl (fun hc => ?_) (fun hc => ?_) | (refine hK _ ?_; clear hK K) | with_reducible refine And.intro ?_ ?_ | (refine (show zt _ _ = true from ?_); kernel_rfl) | omega | assumption | refine fun (hg : (_ : Bool) = (_ : Bool)) => ?_ | clear hK K)
 obtain ⟨N0, hN0⟩ : ∃ N0, N0 = (x.maps.head?.map (·.name) |>.getD []) := ⟨_, rfl⟩
 rw [← hN0] at hfit
 refine zL (fun q : { i : Nat // i ≤ x.maps.length ∧ ifit x = mfit N0 i (x.maps.drop i) } => ⟨[(1, true, .vp 0 0), (39, true, .d (.sl 66 (x.maps.map dmapD))), (40, true, .d (.int .i64 x.maps.length)), (41, true, .d (.int .i64 q.1))], [(0, .var (imgV x))], some []⟩) (fun q => x.maps.length - q.1) ⟨0, Nat.zero_le _, hfit⟩ (by simp only [AS.le, leT, leH, zr, AsgK, AV.le, AV.leL, AObj.le, inH, idsT, idsH, AV.ids, AV.idsL, AV.idsR, AObj.ids, lk, hget, go_sem, aeq, aeq.aeqF, simprocAttr] <;> and_intros <;> rfl) (fun q => ?_)
 obtain ⟨i, hi, hf⟩ := q
 simp only at hi hf ⊢
 rcases zad dmapD x.maps i hi with ⟨m, hq, hlt, hcmp, hrow, hdr, htk⟩ | ⟨hend, hcmp⟩
 ·obtain ⟨m0, hq0⟩ := zae (l := x.maps) (i := 0) (by omega)
  have hrow0 := zbi (g := dmapD) hq0
  simp only [dmapD] at hrow hrow0
  have hpos : decide ((0 : Int) < (x.maps.length : Int)) = true := decide_eq_true (by omega)
  have hwi := zP (i := i) (by omega)
  have hnl := h.names m (List.mem_of_getElem? hq)
  have hm64 := h.bits m (List.mem_of_getElem? hq)
  have hN : N0 = m0.name := by rw [hN0, List.head?_eq_getElem?, hq0]; rfl
  rw [hdr, mfit, hN] at hf
  have hall : (!zbY m.name || !m.inuse || (decide ((0 : Int) < (i : Int)) && (m.name == m0.name))) = !(zbY m.name && m.inuse && !(decide (0 < i) && (m0.name == m.name))) := by
   rw [Bool.not_and, Bool.not_and, Bool.not_not, show decide ((0 : Int) < (i : Int)) = decide (0 < i) from ztP, show (m.name == m0.name) = (m0.name == m.name) from BEq.comm]
  have hne := zqP m.name
  have ht1 : List.take 64 ((m.bits.map D.bool).map AV.d) = (m.bits.map D.bool).map AV.d := List.take_of_length_le (by simp [hm64])
  have hlf := znM m.bits
  have hlm : ((m.bits.map D.bool).map AV.d).length = 64 := by simp [hm64]
  repeat' (first | ((first | refine za zaV (zak) (fun K hK => ?_) | refine zc zaV (zak) ?_ | refine ze zaV (zak) mx (fun K hK => ?_) | refine zj zaV (zak) mx ?_ | refine zh ?_ | refine zi ?_ | refine zn ?_); simp only [go_sem, aeq, aeq.aeqF, simprocAttr, hcmp, hrow, hrow0, hpos, hne, ht1, hlf, hlm, zqQ, Int.toNat_natCast, Tryz.results24]) | refine zq (fun K hK => ?_) | refine zo ?_ | refine zf rfl ?_ | refine zg rfl ?_ | refine zp rfl (fun hc => ?_) (fun hc => ?_) | (refine hK _ ?_; clear hK K) | with_reducible refine And.intro ?_ ?_ | (refine (show zt _ _ = true from ?_); kernel_rfl) | omega | assumption | refine fun (hg : (_ : Bool) = (_ : Bool)) => ?_ | clear hK K)
  ·rename_i hg0
   rw [hg0, hg]; rfl
  ·rw [hall] at hc
   simp only [Bool.not_eq_true'] at hc
   rw [hf, hc, Bool.false_and]
  ·rw [hall] at hc
   simp only [Bool.not_eq_false'] at hc
   rw [hc, Bool.true_and, ← hN] at hf
   exact ⟨⟨i + 1, by omega, hf⟩, by simp only [AS.le, leT, leH, zr, AsgK, AV.le, AV.leL, AObj.le, inH, idsT, idsH, AV.ids, AV.idsL, AV.idsR, AObj.ids, lk, hget, go_sem, aeq, aeq.aeqF, simprocAttr, hwi], by simp; omega⟩
 ·repeat' (first | ((first | refine za zaV (zak) (fun K hK => ?_) | refine zc zaV (zak) ?_ | refine ze zaV (zak) mx (fun K hK => ?_) | refine zj zaV (zak) mx ?_ | refine zh ?_ | refine zi ?_ | refine zn ?_); simp only [go_sem, aeq, aeq.aeqF, simprocAttr, hcmp, Tryz.results24]) | refine zq (fun K hK => ?_) | refine zo ?_ | refine zf rfl ?_ | refine zg rfl ?_ | refine zp rfl (fun hc => ?_) (fun hc => ?_) | (refine hK _ ?_; clear hK K) | with_reducible refine And.intro ?_ ?_ | (refine (show zt _ _ = true from ?_); kernel_rfl) | omega | assumption | refine fun (hg : (_ : Bool) = (_ : Bool)) => ?_ | clear hK K)
  rw [hf, hend, List.drop_length]
  rfl
noncomputable def zeK : Ent Tryz.prog := .ofL 24 (consL zei nilL) (fun (x, _) => ImgOk x) (fun (x, _) => .d (.bool (ifit x))) (fun (x, _) hp => ⟨rfl, zqS x hp⟩)
attribute [go_sem] zeK
open Go Go.Proofs
@[simp, go_sem] theorem zvf (x : Img) (d : Disk) : (wdisk x d).disk = d := rfl
@[simp, go_sem] theorem zvg (x : Img) (d : Disk) : (wdisk x d).geom = x.geom := rfl
@[simp, go_sem] theorem zvh (x : Img) (d : Disk) : (wdisk x d).jour = x.jour := rfl
@[simp, go_sem] theorem zvi (x : Img) (d : Disk) : (wdisk x d).maps = x.maps := rfl
@[simp, go_sem] theorem zuc (x : Img) (d : Disk) : (wdisk x d).broken = x.broken := rfl
@[simp, go_sem] theorem zu6 (x : Img) (d e : Disk) : wdisk (wdisk x d) e = wdisk x e := rfl
@[simp, go_sem] theorem zvj (x : Img) : wdisk x x.disk = x := rfl
theorem fix1 {P : Program} {f : FuncId} {args : List AV} {fl i : Nat} {h : AHeap} {r0 : AV} {X : AObj} (hc : ACall P f fl args h (fun r h' => ∃ ob', h' = [(i, ob')] ∧ r = r0 ∧ ob' = X)) : ACall P f fl args h (fun r h' => r = r0 ∧ h' = [(i, X)]) :=
 hc.mono (by rintro r h' ⟨ob', rfl, rfl, rfl⟩; exact ⟨rfl, rfl⟩)
structure JS where
 x : Img
 q : Plan
 loc : Int
 old : Txt
 e : Int
def jobP (x : Img) (g off : Int) (s : Txt) (l1 nx : Int) (y : Ent2) (q : Plan) (at_ : Int) (old : Txt) : List AV := [.d (.str x.disk.data), .d (.sl 2 (x.disk.cache.map putD)), .d (.int .i64 x.disk.fuse), .d (.bool x.disk.off), .d (.sl 1 (x.disk.bad.map intD)), .d (.int .i64 x.geom.guest), .d (.int .i64 x.geom.host), .d (.int .u64 x.jour.seq), .d (.int .i64 x.jour.pos), .d (.sl 66 (x.maps.map dmapD)), .d (.bool x.broken), .d (.int .i64 g), .d (.int .i64 off), .d (.str s), .d (.int .i64 l1), .d (.int .u32 nx), .d (.int .i64 y.kind), .d (.int .i64 y.loc), .d (.sl 1 (q.targets.map intD)), .d (.sl 1 (q.texts.map strD)), .d (.int .i64 at_), .d (.str old)]
attribute [go_sem] jobP
theorem ztv {x : Img} {g off : Int} {s : Txt} {l1 nx : Int} {y : Ent2} {q : Plan} {a : Int} {old : Txt} : (AObj.var (jobP x g off s l1 nx y q a old)).ids = [] := by
 simp [AObj.ids, jobP, AV.idsL, AV.ids]
theorem zb9 {x : Img} {g off : Int} {s : Txt} {l1 nx : Int} {y : Ent2} {q : Plan} {a : Int} {old : Txt} : ∀ j ∈ (AObj.var (jobP x g off s l1 nx y q a old)).ids, j = 2 := by
 rw [ztv]; simp
noncomputable def tabJ1 : Tab := tabOf [zbF, zcI, zaK, zcM, zbH, zf2, zdW, zaG, zdA, zbG, zaT]
theorem zx : TabOk Tryz.prog tabJ1 := zz _
@[go_sem] theorem zog (args : List AV) : tabJ1 94 args = (zbF).e args := rfl
@[go_sem] theorem zrF (args : List AV) : tabJ1 29 args = (zcI).e args := rfl
@[go_sem] theorem zqT (args : List AV) : tabJ1 99 args = (zaK).e args := rfl
@[go_sem] theorem zrG (args : List AV) : tabJ1 95 args = (zcM).e args := rfl
@[go_sem] theorem zoh (args : List AV) : tabJ1 10 args = (zbH).e args := rfl
@[go_sem] theorem zrH (args : List AV) : tabJ1 98 args = (zf2).e args := rfl
@[go_sem] theorem zoi (args : List AV) : tabJ1 14 args = (zdW).e args := rfl
@[go_sem] theorem znN (args : List AV) : tabJ1 153 args = (zaG).e args := rfl
@[go_sem] theorem ztw (args : List AV) : tabJ1 96 args = (zdA).e args := rfl
@[go_sem] theorem zoj (args : List AV) : tabJ1 31 args = (zbG).e args := rfl
@[go_sem] theorem zok (args : List AV) : tabJ1 32 args = (zaT).e args := rfl
def zcj (x : Img) (g : Int) : Ent2 × Int := if (zaa x.disk p0).2 ≠ 0 then (⟨0, 0⟩, (zaa x.disk p0).2) else elook x.disk p0 (zaa x.disk p0).1.l1 g
theorem ztx (x : Img) (g off : Int) (s : Txt) (h : ImgF x) : ACall Tryz.prog 35 20 [.vp 2 0] [(2, .var (jobP x g off s 0 0 ⟨0, 0⟩ p0 0 []))] (fun r h' => ∃ ob', h' = [(2, ob')] ∧ r = .d (.int .i64 (zcj x g).2) ∧ ob' = .var (jobP x g off s (zaa x.disk p0).1.l1 (zaa x.disk p0).1.next (zcj x g).1 p0 0 [])) := by
 refine zk Tryz.func35 rfl (zu Tryz.func35 (by kernel_rfl) rfl) Tryz.ntmps35 (by simp) (fun base => ?_)
 have hdp : DP x.disk p0 := ⟨h.disk, zge⟩
 repeat' (first | ((first | refine za tabJ1 (zx) (fun K hK => ?_) | refine zc tabJ1 (zx) ?_ | refine ze tabJ1 (zx) mx (fun K hK => ?_) | refine zj tabJ1 (zx) mx ?_ | refine zh ?_ | refine zi ?_ | refine zn ?_); simp only [go_sem, aeq, aeq.aeqF, simprocAttr, Tryz.results35]) | refine zq (fun K hK => ?_) | refine zf rfl ?_ | refine zg rfl ?_ | refine zp rfl (fun hc => ?_) (fun hc => ?_) | (refine hK _ ?_; clear hK K) | refine fun (nb : Bool) (hnb : nb = true → _) => ?_ | with_reducible refine And.intro ?_ ?_ | (refine (show zt _ _ = true from ?_); kernel_rfl) | omega | assumption | clear hK K)
 ·refine ⟨_, rfl, ?_, ?_⟩ <;> rw [zcj, if_neg (show ¬ _ ≠ _ from fun h2 => h2 (beqP hc))]
 ·refine ⟨_, rfl, ?_, ?_⟩ <;> rw [zcj, if_pos (beqN hc)]
theorem zqU (x : Img) (g off : Int) (s : Txt) (l1 nx : Int) (y : Ent2) (h : ImgF x) : ACall Tryz.prog 41 20 [.vp 2 0] [(2, .var (jobP x g off s l1 nx y p0 0 []))] (fun r h' => ∃ ob', h' = [(2, ob')] ∧ (r = .tup [.d (.bool (if y.kind = 1 then decide ((rget x.disk p0 y.loc).1 ≤ 1) else false)), .d (.int .i64 (if y.kind = 1 then (rget x.disk p0 y.loc).2 else 0))]) ∧ ob' = .var (jobP x g off s l1 nx y p0 0 [])) := by
 refine zk Tryz.func41 rfl (zu Tryz.func41 (by kernel_rfl) rfl) Tryz.ntmps41 (by simp) (fun base => ?_)
 have hdp : DP x.disk p0 := ⟨h.disk, zge⟩
 repeat' (first | ((first | refine za tabJ1 (zx) (fun K hK => ?_) | refine zc tabJ1 (zx) ?_ | refine ze tabJ1 (zx) mx (fun K hK => ?_) | refine zj tabJ1 (zx) mx ?_ | refine zh ?_ | refine zi ?_ | refine zn ?_); simp only [go_sem, aeq, aeq.aeqF, simprocAttr, Tryz.results41]) | refine zq (fun K hK => ?_) | refine zf rfl ?_ | refine zg rfl ?_ | refine zp rfl (fun hc => ?_) (fun hc => ?_) | (refine hK _ ?_; clear hK K) | refine fun (nb : Bool) (hnb : nb = true → _) => ?_ | with_reducible refine And.intro ?_ ?_ | (refine (show zt _ _ = true from ?_); kernel_rfl) | omega | assumption | clear hK K)
 ·exact ⟨_, rfl, by rw [if_neg (bneP hc), if_neg (bneP hc)], rfl⟩
 ·have hk : y.kind = 1 := Classical.byContradiction (bneN hc)
  exact ⟨_, rfl, by rw [if_pos hk, if_pos hk], rfl⟩
theorem zty (x : Img) (g off : Int) (s : Txt) (l1 nx : Int) (y : Ent2) (h : ImgF x) : ACall Tryz.prog 36 20 [.vp 2 0] [(2, .var (jobP x g off s l1 nx y p0 0 []))] (fun r h' => ∃ ob', h' = [(2, ob')] ∧ (r = .d (.int .i64 (rtake x.disk p0 x.geom).2.2)) ∧ ob' = .var (jobP x g off s l1 nx y (rtake x.disk p0 x.geom).1 (rtake x.disk p0 x.geom).2.1 [])) := by
 refine zk Tryz.func36 rfl (zu Tryz.func36 (by kernel_rfl) rfl) Tryz.ntmps36 (by simp) (fun base => ?_)
 have hdp : DP x.disk p0 := ⟨h.disk, zge⟩
 have hh := h.host
 repeat' (first | ((first | refine za tabJ1 (zx) (fun K hK => ?_) | refine zc tabJ1 (zx) ?_ | refine ze tabJ1 (zx) mx (fun K hK => ?_) | refine zj tabJ1 (zx) mx ?_ | refine zh ?_ | refine zi ?_ | refine zn ?_); simp only [go_sem, aeq, aeq.aeqF, simprocAttr, Tryz.results36]) | refine zq (fun K hK => ?_) | (refine hK _ ?_; clear hK K) | refine fun (nb : Bool) (hnb : nb = true → _) => ?_ | with_reducible refine And.intro ?_ ?_ | (refine (show zt _ _ = true from ?_); kernel_rfl) | omega | assumption | clear hK K)
 all_goals first | exact ⟨_, rfl, rfl, rfl⟩ | exact ⟨_, rfl, rfl⟩ | omega
theorem ztz (x : Img) (g off : Int) (s : Txt) (l1 nx : Int) (y : Ent2) (q : Plan) (a : Int) (h : ImgF x) : ACall Tryz.prog 37 20 [.vp 2 0] [(2, .var (jobP x g off s l1 nx y q a []))] (fun r h' => ∃ ob', h' = [(2, ob')] ∧ (r = .d (.int .i64 (cread x.disk l1 g).2)) ∧ ob' = .var (jobP x g off s l1 nx y q a (cread x.disk l1 g).1)) := by
 refine zk Tryz.func37 rfl (zu Tryz.func37 (by kernel_rfl) rfl) Tryz.ntmps37 (by simp) (fun base => ?_)
 have hdf := h.disk
 repeat' (first | ((first | refine za tabJ1 (zx) (fun K hK => ?_) | refine zc tabJ1 (zx) ?_ | refine ze tabJ1 (zx) mx (fun K hK => ?_) | refine zj tabJ1 (zx) mx ?_ | refine zh ?_ | refine zi ?_ | refine zn ?_); simp only [go_sem, aeq, aeq.aeqF, simprocAttr, Tryz.results37]) | refine zq (fun K hK => ?_) | (refine hK _ ?_; clear hK K) | refine fun (nb : Bool) (hnb : nb = true → _) => ?_ | with_reducible refine And.intro ?_ ?_ | (refine (show zt _ _ = true from ?_); kernel_rfl) | omega | assumption | clear hK K)
 all_goals first | exact ⟨_, rfl, rfl, rfl⟩ | exact ⟨_, rfl, rfl⟩ | omega
theorem zqV (x : Img) (g off : Int) (s : Txt) (l1 nx : Int) (y : Ent2) (q : Plan) (a : Int) (old : Txt) (h : ImgF x) (hq : pfit q = true) : ACall Tryz.prog 39 20 [.vp 2 0] [(2, .var (jobP x g off s l1 nx y q a old))] (fun r h' => ∃ ob', h' = [(2, ob')] ∧ (r = .d (.int .i64 (ppoint x.disk q x.geom g ⟨1, a⟩).2)) ∧ ob' = .var (jobP x g off s l1 nx y (ppoint x.disk q x.geom g ⟨1, a⟩).1 a old)) := by
 refine zk Tryz.func39 rfl (zu Tryz.func39 (by kernel_rfl) rfl) Tryz.ntmps39 (by simp) (fun base => ?_)
 have hdp : DP x.disk q := ⟨h.disk, hq⟩
 have hh := h.host
 have hg := h.guest
 repeat' (first | ((first | refine za tabJ1 (zx) (fun K hK => ?_) | refine zc tabJ1 (zx) ?_ | refine ze tabJ1 (zx) mx (fun K hK => ?_) | refine zj tabJ1 (zx) mx ?_ | refine zh ?_ | refine zi ?_ | refine zn ?_); simp only [go_sem, aeq, aeq.aeqF, simprocAttr, Tryz.results39]) | refine zq (fun K hK => ?_) | (refine hK _ ?_; clear hK K) | refine fun (nb : Bool) (hnb : nb = true → _) => ?_ | with_reducible refine And.intro ?_ ?_ | (refine (show zt _ _ = true from ?_); kernel_rfl) | omega | assumption | clear hK K)
 all_goals first | exact ⟨_, rfl, rfl, rfl⟩ | exact ⟨_, rfl, rfl⟩ | omega
theorem ztA (x : Img) (g off : Int) (s : Txt) (l1 nx : Int) (y : Ent2) (q : Plan) (a : Int) (old : Txt) (h : ImgF x) (hq : pfit q = true) : ACall Tryz.prog 40 20 [.vp 2 0] [(2, .var (jobP x g off s l1 nx y q a old))] (fun r h' => ∃ ob', h' = [(2, ob')] ∧ (r = .d (.int .i64 (cdone x q).2)) ∧ ob' = .var (jobP (cdone x q).1 g off s l1 nx y q a old)) := by
 refine zk Tryz.func40 rfl (zu Tryz.func40 (by kernel_rfl) rfl) Tryz.ntmps40 (by simp) (fun base => ?_)
 have hdf := h.disk
 have hok := h.ok
 have hs0 := h.seq0
 have hs1 := h.seq1
 repeat' (first | ((first | refine za tabJ1 (zx) (fun K hK => ?_) | refine zc tabJ1 (zx) ?_ | refine ze tabJ1 (zx) mx (fun K hK => ?_) | refine zj tabJ1 (zx) mx ?_ | refine zh ?_ | refine zi ?_ | refine zn ?_); simp only [go_sem, aeq, aeq.aeqF, simprocAttr, Tryz.results40]) | refine zq (fun K hK => ?_) | (refine hK _ ?_; clear hK K) | refine fun (nb : Bool) (hnb : nb = true → _) => ?_ | with_reducible refine And.intro ?_ ?_ | (refine (show zt _ _ = true from ?_); kernel_rfl) | omega | assumption | clear hK K)
 all_goals first | exact ⟨_, rfl, rfl, rfl⟩ | exact ⟨_, rfl, rfl⟩ | omega
theorem zhy (x : Img) (g off : Int) (s : Txt) (l1 nx : Int) (y : Ent2) (q : Plan) (a : Int) (old : Txt) (t : Int) (u : Txt) (h : DiskOk x.disk) : ACall Tryz.prog 97 40 [.vp 2 0, .d (.int .i64 t), .d (.str u)] [(2, .var (jobP x g off s l1 nx y q a old))] (fun r h' => ∃ ob', h' = [(2, ob')] ∧ (r = .d (.int .i64 (zQ x.disk t u).2)) ∧ ob' = .var (jobP (wdisk x (zQ x.disk t u).1) g off s l1 nx y q a old)) := by
 refine zk Tryz.func97 rfl (zu Tryz.func97 (by kernel_rfl) rfl) Tryz.ntmps97 (by simp) (fun base => ?_)
 repeat' (first | ((first | refine za tabJ1 (zx) (fun K hK => ?_) | refine zc tabJ1 (zx) ?_ | refine zh ?_ | refine zi ?_ | refine zn ?_); simp only [go_sem, aeq, aeq.aeqF, simprocAttr, Tryz.results97]) | refine zq (fun K hK => ?_) | (refine hK _ ?_; clear hK K) | refine fun (nb : Bool) (hnb : nb = true → _) => ?_ | with_reducible refine And.intro ?_ ?_ | omega | assumption | clear hK K)
 all_goals first | exact ⟨_, rfl, rfl, rfl⟩ | exact ⟨_, rfl, rfl⟩ | omega
theorem ztB (x : Img) (g off : Int) (s : Txt) (l1 nx : Int) (y : Ent2) (q : Plan) (a : Int) (old : Txt) (h : ImgF x) (ha : zR a = true) (ho : old.length = 128) (h0 : 0 ≤ off) (h1 : off + s.length ≤ 128) : ACall Tryz.prog 38 20 [.vp 2 0] [(2, .var (jobP x g off s l1 nx y q a old))] (fun r h' => ∃ ob', h' = [(2, ob')] ∧ (r = .d (.int .i64 (layL x.disk (zbr a (overS old off s).1)).2)) ∧ ob' = .var (jobP (wdisk x (layL x.disk (zbr a (overS old off s).1)).1) g off s l1 nx y q a old)) := by
 refine zW (fun i => decide (i < 20)) ?_
 refine zk Tryz.func38 rfl (zu Tryz.func38 (by kernel_rfl) rfl) Tryz.ntmps38 (by simp) (fun base => ?_)
 have ha2 := hostOk_iff.1 ha
 have hbl : (overS old off s).1.length = 128 := by rw [zqd h0 (by omega), ho]
 obtain ⟨b, hb⟩ : ∃ b, b = (overS old off s).1 := ⟨_, rfl⟩
 rw [← hb] at hbl ⊢
 obtain ⟨L, hL⟩ : ∃ L, L = layL x.disk (zbr a b) := ⟨_, rfl⟩
 rw [← hL]
 have hx := h.disk
 repeat' (first | ((first | refine za tabJ1 (zx) (fun K hK => ?_) | refine zc tabJ1 (zx) ?_ | refine ze tabJ1 (zx) mx (fun K hK => ?_) | refine zj tabJ1 (zx) mx ?_ | refine zh ?_ | refine zi ?_ | refine zn ?_); simp only [go_sem, aeq, aeq.aeqF, simprocAttr, ← hb, Tryz.results38]) | refine zq (fun K hK => ?_) | refine zo ?_ | refine zf rfl ?_ | refine zg rfl ?_ | refine zp rfl (fun hc => ?_) (fun hc => ?_) | (refine hK _ ?_; clear hK K) | ((first | refine (show AS.le _ _ from ?_) | refine (show leH _ _ from ?_) | refine (show inH _ _ from ?_)); simp only [AS.le, leT, leH, zr, AsgK, AV.le, AV.leL, AObj.le, inH, idsT, idsH, AV.ids, AV.idsL, AV.idsR, AObj.ids, lk, hget, go_sem, aeq, aeq.aeqF, simprocAttr, ← hb]) | refine fun (r2 : Rnd _) => ?_ | refine fun (nb : Bool) (hnb : nb = true → _) => ?_ | with_reducible refine And.intro ?_ ?_ | exact ‹_ <+: _› | (refine (show zt _ _ = true from ?_); kernel_rfl) | omega | assumption | clear hK K)
 obtain ⟨I, hI⟩ : ∃ I : List (List AV) → AHeap × Option (List (List AV)), I = fun xs => ([(22, .var [.d (.str b)]), (21, .var [.d (.int .i64 0)]), (20, .var [.vp 2 0]), (2, .var (jobP (wdisk x (layF x.disk ((zbr a b).take xs.length))) g off s l1 nx y q a old))], some []) := ⟨_, rfl⟩
 obtain ⟨G, hG⟩ : ∃ G : List (List AV) → Prop, G = fun xs => L = layL (layF x.disk ((zbr a b).take xs.length)) ((zbr a b).drop xs.length) := ⟨_, rfl⟩
 obtain ⟨J, hJ⟩ : ∃ J : Code → AHeap → Option (List (List AV)) → Prop, J = fun c h gg => c = .ret ∧ gg = some [] ∧ h = [(22, .var [.d (.str b)]), (21, .var [.d (.int .i64 L.2)]), (20, .var [.vp 2 0]), (2, .var (jobP (wdisk x L.1) g off s l1 nx y q a old))] := ⟨_, rfl⟩
 have hw64 : IntKind.i64.wrap 64 = 64 := by decide
 have hw128 : IntKind.i64.wrap 128 = 128 := by decide
 have hz0 : Int.toNat 0 = 0 := rfl
 have h64 : Int.toNat 64 = 64 := rfl
 have h128 : Int.toNat 128 = 128 := rfl
 refine aw_le ⟨[(1, true, .vp 20 0), (2, true, .vp 21 0), (3, true, .vp 22 0), (28, true, .fn (.func 87) [] [.dp [.d (.int .i64 a)]])], [(22, .var [.d (.str b)]), (21, .var [.d (.int .i64 0)]), (20, .var [.vp 2 0]), (2, .var (jobP x g off s l1 nx y q a old))], some []⟩ (by simp only [AS.le, leT, leH, zr, AsgK, AV.le, AV.leL, AObj.le, inH, idsT, idsH, AV.ids, AV.idsL, AV.idsR, AObj.ids, lk, hget, go_sem, aeq, aeq.aeqF, simprocAttr]) ?_
 have hwx : wdisk x x.disk = x := rfl
 refine za0 100 G I J (zeJ 100 a (by omega) (by omega)) (by simp only [go_sem, aeq, aeq.aeqF, simprocAttr]) rfl (zT rfl) (by simp [cxOf, cxY]) rfl (by rw [hG]; first | trivial | rfl | simp) (by rw [hI]; simp only [AS.le, leT, leH, zr, AsgK, AV.le, AV.leL, AObj.le, inH, idsT, idsH, AV.ids, AV.idsL, AV.idsR, AObj.ids, lk, hget, go_sem, aeq, aeq.aeqF, simprocAttr] <;> simp [AV.leL, AV.le]) (by rw [hI]; simp only [AS.le, leT, leH, zr, AsgK, AV.le, AV.leL, AObj.le, inH, idsT, idsH, AV.ids, AV.idsL, AV.idsR, AObj.ids, lk, hget, go_sem, aeq, aeq.aeqF, simprocAttr] <;> simp) (by rw [hI] <;> rfl) (by intro x hx; obtain ⟨q, _, rfl⟩ := List.mem_map.1 hx; rfl) (by intro t ht; simp at ht; first | (rcases ht with rfl | rfl <;> simp [cxOf, cxY] <;> done) | (subst ht; simp [cxOf, cxY])) ?_ ?_ ?_
 ·intro xs x1 hpre hgd l1' r1
  obtain ⟨ys, qq, zs, hys, rfl, hzl⟩ := zcV hpre
  have hln : xs.length = ys.length := by rw [hys]; simp
  rw [hG] at hgd
  rcases zfZ hzl with ⟨rfl, rfl⟩ | ⟨rfl, rfl⟩
  ·have hx0 : xs = [] := by simpa using hys
   subst hx0
   simp only [z6]
   have hgd' : L = if (zQ x.disk (96 + 2 * a) (b.take 64)).2 ≠ 0 then zQ x.disk (96 + 2 * a) (b.take 64) else layL (zQ x.disk (96 + 2 * a) (b.take 64)).1 ((zbr a b).drop 1) := hgd
   refine aw_le ⟨[(29, true, .d (.int .i64 (96 + 2 * a))), (30, true, .d (.int .i64 0)), (1, true, .vp 20 0), (2, true, .vp 21 0), (3, true, .vp 22 0)], [(22, .var [.d (.str b)]), (21, .var [.d (.int .i64 0)]), (20, .var [.vp 2 0]), (2, .var (jobP x g off s l1 nx y q a old))], some []⟩ (by rw [hI]; simp only [AS.le, leT, leH, zr, AsgK, AV.le, AV.leL, AObj.le, inH, idsT, idsH, AV.ids, AV.idsL, AV.idsR, AObj.ids, lk, hget, go_sem, aeq, aeq.aeqF, simprocAttr, wdisk]) ?_
   repeat' (first | ((first | refine za tabJ1 (zx) (fun K hK => ?_) | refine zc tabJ1 (zx) ?_ | refine zE tabJ1 [1000097] (zx) mx (fun K hK => ?_) | refine zF tabJ1 [1000097] (zx) mx ?_ | refine zh ?_ | refine zi ?_ | refine zn ?_); simp only [go_sem, aeq, aeq.aeqF, simprocAttr, hw64, hz0, h64, hbl, Tryz.results38]) | refine zq (fun K hK => ?_) | refine zo ?_ | refine zf rfl ?_ | refine zg rfl ?_ | refine zp rfl (fun hc => ?_) (fun hc => ?_) | (refine hK _ ?_; clear hK K) | ((first | refine (show AS.le _ _ from ?_) | refine (show leH _ _ from ?_) | refine (show inH _ _ from ?_)); simp only [AS.le, leT, leH, zr, AsgK, AV.le, AV.leL, AObj.le, inH, idsT, idsH, AV.ids, AV.idsL, AV.idsR, AObj.ids, lk, hget, go_sem, aeq, aeq.aeqF, simprocAttr, hw64, hz0, h64, hbl]) | refine fun (r2 : Rnd _) => ?_ | refine fun (nb : Bool) (hnb : nb = true → _) => ?_ | with_reducible refine And.intro ?_ ?_ | exact ‹_ <+: _› | (refine (show zah _ _ = true from ?_); kernel_rfl) | omega | assumption | clear hK K)
   refine ⟨2, 40, .var (jobP x g off s l1 nx y q a old), _, _, rfl, by decide, zb9, by simp [AV.idsL, AV.ids], fix1 (zhy x g off s l1 nx y q a old (96 + 2 * a) (b.take 64) hx.ok), ?_⟩
   simp only [go_sem, aeq, aeq.aeqF, simprocAttr]
   repeat' (first | ((first | refine za tabJ1 (zx) (fun K hK => ?_) | refine zc tabJ1 (zx) ?_ | refine zE tabJ1 [1000097] (zx) mx (fun K hK => ?_) | refine zF tabJ1 [1000097] (zx) mx ?_ | refine zh ?_ | refine zi ?_ | refine zn ?_); simp only [go_sem, aeq, aeq.aeqF, simprocAttr, hI, Tryz.results38]) | refine zq (fun K hK => ?_) | refine zo ?_ | refine zf rfl ?_ | refine zg rfl ?_ | refine zp rfl (fun hc => ?_) (fun hc => ?_) | (refine hK _ ?_; clear hK K) | ((first | refine (show AS.le _ _ from ?_) | refine (show leH _ _ from ?_) | refine (show inH _ _ from ?_)); simp only [AS.le, leT, leH, zr, AsgK, AV.le, AV.leL, AObj.le, inH, idsT, idsH, AV.ids, AV.idsL, AV.idsR, AObj.ids, lk, hget, go_sem, aeq, aeq.aeqF, simprocAttr, hI]) | refine fun (r2 : Rnd _) => ?_ | refine fun (nb : Bool) (hnb : nb = true → _) => ?_ | with_reducible refine And.intro ?_ ?_ | exact ‹_ <+: _› | (refine (show zah _ _ = true from ?_); kernel_rfl) | omega | assumption | clear hK K)
   all_goals try rfl
   ·rw [hJ]
    rw [if_pos (bneP hc)] at hgd'
    exact ⟨rfl, rfl, by rw [hgd']; rfl⟩
   ·rw [hG]
    rw [if_neg (bneN hc)] at hgd'
    exact hgd'
  ·have hx0 : xs = [z6 (96 + 2 * a, 0)] := by simpa using hys
   subst hx0
   simp only [z6]
   obtain ⟨d1, hd1⟩ : ∃ d1, d1 = (zQ x.disk (96 + 2 * a) (b.take 64)).1 := ⟨_, rfl⟩
   have hd1F : DiskF d1 := by rw [hd1]; exact hx.write _ _
   have hgd' : L = if (zQ d1 (96 + 2 * a + 1) ((b.take 128).drop 64)).2 ≠ 0 then zQ d1 (96 + 2 * a + 1) ((b.take 128).drop 64) else ((zQ d1 (96 + 2 * a + 1) ((b.take 128).drop 64)).1, 0) := by rw [hd1]; exact hgd
   refine aw_le ⟨[(29, true, .d (.int .i64 (96 + 2 * a + 1))), (30, true, .d (.int .i64 64)), (1, true, .vp 20 0), (2, true, .vp 21 0), (3, true, .vp 22 0)], [(22, .var [.d (.str b)]), (21, .var [.d (.int .i64 0)]), (20, .var [.vp 2 0]), (2, .var (jobP (wdisk x d1) g off s l1 nx y q a old))], some []⟩ (by rw [hI, hd1]; simp only [AS.le, leT, leH, zr, AsgK, AV.le, AV.leL, AObj.le, inH, idsT, idsH, AV.ids, AV.idsL, AV.idsR, AObj.ids, lk, hget, go_sem, aeq, aeq.aeqF, simprocAttr, wdisk] <;> and_intros <;> rfl) ?_
   repeat' (first | ((first | refine za tabJ1 (zx) (fun K hK => ?_) | refine zc tabJ1 (zx) ?_ | refine zE tabJ1 [1000097] (zx) mx (fun K hK => ?_) | refine zF tabJ1 [1000097] (zx) mx ?_ | refine zh ?_ | refine zi ?_ | refine zn ?_); simp only [go_sem, aeq, aeq.aeqF, simprocAttr, hw64, hw128, h64, h128, hbl, Tryz.results38]) | refine zq (fun K hK => ?_) | refine zo ?_ | refine zf rfl ?_ | refine zg rfl ?_ | refine zp rfl (fun hc => ?_) (fun hc => ?_) | (refine hK _ ?_; clear hK K) | ((first | refine (show AS.le _ _ from ?_) | refine (show leH _ _ from ?_) | refine (show inH _ _ from ?_)); simp only [AS.le, leT, leH, zr, AsgK, AV.le, AV.leL, AObj.le, inH, idsT, idsH, AV.ids, AV.idsL, AV.idsR, AObj.ids, lk, hget, go_sem, aeq, aeq.aeqF, simprocAttr, hw64, hw128, h64, h128, hbl]) | refine fun (r2 : Rnd _) => ?_ | refine fun (nb : Bool) (hnb : nb = true → _) => ?_ | with_reducible refine And.intro ?_ ?_ | exact ‹_ <+: _› | (refine (show zah _ _ = true from ?_); kernel_rfl) | omega | assumption | clear hK K)
   refine ⟨2, 40, .var (jobP (wdisk x d1) g off s l1 nx y q a old), _, _, rfl, by decide, zb9, by simp [AV.idsL, AV.ids], fix1 (zhy (wdisk x d1) g off s l1 nx y q a old (96 + 2 * a + 1) ((b.take 128).drop 64) hd1F.ok), ?_⟩
   simp only [go_sem, aeq, aeq.aeqF, simprocAttr]
   repeat' (first | ((first | refine za tabJ1 (zx) (fun K hK => ?_) | refine zc tabJ1 (zx) ?_ | refine zE tabJ1 [1000097] (zx) mx (fun K hK => ?_) | refine zF tabJ1 [1000097] (zx) mx ?_ | refine zh ?_ | refine zi ?_ | refine zn ?_); simp only [go_sem, aeq, aeq.aeqF, simprocAttr, hI, Tryz.results38]) | refine zq (fun K hK => ?_) | refine zo ?_ | refine zf rfl ?_ | refine zg rfl ?_ | refine zp rfl (fun hc => ?_) (fun hc => ?_) | (refine hK _ ?_; clear hK K) | ((first | refine (show AS.le _ _ from ?_) | refine (show leH _ _ from ?_) | refine (show inH _ _ from ?_)); simp only [AS.le, leT, leH, zr, AsgK, AV.le, AV.leL, AObj.le, inH, idsT, idsH, AV.ids, AV.idsL, AV.idsR, AObj.ids, lk, hget, go_sem, aeq, aeq.aeqF, simprocAttr, hI]) | refine fun (r2 : Rnd _) => ?_ | refine fun (nb : Bool) (hnb : nb = true → _) => ?_ | with_reducible refine And.intro ?_ ?_ | exact ‹_ <+: _› | (refine (show zah _ _ = true from ?_); kernel_rfl) | omega | assumption | clear hK K)
   all_goals try (rw [hd1]; rfl)
   ·rw [hJ]
    rw [if_pos (bneP hc)] at hgd'
    exact ⟨rfl, rfl, by rw [hgd']; rfl⟩
   ·rw [hG]
    rw [if_neg (bneN hc), hd1] at hgd'
    exact hgd'
 ·intro hgd
  rw [hG] at hgd
  have hgd' : L = (layF x.disk (zbr a b), 0) := hgd
  rw [hI]
  repeat' (first | ((first | refine za tabJ1 (zx) (fun K hK => ?_) | refine zc tabJ1 (zx) ?_ | refine ze tabJ1 (zx) mx (fun K hK => ?_) | refine zj tabJ1 (zx) mx ?_ | refine zh ?_ | refine zi ?_ | refine zn ?_); simp only [go_sem, aeq, aeq.aeqF, simprocAttr, Tryz.results38]) | refine zq (fun K hK => ?_) | refine zo ?_ | refine zf rfl ?_ | refine zg rfl ?_ | refine zp rfl (fun hc => ?_) (fun hc => ?_) | (refine hK _ ?_; clear hK K) | ((first | refine (show AS.le _ _ from ?_) | refine (show leH _ _ from ?_) | refine (show inH _ _ from ?_)); simp only [AS.le, leT, leH, zr, AsgK, AV.le, AV.leL, AObj.le, inH, idsT, idsH, AV.ids, AV.idsL, AV.idsR, AObj.ids, lk, hget, go_sem, aeq, aeq.aeqF, simprocAttr]) | refine fun (r2 : Rnd _) => ?_ | refine fun (nb : Bool) (hnb : nb = true → _) => ?_ | with_reducible refine And.intro ?_ ?_ | exact ‹_ <+: _› | (refine (show zt _ _ = true from ?_); kernel_rfl) | omega | assumption | clear hK K)
  all_goals try rfl
  rw [hgd']
  exact ⟨_, rfl, rfl, rfl⟩
 ·rw [hJ]
  rintro c h3 g3 ⟨rfl, rfl, rfl⟩
  repeat' (first | ((first | refine za tabJ1 (zx) (fun K hK => ?_) | refine zc tabJ1 (zx) ?_ | refine ze tabJ1 (zx) mx (fun K hK => ?_) | refine zj tabJ1 (zx) mx ?_ | refine zh ?_ | refine zi ?_ | refine zn ?_); simp only [go_sem, aeq, aeq.aeqF, simprocAttr, Tryz.results38]) | refine zq (fun K hK => ?_) | refine zo ?_ | refine zf rfl ?_ | refine zg rfl ?_ | refine zp rfl (fun hc => ?_) (fun hc => ?_) | (refine hK _ ?_; clear hK K) | ((first | refine (show AS.le _ _ from ?_) | refine (show leH _ _ from ?_) | refine (show inH _ _ from ?_)); simp only [AS.le, leT, leH, zr, AsgK, AV.le, AV.leL, AObj.le, inH, idsT, idsH, AV.ids, AV.idsL, AV.idsR, AObj.ids, lk, hget, go_sem, aeq, aeq.aeqF, simprocAttr]) | refine fun (r2 : Rnd _) => ?_ | refine fun (nb : Bool) (hnb : nb = true → _) => ?_ | with_reducible refine And.intro ?_ ?_ | exact ‹_ <+: _› | (refine (show zt _ _ = true from ?_); kernel_rfl) | omega | assumption | clear hK K)
  all_goals first | rfl | exact ⟨_, rfl, rfl, rfl⟩ | exact ⟨_, rfl, rfl⟩
open Go Go.Proofs
def plF (d : Disk) (k off : Int) (s : Txt) : Nat → Disk
 | 0 => d
 | n + 1 => (cput1 (plF d k off s n) k off s n).1
@[simp, go_sem] theorem plF_0 (d : Disk) (k off : Int) (s : Txt) : plF d k off s 0 = d := rfl
theorem DiskF.plF {d : Disk} (h : DiskF d) (k off : Int) (s : Txt) : ∀ n, DiskF (plF d k off s n)
 | 0 => h
 | n + 1 => (DiskF.plF h k off s n).cput1 k off s n
theorem zu7 {k : Int} {ys zs : List (Int × Int)} {q : Int × Int} (h : sectI k = ys ++ q :: zs) : ys.length < 2 ∧ q = (96 + 2 * k + (ys.length : Int), (ys.length : Int) * 64) := by
 rcases zfZ h with ⟨rfl, rfl⟩ | ⟨rfl, rfl⟩
 ·refine ⟨by simp, ?_⟩; simp
 ·refine ⟨by simp, ?_⟩; simp
theorem zlc (x : Img) (g off : Int) (s : Txt) (l1 nx : Int) (y : Ent2) (h : ImgF x) (ha : zR y.loc = true) (h0 : 0 ≤ off) (h1 : off + s.length ≤ 128) : ACall Tryz.prog 42 20 [.vp 2 0] [(2, .var (jobP x g off s l1 nx y p0 0 []))] (fun r h' => ∃ ob', h' = [(2, ob')] ∧ (r = .d (.int .i64 (zie x.disk y.loc off s).2)) ∧ ob' = .var (jobP (wdisk x (zie x.disk y.loc off s).1) g off s l1 nx y p0 0 [])) := by
 refine zW (fun i => decide (i < 20)) ?_
 refine zk Tryz.func42 rfl (zu Tryz.func42 (by kernel_rfl) rfl) Tryz.ntmps42 (by simp) (fun base => ?_)
 have ha2 := hostOk_iff.1 ha
 have hx := h.disk
 obtain ⟨L, hL⟩ : ∃ L, L = zie x.disk y.loc off s := ⟨_, rfl⟩
 rw [← hL]
 repeat' (first | ((first | refine za tabJ1 (zx) (fun K hK => ?_) | refine zc tabJ1 (zx) ?_ | refine ze tabJ1 (zx) mx (fun K hK => ?_) | refine zj tabJ1 (zx) mx ?_ | refine zh ?_ | refine zi ?_ | refine zn ?_); simp only [go_sem, aeq, aeq.aeqF, simprocAttr, Tryz.results42]) | refine zq (fun K hK => ?_) | refine zo ?_ | refine zf rfl ?_ | refine zg rfl ?_ | refine zp rfl (fun hc => ?_) (fun hc => ?_) | (refine hK _ ?_; clear hK K) | ((first | refine (show AS.le _ _ from ?_) | refine (show leH _ _ from ?_) | refine (show inH _ _ from ?_)); simp only [AS.le, leT, leH, zr, AsgK, AV.le, AV.leL, AObj.le, inH, idsT, idsH, AV.ids, AV.idsL, AV.idsR, AObj.ids, lk, hget, go_sem, aeq, aeq.aeqF, simprocAttr]) | refine fun (r2 : Rnd _) => ?_ | refine fun (nb : Bool) (hnb : nb = true → _) => ?_ | with_reducible refine And.intro ?_ ?_ | exact ‹_ <+: _› | (refine (show zt _ _ = true from ?_); kernel_rfl) | omega | assumption | clear hK K)
 obtain ⟨I, hI⟩ : ∃ I : List (List AV) → AHeap × Option (List (List AV)), I = fun xs => ([(21, .var [.d (.int .i64 0)]), (20, .var [.vp 2 0]), (2, .var (jobP (wdisk x (plF x.disk y.loc off s xs.length)) g off s l1 nx y p0 0 []))], some []) := ⟨_, rfl⟩
 obtain ⟨G, hG⟩ : ∃ G : List (List AV) → Prop, G = fun xs => L = zfQ y.loc off s (2 - xs.length) xs.length (plF x.disk y.loc off s xs.length) := ⟨_, rfl⟩
 obtain ⟨J, hJ⟩ : ∃ J : Code → AHeap → Option (List (List AV)) → Prop, J = fun c h gg => c = .ret ∧ gg = some [] ∧ h = [(21, .var [.d (.int .i64 L.2)]), (20, .var [.vp 2 0]), (2, .var (jobP (wdisk x L.1) g off s l1 nx y p0 0 []))] := ⟨_, rfl⟩
 refine aw_le ⟨[(1, true, .vp 20 0), (2, true, .vp 21 0), (14, true, .fn (.func 87) [] [.dp [.d (.int .i64 y.loc)]])], [(21, .var [.d (.int .i64 0)]), (20, .var [.vp 2 0]), (2, .var (jobP x g off s l1 nx y p0 0 []))], some []⟩ (by simp only [AS.le, leT, leH, zr, AsgK, AV.le, AV.leL, AObj.le, inH, idsT, idsH, AV.ids, AV.idsL, AV.idsR, AObj.ids, lk, hget, go_sem, aeq, aeq.aeqF, simprocAttr]) ?_
 refine za0 100 G I J (zeJ 100 y.loc (by omega) (by omega)) (by simp only [go_sem, aeq, aeq.aeqF, simprocAttr]) rfl (zT rfl) (by simp [cxOf, cxY]) rfl (by rw [hG]; first | trivial | rfl | simp) (by rw [hI]; simp only [AS.le, leT, leH, zr, AsgK, AV.le, AV.leL, AObj.le, inH, idsT, idsH, AV.ids, AV.idsL, AV.idsR, AObj.ids, lk, hget, go_sem, aeq, aeq.aeqF, simprocAttr] <;> simp [AV.leL, AV.le]) (by rw [hI]; simp only [AS.le, leT, leH, zr, AsgK, AV.le, AV.leL, AObj.le, inH, idsT, idsH, AV.ids, AV.idsL, AV.idsR, AObj.ids, lk, hget, go_sem, aeq, aeq.aeqF, simprocAttr] <;> simp) (by rw [hI] <;> rfl) (by intro x hx; obtain ⟨q, _, rfl⟩ := List.mem_map.1 hx; rfl) (by intro t ht; simp at ht; first | (rcases ht with rfl | rfl <;> simp [cxOf, cxY] <;> done) | (subst ht; simp [cxOf, cxY])) ?_ ?_ ?_
 ·intro xs x1 hpre hgd l1' r1
  obtain ⟨ys, qq, zs, hys, rfl, hzl⟩ := zcV hpre
  have hln : xs.length = ys.length := by rw [hys]; simp
  rw [hG] at hgd
  obtain ⟨hi2, rfl⟩ := zu7 hzl
  rw [← hln] at hi2 ⊢
  obtain ⟨i, hi⟩ : ∃ i, i = xs.length := ⟨_, rfl⟩
  have hsn : (xs ++ [z6 (96 + 2 * y.loc + (i : Int), (i : Int) * 64)]).length = i + 1 := by simp [hi]
  rw [← hi] at hgd hi2 ⊢
  obtain ⟨d, hd⟩ : ∃ d, d = plF x.disk y.loc off s i := ⟨_, rfl⟩
  have hF : DiskF d := by rw [hd]; exact hx.plF _ _ _ _
  have hd1 := hF.ok
  have hd2 := hF.puts
  have hps : plF x.disk y.loc off s (i + 1) = (cput1 d y.loc off s i).1 := by rw [plF, ← hd]
  rw [← hd, show 2 - i = (2 - (i + 1)) + 1 by omega, zfQ] at hgd
  simp only [z6] at hsn ⊢
  have hwi := zP (i := i) (by omega)
  have hw2 : IntKind.i64.wrap ((i : Int) * 64 + 64) = (i + 1) * 64 := by rw [zD (by omega) (by omega)]; omega
  have hw3 : IntKind.i64.wrap (off + (s.length : Int)) = off + s.length := zD (by omega) (by omega)
  obtain ⟨A, hA⟩ : ∃ A, A = max off ((i : Int) * 64) := ⟨_, rfl⟩
  obtain ⟨B, hB⟩ : ∃ B, B = min (off + (s.length : Int)) (((i : Int) + 1) * 64) := ⟨_, rfl⟩
  have hA1 : imax off ((i : Int) * 64) = A := by rw [hA]; unfold imax; split <;> omega
  have hB1 : imin (off + (s.length : Int)) (((i : Int) + 1) * 64) = B := by rw [hB]; unfold imin; split <;> omega
  have hc1 : cput1 d y.loc off s i = if B ≤ A then (d, 0) else if (dread d (96 + 2 * y.loc + i)).2 ≠ 0 then (d, (dread d (96 + 2 * y.loc + i)).2) else zQ d (96 + 2 * y.loc + i) (overS (dread d (96 + 2 * y.loc + i)).1 (A - i * 64) ((s.take (B - off).toNat).drop (A - off).toNat)).1 := by rw [cput1, cputT, ← hA, ← hB]
  have hl := zeZ (at_ := 96 + 2 * y.loc + i) hd2
  refine aw_le ⟨[(15, true, .d (.int .i64 (96 + 2 * y.loc + i))), (16, true, .d (.int .i64 (i * 64))), (1, true, .vp 20 0), (2, true, .vp 21 0)], [(21, .var [.d (.int .i64 0)]), (20, .var [.vp 2 0]), (2, .var (jobP (wdisk x d) g off s l1 nx y p0 0 []))], some []⟩ (by rw [hI]; simp only [← hi, ← hd]; simp only [AS.le, leT, leH, zr, AsgK, AV.le, AV.leL, AObj.le, inH, idsT, idsH, AV.ids, AV.idsL, AV.idsR, AObj.ids, lk, hget, go_sem, aeq, aeq.aeqF, simprocAttr, wdisk]) ?_
  by_cases hab : B ≤ A
  ·have hb : decide (B ≤ A) = true := decide_eq_true hab
   rw [if_pos hab] at hc1
   rw [hc1] at hgd hps
   repeat' (first | ((first | refine za tabJ1 (zx) (fun K hK => ?_) | refine zc tabJ1 (zx) ?_ | refine ze tabJ1 (zx) mx (fun K hK => ?_) | refine zj tabJ1 (zx) mx ?_ | refine zh ?_ | refine zi ?_ | refine zn ?_); simp only [go_sem, aeq, aeq.aeqF, simprocAttr, hwi, hw2, hw3, hA1, hB1, hb, hI, hsn, hps, Tryz.results42]) | refine zq (fun K hK => ?_) | refine zo ?_ | refine zf rfl ?_ | refine zg rfl ?_ | refine zp rfl (fun hc => ?_) (fun hc => ?_) | (refine hK _ ?_; clear hK K) | ((first | refine (show AS.le _ _ from ?_) | refine (show leH _ _ from ?_) | refine (show inH _ _ from ?_)); simp only [AS.le, leT, leH, zr, AsgK, AV.le, AV.leL, AObj.le, inH, idsT, idsH, AV.ids, AV.idsL, AV.idsR, AObj.ids, lk, hget, go_sem, aeq, aeq.aeqF, simprocAttr, hwi, hw2, hw3, hA1, hB1, hb, hI, hsn, hps]) | refine fun (r2 : Rnd _) => ?_ | refine fun (nb : Bool) (hnb : nb = true → _) => ?_ | with_reducible refine And.intro ?_ ?_ | exact ‹_ <+: _› | (refine (show zt _ _ = true from ?_); kernel_rfl) | omega | assumption | clear hK K)
   rw [hG]
   simp only [hsn, hps]
   rw [if_neg (by simp)] at hgd
   exact hgd
  ·have hb : decide (B ≤ A) = false := decide_eq_false hab
   rw [if_neg hab] at hc1
   have hw5 : IntKind.i64.wrap (A - off) = A - off := zD (by omega) (by omega)
   have hw6 : IntKind.i64.wrap (B - off) = B - off := zD (by omega) (by omega)
   have hw7 : IntKind.i64.wrap (A - (i : Int) * 64) = A - i * 64 := zD (by omega) (by omega)
   have hsl : ((s.take (B - off).toNat).drop (A - off).toNat).length ≤ 9223372036854775807 := by simp; omega
   obtain ⟨b, hbb⟩ : ∃ b, b = (overS (dread d (96 + 2 * y.loc + i)).1 (A - i * 64) ((s.take (B - off).toNat).drop (A - off).toNat)).1 := ⟨_, rfl⟩
   rw [← hbb] at hc1
   repeat' ((fail_if_success refine hds 9 (by rfl) ?_); first | ((first | refine za tabJ1 (zx) (fun K hK => ?_) | refine zc tabJ1 (zx) ?_ | refine ze tabJ1 (zx) mx (fun K hK => ?_) | refine zj tabJ1 (zx) mx ?_ | refine zh ?_ | refine zi ?_ | refine zn ?_); simp only [go_sem, aeq, aeq.aeqF, simprocAttr, hwi, hw2, hw3, hw5, hw6, hw7, hA1, hB1, hb, ← hbb, hI, hsn, Tryz.results42]) | refine zq (fun K hK => ?_) | refine zo ?_ | refine zf rfl ?_ | refine zg rfl ?_ | refine zp rfl (fun hc => ?_) (fun hc => ?_) | (refine hK _ ?_; clear hK K) | ((first | refine (show AS.le _ _ from ?_) | refine (show leH _ _ from ?_) | refine (show inH _ _ from ?_)); simp only [AS.le, leT, leH, zr, AsgK, AV.le, AV.leL, AObj.le, inH, idsT, idsH, AV.ids, AV.idsL, AV.idsR, AObj.ids, lk, hget, go_sem, aeq, aeq.aeqF, simprocAttr, hwi, hw2, hw3, hw5, hw6, hw7, hA1, hB1, hb, ← hbb, hI, hsn]) | refine fun (r2 : Rnd _) => ?_ | refine fun (nb : Bool) (hnb : nb = true → _) => ?_ | with_reducible refine And.intro ?_ ?_ | exact ‹_ <+: _› | (refine (show zt _ _ = true from ?_); kernel_rfl) | omega | assumption | clear hK K)
   ·rw [hJ]
    rw [if_pos (bneP hc)] at hc1
    rw [hc1, if_pos (bneP hc)] at hgd
    exact ⟨rfl, rfl, by rw [hgd]; rfl⟩
   rw [if_neg (bneN hc)] at hc1
   repeat' ((fail_if_success refine hds 10 (by rfl) ?_); first | ((first | refine za tabJ1 (zx) (fun K hK => ?_) | refine zc tabJ1 (zx) ?_ | refine zE tabJ1 [] (zx) mx (fun K hK => ?_) | refine zF tabJ1 [] (zx) mx ?_ | refine zh ?_ | refine zi ?_ | refine zn ?_); simp only [go_sem, aeq, aeq.aeqF, simprocAttr, hwi, hw2, hw3, hw5, hw6, hw7, hA1, hB1, hb, ← hbb, hI, hsn, Tryz.results42]) | refine zq (fun K hK => ?_) | refine zo ?_ | refine zf rfl ?_ | refine zg rfl ?_ | refine zp rfl (fun hc => ?_) (fun hc => ?_) | (refine hK _ ?_; clear hK K) | ((first | refine (show AS.le _ _ from ?_) | refine (show leH _ _ from ?_) | refine (show inH _ _ from ?_)); simp only [AS.le, leT, leH, zr, AsgK, AV.le, AV.leL, AObj.le, inH, idsT, idsH, AV.ids, AV.idsL, AV.idsR, AObj.ids, lk, hget, go_sem, aeq, aeq.aeqF, simprocAttr, hwi, hw2, hw3, hw5, hw6, hw7, hA1, hB1, hb, ← hbb, hI, hsn]) | refine fun (r2 : Rnd _) => ?_ | refine fun (nb : Bool) (hnb : nb = true → _) => ?_ | with_reducible refine And.intro ?_ ?_ | exact ‹_ <+: _› | (refine (show zah _ _ = true from ?_); kernel_rfl) | omega | assumption | clear hK K)
   have hFn := hF.write (96 + 2 * y.loc + i) b
   repeat' (first | ((first | refine za noTab (zb _) (fun K hK => ?_) | refine zc noTab (zb _) ?_ | refine ze noTab (zb _) mx (fun K hK => ?_) | refine zj noTab (zb _) mx ?_ | refine zh ?_ | refine zi ?_ | refine zn ?_); simp only [go_sem, aeq, aeq.aeqF, simprocAttr, Tryz.results42]) | refine zq (fun K hK => ?_) | refine zo ?_ | refine zf rfl ?_ | refine zg rfl ?_ | refine zp rfl (fun hc => ?_) (fun hc => ?_) | (refine hK _ ?_; clear hK K) | ((first | refine (show AS.le _ _ from ?_) | refine (show leH _ _ from ?_) | refine (show inH _ _ from ?_)); simp only [AS.le, leT, leH, zr, AsgK, AV.le, AV.leL, AObj.le, inH, idsT, idsH, AV.ids, AV.idsL, AV.idsR, AObj.ids, lk, hget, go_sem, aeq, aeq.aeqF, simprocAttr]) | refine fun (r2 : Rnd _) => ?_ | refine fun (nb : Bool) (hnb : nb = true → _) => ?_ | with_reducible refine And.intro ?_ ?_ | exact ‹_ <+: _› | (refine (show zt _ _ = true from ?_); kernel_rfl) | omega | assumption | clear hK K)
   refine (zeg (fix1 (zhy (wdisk x d) g off s l1 nx y p0 0 [] (96 + 2 * y.loc + i) b hd1)) (by decide) rfl zb9 (by simp [AV.idsL, AV.ids])).mono ?_
   rintro r h' ⟨rfl, rfl⟩
   simp only [go_sem, aeq, aeq.aeqF, simprocAttr]
   repeat' (first | ((first | refine za noTab (zb _) (fun K hK => ?_) | refine zc noTab (zb _) ?_ | refine ze noTab (zb _) mx (fun K hK => ?_) | refine zj noTab (zb _) mx ?_ | refine zh ?_ | refine zi ?_ | refine zn ?_); simp only [go_sem, aeq, aeq.aeqF, simprocAttr, hI, hsn, hps, hc1, Tryz.results42]) | refine zq (fun K hK => ?_) | refine zo ?_ | refine zf rfl ?_ | refine zg rfl ?_ | refine zp rfl (fun hc => ?_) (fun hc => ?_) | (refine hK _ ?_; clear hK K) | ((first | refine (show AS.le _ _ from ?_) | refine (show leH _ _ from ?_) | refine (show inH _ _ from ?_)); simp only [AS.le, leT, leH, zr, AsgK, AV.le, AV.leL, AObj.le, inH, idsT, idsH, AV.ids, AV.idsL, AV.idsR, AObj.ids, lk, hget, go_sem, aeq, aeq.aeqF, simprocAttr, hI, hsn, hps, hc1]) | refine fun (r2 : Rnd _) => ?_ | refine fun (nb : Bool) (hnb : nb = true → _) => ?_ | with_reducible refine And.intro ?_ ?_ | exact ‹_ <+: _› | (refine (show zt _ _ = true from ?_); kernel_rfl) | omega | assumption | clear hK K)
   ·rw [hJ]
    rw [hc1, if_pos (bneP hc)] at hgd
    exact ⟨rfl, rfl, by rw [hgd]; rfl⟩
   ·rw [hG]
    simp only [hsn, hps]
    rw [hc1, if_neg (bneN hc)] at hgd
    rw [hc1]
    exact hgd
 ·intro hgd
  rw [hG] at hgd
  have hgd' : L = (plF x.disk y.loc off s 2, 0) := hgd
  rw [hI]
  repeat' (first | ((first | refine za tabJ1 (zx) (fun K hK => ?_) | refine zc tabJ1 (zx) ?_ | refine ze tabJ1 (zx) mx (fun K hK => ?_) | refine zj tabJ1 (zx) mx ?_ | refine zh ?_ | refine zi ?_ | refine zn ?_); simp only [go_sem, aeq, aeq.aeqF, simprocAttr, Tryz.results42]) | refine zq (fun K hK => ?_) | refine zo ?_ | refine zf rfl ?_ | refine zg rfl ?_ | refine zp rfl (fun hc => ?_) (fun hc => ?_) | (refine hK _ ?_; clear hK K) | ((first | refine (show AS.le _ _ from ?_) | refine (show leH _ _ from ?_) | refine (show inH _ _ from ?_)); simp only [AS.le, leT, leH, zr, AsgK, AV.le, AV.leL, AObj.le, inH, idsT, idsH, AV.ids, AV.idsL, AV.idsR, AObj.ids, lk, hget, go_sem, aeq, aeq.aeqF, simprocAttr]) | refine fun (r2 : Rnd _) => ?_ | refine fun (nb : Bool) (hnb : nb = true → _) => ?_ | with_reducible refine And.intro ?_ ?_ | exact ‹_ <+: _› | (refine (show zt _ _ = true from ?_); kernel_rfl) | omega | assumption | clear hK K)
  all_goals try rfl
  rw [hgd']
  exact ⟨_, rfl, rfl, rfl⟩
 ·rw [hJ]
  rintro c h3 g3 ⟨rfl, rfl, rfl⟩
  repeat' (first | ((first | refine za tabJ1 (zx) (fun K hK => ?_) | refine zc tabJ1 (zx) ?_ | refine ze tabJ1 (zx) mx (fun K hK => ?_) | refine zj tabJ1 (zx) mx ?_ | refine zh ?_ | refine zi ?_ | refine zn ?_); simp only [go_sem, aeq, aeq.aeqF, simprocAttr, Tryz.results42]) | refine zq (fun K hK => ?_) | refine zo ?_ | refine zf rfl ?_ | refine zg rfl ?_ | refine zp rfl (fun hc => ?_) (fun hc => ?_) | (refine hK _ ?_; clear hK K) | ((first | refine (show AS.le _ _ from ?_) | refine (show leH _ _ from ?_) | refine (show inH _ _ from ?_)); simp only [AS.le, leT, leH, zr, AsgK, AV.le, AV.leL, AObj.le, inH, idsT, idsH, AV.ids, AV.idsL, AV.idsR, AObj.ids, lk, hget, go_sem, aeq, aeq.aeqF, simprocAttr]) | refine fun (r2 : Rnd _) => ?_ | refine fun (nb : Bool) (hnb : nb = true → _) => ?_ | with_reducible refine And.intro ?_ ?_ | exact ‹_ <+: _› | (refine (show zt _ _ = true from ?_); kernel_rfl) | omega | assumption | clear hK K)
  all_goals first | rfl | exact ⟨_, rfl, rfl, rfl⟩ | exact ⟨_, rfl, rfl⟩
def jobV (j : JS) (g off : Int) (s : Txt) (l1 nx : Int) (y : Ent2) : List AV := jobP j.x g off s l1 nx y j.q j.loc j.old
attribute [go_sem] jobV
def jstep (l1 g off : Int) (s : Txt) (j : JS) : Nat → JS
 | 0 => ⟨j.x, (rtake j.x.disk p0 j.x.geom).1, (rtake j.x.disk p0 j.x.geom).2.1, j.old, (rtake j.x.disk p0 j.x.geom).2.2⟩
 | 1 => ⟨j.x, j.q, j.loc, (cread j.x.disk l1 g).1, (cread j.x.disk l1 g).2⟩
 | 2 => ⟨wdisk j.x (layL j.x.disk (zbr j.loc (overS j.old off s).1)).1, j.q, j.loc, j.old, (layL j.x.disk (zbr j.loc (overS j.old off s).1)).2⟩
 | 3 => ⟨j.x, (ppoint j.x.disk j.q j.x.geom g ⟨1, j.loc⟩).1, j.loc, j.old, (ppoint j.x.disk j.q j.x.geom g ⟨1, j.loc⟩).2⟩
 | _ => ⟨(cdone j.x j.q).1, j.q, j.loc, j.old, (cdone j.x j.q).2⟩
def jsAt (X : Img) (l1 g off : Int) (s : Txt) : Nat → JS
 | 0 => ⟨X, p0, 0, [], 0⟩
 | k + 1 => if (jsAt X l1 g off s k).e ≠ 0 then jsAt X l1 g off s k else jstep l1 g off s (jsAt X l1 g off s k) k
theorem zvP (X : Img) (l1 g off : Int) (s : Txt) : zez X l1 g off s = ((jsAt X l1 g off s 5).x, (jsAt X l1 g off s 5).e) := by
 unfold zez
 simp only [jsAt, jstep]
 repeat' split
 all_goals simp_all
theorem zqW (X : Img) (g off : Int) (s : Txt) : ziV X g off s = if (zcj X g).2 ≠ 0 then (X, (zcj X g).2) else ziU X (zaa X.disk p0).1.l1 (zcj X g).1 g off s := by
 unfold ziV zcj
 by_cases h1 : (zaa X.disk p0).2 = 0
 ·simp only [h1, ne_eq, not_true_eq_false, if_false]
 ·simp only [h1, ne_eq, not_false_eq_true, if_true]
theorem ztC {d : Disk} {p : Plan} {k : Int} (h : (rget d p k).2 ≠ 0) : (rget d p k).1 = 0 := by
 unfold rget at h ⊢
 split
 ·rfl
 rename_i h1
 rw [if_neg h1] at h
 split
 ·rfl
 rename_i h2
 rw [if_neg h2] at h
 exact absurd rfl h
theorem znO {X : Img} {g : Int} (h : (zcj X g).1.kind = 1) : zR (zcj X g).1.loc = true := by
 unfold zcj at h ⊢
 split
 ·rename_i h1; rw [if_pos h1] at h; cases h
 ·rename_i h1; rw [if_neg h1] at h; exact zid h
theorem ImgF.dp {x : Img} (h : ImgF x) : DP x.disk p0 := ⟨h.disk, zge⟩
theorem zud {X : Img} {l1 g off : Int} {s : Txt} (hX : ImgF X) (h0 : 0 ≤ off) (h1 : off + s.length ≤ 128) : ∀ k, k ≤ 4 → ImgF (jsAt X l1 g off s k).x ∧ pfit (jsAt X l1 g off s k).q = true ∧
  ((jsAt X l1 g off s k).e = 0 → (1 ≤ k → zR (jsAt X l1 g off s k).loc = true) ∧ (k ≤ 1 → (jsAt X l1 g off s k).old = []) ∧ (2 ≤ k → (jsAt X l1 g off s k).old.length = 128) ∧ (k = 0 → (jsAt X l1 g off s k).q = p0 ∧ (jsAt X l1 g off s k).loc = 0))
 | 0, _ => ⟨hX, zge, fun _ => ⟨fun h => by omega, fun _ => rfl, fun h => by omega, fun _ => ⟨rfl, rfl⟩⟩⟩
 | k + 1, hk => by
  obtain ⟨i1, i2, i3⟩ := zud hX h0 h1 k (by omega)
  rw [jsAt]
  split
  ·rename_i he
   exact ⟨i1, i2, fun h => absurd h he⟩
  ·rename_i he
   have he : (jsAt X l1 g off s k).e = 0 := by omega
   obtain ⟨j1, j2, j3, j4⟩ := i3 he
   match k, hk, i1, i2, j1, j2, j3, j4 with
   | 0, _, i1, i2, j1, j2, j3, j4 =>
    exact ⟨i1, (i1.dp.rtake _).p, fun h => ⟨fun _ => znp h, fun _ => j2 (by omega), fun h => by omega, fun h => by omega⟩⟩
   | 1, _, i1, i2, j1, j2, j3, j4 =>
    exact ⟨i1, i2, fun h => ⟨fun _ => j1 (by omega), fun h => by omega, fun _ => zqc i1.disk.puts h, fun h => by omega⟩⟩
   | 2, _, i1, i2, j1, j2, j3, j4 =>
    exact ⟨i1.wd (DiskF.layL _ i1.disk), i2, fun h => ⟨fun _ => j1 (by omega), fun h => by omega, fun _ => j3 (by omega), fun h => by omega⟩⟩
   | 3, _, i1, i2, j1, j2, j3, j4 =>
    exact ⟨i1, (DP.ppoint ⟨i1.disk, i2⟩ _ _ _).p, fun h => ⟨fun _ => j1 (by omega), fun h => by omega, fun _ => j3 (by omega), fun h => by omega⟩⟩
def jrow (f : FuncId) : List AV := [.fn (.func f) [.vp 2 0] []]
def zue : List (List AV) := [jrow 36, jrow 37, jrow 38, jrow 39, jrow 40]
attribute [go_sem] jrow zue
noncomputable def tabJ2 : Tab := tabOf [zdX]
theorem zck : TabOk Tryz.prog tabJ2 := zz _
@[go_sem] theorem zol (args : List AV) : tabJ2 17 args = (zdX).e args := rfl
set_option maxHeartbeats 1600000 in
theorem zld (x : Img) (guest : Int) (off : Int) (s : Txt) (h : ImgF x) (hm : x.maps.length ≤ 5000) (hs : s.length ≤ 9223372036854775807) : ACall Tryz.prog 12 0 [imgA x, .d (.int .i64 guest), .d (.int .i64 off), .d (.str s)] [] (fun r _ => r = .tup [imgA (zbs x guest off s).1, .d (.int .i64 (zbs x guest off s).2)]) := by
 refine zA ?_
 refine zk Tryz.func12 rfl (zu Tryz.func12 (by kernel_rfl) rfl) Tryz.ntmps12 (by simp) (fun base => ?_)
 have hi := h.ok
 obtain ⟨Z, hZ⟩ : ∃ Z, Z = zbs x guest off s := ⟨_, rfl⟩
 rw [← hZ]
 repeat' ((fail_if_success refine hds 3 (by rfl) ?_); first | ((first | refine za tabJ2 (zck) (fun K hK => ?_) | refine zc tabJ2 (zck) ?_ | refine zh ?_ | refine zi ?_ | refine zn ?_); simp only [go_sem, aeq, aeq.aeqF, simprocAttr, Tryz.results12]) | refine zq (fun K hK => ?_) | refine zo ?_ | refine zf rfl ?_ | refine zg rfl ?_ | refine zp rfl (fun hc => ?_) (fun hc => ?_) | (refine hK _ ?_; clear hK K) | refine fun (nb : Bool) (hnb : nb = true → _) => ?_ | with_reducible refine And.intro ?_ ?_ | omega | assumption | refine fun (hg : (_ : Bool) = (_ : Bool)) => ?_ | clear hK K)
 ·rw [hZ, zbs, if_pos hc]
 have hbr2 := hc
 have hbr : ¬ x.broken = true := by rw [hbr2]; exact fun h => by cases h
 by_cases hrg : guest < 0 ∨ x.geom.guest ≤ guest ∨ off < 0 ∨ 128 - (s.length : Int) < off
 ·have hw0 : IntKind.i64.wrap (128 - (s.length : Int)) = 128 - s.length := zD (by omega) (by omega)
  have hdec : (decide (guest < 0) || decide (x.geom.guest ≤ guest) || decide (off < 0) || decide (128 - (s.length : Int) < off)) = true := by
   simp only [Bool.or_eq_true, decide_eq_true_eq]; omega
  repeat' (first | ((first | refine za tabJ2 (zck) (fun K hK => ?_) | refine zc tabJ2 (zck) ?_ | refine zh ?_ | refine zi ?_ | refine zn ?_); simp only [go_sem, aeq, aeq.aeqF, simprocAttr, hw0, hdec, Tryz.results12]) | refine zq (fun K hK => ?_) | refine zo ?_ | refine zf rfl ?_ | refine zg rfl ?_ | refine zp rfl (fun hc => ?_) (fun hc => ?_) | (refine hK _ ?_; clear hK K) | refine fun (nb : Bool) (hnb : nb = true → _) => ?_ | with_reducible refine And.intro ?_ ?_ | omega | assumption | refine fun (hg : (_ : Bool) = (_ : Bool)) => ?_ | clear hK K)
  rw [hZ, zbs, if_neg hbr, if_pos hrg]
 have hw0 : IntKind.i64.wrap (128 - (s.length : Int)) = 128 - s.length := zD (by omega) (by omega)
 have hdec : (decide (guest < 0) || decide (x.geom.guest ≤ guest) || decide (off < 0) || decide (128 - (s.length : Int) < off)) = false := by
  simp only [Bool.or_eq_false_iff, decide_eq_false_iff_not]; omega
 by_cases hs0 : s = []
 ·have hse : (s == []) = true := by rw [hs0]; rfl
  repeat' (first | ((first | refine za tabJ2 (zck) (fun K hK => ?_) | refine zc tabJ2 (zck) ?_ | refine zh ?_ | refine zi ?_ | refine zn ?_); simp only [go_sem, aeq, aeq.aeqF, simprocAttr, hw0, hdec, hse, Tryz.results12]) | refine zq (fun K hK => ?_) | refine zo ?_ | refine zf rfl ?_ | refine zg rfl ?_ | refine zp rfl (fun hc => ?_) (fun hc => ?_) | (refine hK _ ?_; clear hK K) | refine fun (nb : Bool) (hnb : nb = true → _) => ?_ | with_reducible refine And.intro ?_ ?_ | omega | assumption | refine fun (hg : (_ : Bool) = (_ : Bool)) => ?_ | clear hK K)
  rw [hZ, zbs, if_neg hbr, if_neg hrg, if_pos hs0]
 have hse : (s == []) = false := by simpa using hs0
 repeat' ((fail_if_success refine hds 8 (by rfl) ?_); first | ((first | refine za tabJ2 (zck) (fun K hK => ?_) | refine zc tabJ2 (zck) ?_ | refine zh ?_ | refine zi ?_ | refine zn ?_); simp only [go_sem, aeq, aeq.aeqF, simprocAttr, hw0, hdec, hse, Tryz.results12]) | refine zq (fun K hK => ?_) | refine zo ?_ | refine zf rfl ?_ | refine zg rfl ?_ | refine zp rfl (fun hc => ?_) (fun hc => ?_) | (refine hK _ ?_; clear hK K) | refine fun (nb : Bool) (hnb : nb = true → _) => ?_ | with_reducible refine And.intro ?_ ?_ | omega | assumption | refine fun (hg : (_ : Bool) = (_ : Bool)) => ?_ | clear hK K)
 rw [zbs, if_neg hbr, if_neg hrg, if_neg hs0] at hZ
 have hX := h.mark guest
 revert hX hZ
 generalize cmark x guest = X
 intro hZ hX
 refine aw_le ⟨[(4, true, .vp 0 0), (8, true, .vp 1 0), (10, true, .vp 2 0)], [(2, .var (jobP X guest off s 0 0 ⟨0, 0⟩ p0 0 [])), (1, .var img0), (0, .var (imgV x))], some []⟩ (by simp only [AS.le, leT, leH, zr, AsgK, AV.le, AV.leL, AObj.le, inH, idsT, idsH, AV.ids, AV.idsL, AV.idsR, AObj.ids, lk, hget, go_sem, aeq, aeq.aeqF, simprocAttr] <;> and_intros <;> rfl) ?_
 rw [zqW] at hZ
 have hk1 : (zcj X guest).1.kind = 1 → zR (zcj X guest).1.loc = true := znO
 obtain ⟨r, hr⟩ : ∃ r, r = zaa X.disk p0 := ⟨_, rfl⟩
 obtain ⟨y, hy⟩ : ∃ y, y = zcj X guest := ⟨_, rfl⟩
 repeat' (first | ((first | refine za noTab (zb _) (fun K hK => ?_) | refine zc noTab (zb _) ?_ | refine zh ?_ | refine zi ?_ | refine zn ?_); simp only [go_sem, aeq, aeq.aeqF, simprocAttr, Tryz.results12]) | refine zq (fun K hK => ?_) | refine zo ?_ | refine zf rfl ?_ | refine zg rfl ?_ | refine zp rfl (fun hc => ?_) (fun hc => ?_) | (refine hK _ ?_; clear hK K) | refine fun (nb : Bool) (hnb : nb = true → _) => ?_ | with_reducible refine And.intro ?_ ?_ | omega | assumption | refine fun (hg : (_ : Bool) = (_ : Bool)) => ?_ | clear hK K)
 refine (zeg (fix1 (ztx X guest off s hX)) (by decide) rfl zb9 (by simp [AV.idsL, AV.ids])).mono ?_
 rintro r1 h' ⟨rfl, rfl⟩
 rw [← hr, ← hy]
 simp only [go_sem, aeq, aeq.aeqF, simprocAttr]
 rw [← hr, ← hy] at hZ
 rw [← hy] at hk1
 repeat' ((fail_if_success refine hds 12 (by rfl) ?_); first | ((first | refine za noTab (zb _) (fun K hK => ?_) | refine zc noTab (zb _) ?_ | refine zh ?_ | refine zi ?_ | refine zn ?_); simp only [go_sem, aeq, aeq.aeqF, simprocAttr, Tryz.results12]) | refine zq (fun K hK => ?_) | refine zo ?_ | refine zf rfl ?_ | refine zg rfl ?_ | refine zp rfl (fun hc => ?_) (fun hc => ?_) | (refine hK _ ?_; clear hK K) | refine fun (nb : Bool) (hnb : nb = true → _) => ?_ | with_reducible refine And.intro ?_ ?_ | omega | assumption | refine fun (hg : (_ : Bool) = (_ : Bool)) => ?_ | clear hK K)
 ·rw [hZ, if_pos (bneP hc)]
 rw [if_neg (bneN hc)] at hZ
 repeat' (first | ((first | refine za noTab (zb _) (fun K hK => ?_) | refine zc noTab (zb _) ?_ | refine zh ?_ | refine zi ?_ | refine zn ?_); simp only [go_sem, aeq, aeq.aeqF, simprocAttr, Tryz.results12]) | refine zq (fun K hK => ?_) | refine zo ?_ | refine zf rfl ?_ | refine zg rfl ?_ | refine zp rfl (fun hc => ?_) (fun hc => ?_) | (refine hK _ ?_; clear hK K) | refine fun (nb : Bool) (hnb : nb = true → _) => ?_ | with_reducible refine And.intro ?_ ?_ | omega | assumption | refine fun (hg : (_ : Bool) = (_ : Bool)) => ?_ | clear hK K)
 refine (zeg (fix1 (zqU X guest off s r.1.l1 r.1.next y.1 hX)) (by decide) rfl zb9 (by simp [AV.idsL, AV.ids])).mono ?_
 rintro r1 h' ⟨rfl, rfl⟩
 simp only [go_sem, aeq, aeq.aeqF, simprocAttr]
 obtain ⟨n, hn⟩ : ∃ n, n = rget X.disk p0 y.1.loc := ⟨_, rfl⟩
 have hn0 : n.2 ≠ 0 → n.1 = 0 := by rw [hn]; exact ztC
 rw [← hn]
 obtain ⟨b, hb⟩ : ∃ b, b = if y.1.kind = 1 then decide (n.1 ≤ 1) else false := ⟨_, rfl⟩
 obtain ⟨e, he⟩ : ∃ e, e = if y.1.kind = 1 then n.2 else 0 := ⟨_, rfl⟩
 rw [← hb, ← he]
 rw [ziU, ← hn] at hZ
 cases b with
 | true =>
  obtain ⟨hk, hn1⟩ : y.1.kind = 1 ∧ n.1 ≤ 1 := by
   by_cases hk : y.1.kind = 1
   ·rw [if_pos hk] at hb; exact ⟨hk, of_decide_eq_true hb.symm⟩
   ·rw [if_neg hk] at hb; cases hb
  rw [if_pos hk] at hZ he
  have hho := hk1 hk
  repeat' (first | ((first | refine za noTab (zb _) (fun K hK => ?_) | refine zc noTab (zb _) ?_ | refine zh ?_ | refine zi ?_ | refine zn ?_); simp only [go_sem, aeq, aeq.aeqF, simprocAttr, Tryz.results12]) | refine zq (fun K hK => ?_) | refine zo ?_ | refine zf rfl ?_ | refine zg rfl ?_ | refine zp rfl (fun hc => ?_) (fun hc => ?_) | (refine hK _ ?_; clear hK K) | refine fun (nb : Bool) (hnb : nb = true → _) => ?_ | with_reducible refine And.intro ?_ ?_ | omega | assumption | refine fun (hg : (_ : Bool) = (_ : Bool)) => ?_ | clear hK K)
  obtain ⟨S, hS⟩ : ∃ S : Nat → Img × Int, S = fun k => if k = 0 then (X, e) else Z := ⟨_, rfl⟩
  have hS0 : S 0 = (X, e) := by rw [hS]; rfl
  have hS1 : S 1 = Z := by rw [hS]; rfl
  refine zL (fun q : { k : Nat // k ≤ 1 } => ⟨[(4, true, .vp 0 0), (8, true, .vp 1 0), (10, true, .vp 2 0), (14, true, .d (.int .i64 (S q.1).2)), (84, true, .asl 1 [jrow 42]), (85, true, .d (.int .i64 1)), (86, true, .d (.int .i64 q.1))], [(2, .var (jobP (S q.1).1 guest off s r.1.l1 r.1.next y.1 p0 0 [])), (1, .var img0), (0, .var (imgV x))], some []⟩) (fun q => 1 - q.1) ⟨0, Nat.zero_le _⟩ (by simp only [hS0]; simp only [AS.le, leT, leH, zr, AsgK, AV.le, AV.leL, AObj.le, inH, idsT, idsH, AV.ids, AV.idsL, AV.idsR, AObj.ids, lk, hget, go_sem, aeq, aeq.aeqF, simprocAttr] <;> and_intros <;> rfl) (fun q => ?_)
  obtain ⟨k, hkk⟩ := q
  simp only
  have hc0 : ((0 : Nat) : Int) = 0 := rfl
  have hc1 : ((1 : Nat) : Int) = 1 := rfl
  have hw1 : IntKind.i64.wrap 1 = 1 := by decide
  have h2 : k = 0 ∨ k = 1 := by omega
  rcases h2 with rfl | rfl
  ·simp only [hS0]
   by_cases hez : e = 0
   ·have heb : (e == 0) = true := beq_iff_eq.2 hez
    rw [if_neg (by omega), if_pos hn1] at hZ
    repeat' (first | ((first | refine za noTab (zb _) (fun K hK => ?_) | refine zc noTab (zb _) ?_ | refine zh ?_ | refine zi ?_ | refine zn ?_); simp only [go_sem, aeq, aeq.aeqF, simprocAttr, hc0, hw1, heb, Tryz.results12]) | refine zq (fun K hK => ?_) | refine zo ?_ | refine zf rfl ?_ | refine zg rfl ?_ | refine zp rfl (fun hc => ?_) (fun hc => ?_) | (refine hK _ ?_; clear hK K) | refine fun (nb : Bool) (hnb : nb = true → _) => ?_ | with_reducible refine And.intro ?_ ?_ | omega | assumption | refine fun (hg : (_ : Bool) = (_ : Bool)) => ?_ | clear hK K)
    refine (zeg (fix1 (zlc X guest off s r.1.l1 r.1.next y.1 hX hho (by omega) (by omega))) (by decide) rfl zb9 (by simp [AV.idsL, AV.ids])).mono ?_
    rintro r1 h' ⟨rfl, rfl⟩
    simp only [go_sem, aeq, aeq.aeqF, simprocAttr]
    repeat' (first | ((first | refine za noTab (zb _) (fun K hK => ?_) | refine zc noTab (zb _) ?_ | refine zh ?_ | refine zi ?_ | refine zn ?_); simp only [go_sem, aeq, aeq.aeqF, simprocAttr, hc0, hw1, heb, Tryz.results12]) | refine zq (fun K hK => ?_) | refine zo ?_ | refine zf rfl ?_ | refine zg rfl ?_ | refine zp rfl (fun hc => ?_) (fun hc => ?_) | (refine hK _ ?_; clear hK K) | refine fun (nb : Bool) (hnb : nb = true → _) => ?_ | with_reducible refine And.intro ?_ ?_ | omega | assumption | refine fun (hg : (_ : Bool) = (_ : Bool)) => ?_ | clear hK K)
    exact ⟨⟨1, by omega⟩, by simp only [hS1, hZ]; simp only [AS.le, leT, leH, zr, AsgK, AV.le, AV.leL, AObj.le, inH, idsT, idsH, AV.ids, AV.idsL, AV.idsR, AObj.ids, lk, hget, go_sem, aeq, aeq.aeqF, simprocAttr, hw1] <;> and_intros <;> rfl, by simp⟩
   ·have heb : (e == 0) = false := beq_eq_false_iff_ne.2 hez
    rw [if_pos (by omega)] at hZ
    repeat' (first | ((first | refine za noTab (zb _) (fun K hK => ?_) | refine zc noTab (zb _) ?_ | refine zh ?_ | refine zi ?_ | refine zn ?_); simp only [go_sem, aeq, aeq.aeqF, simprocAttr, hc0, hw1, heb, Tryz.results12]) | refine zq (fun K hK => ?_) | refine zo ?_ | refine zf rfl ?_ | refine zg rfl ?_ | refine zp rfl (fun hc => ?_) (fun hc => ?_) | (refine hK _ ?_; clear hK K) | refine fun (nb : Bool) (hnb : nb = true → _) => ?_ | with_reducible refine And.intro ?_ ?_ | omega | assumption | refine fun (hg : (_ : Bool) = (_ : Bool)) => ?_ | clear hK K)
    exact ⟨⟨1, by omega⟩, by simp only [hS1, hZ, he]; simp only [AS.le, leT, leH, zr, AsgK, AV.le, AV.leL, AObj.le, inH, idsT, idsH, AV.ids, AV.idsL, AV.idsR, AObj.ids, lk, hget, go_sem, aeq, aeq.aeqF, simprocAttr, hw1] <;> and_intros <;> rfl, by simp⟩
  ·simp only [hS1]
   repeat' (first | ((first | refine za noTab (zb _) (fun K hK => ?_) | refine zc noTab (zb _) ?_ | refine zh ?_ | refine zi ?_ | refine zn ?_); simp only [go_sem, aeq, aeq.aeqF, simprocAttr, hc1, Tryz.results12]) | refine zq (fun K hK => ?_) | refine zo ?_ | refine zf rfl ?_ | refine zg rfl ?_ | refine zp rfl (fun hc => ?_) (fun hc => ?_) | (refine hK _ ?_; clear hK K) | refine fun (nb : Bool) (hnb : nb = true → _) => ?_ | with_reducible refine And.intro ?_ ?_ | omega | assumption | refine fun (hg : (_ : Bool) = (_ : Bool)) => ?_ | clear hK K)
 | false =>
  have hn2 : y.1.kind = 1 → ¬ n.2 ≠ 0 ∧ ¬ n.1 ≤ 1 := fun hk => by
   rw [if_pos hk] at hb
   have := of_decide_eq_false hb.symm
   exact ⟨fun h => this (by rw [hn0 h]; decide), this⟩
  have hZ4 : Z = zez X r.1.l1 guest off s := by
   by_cases hk : y.1.kind = 1
   ·rw [if_pos hk, if_neg (hn2 hk).1, if_neg (hn2 hk).2] at hZ; exact hZ
   ·rw [if_neg hk] at hZ; exact hZ
  have he0 : e = 0 := by
   by_cases hk : y.1.kind = 1
   ·rw [if_pos hk] at he; have := (hn2 hk).1; omega
   ·rw [if_neg hk] at he; exact he
  rw [he0]
  clear hZ he he0 hb hn2
  repeat' (first | ((first | refine za noTab (zb _) (fun K hK => ?_) | refine zc noTab (zb _) ?_ | refine zh ?_ | refine zi ?_ | refine zn ?_); simp only [go_sem, aeq, aeq.aeqF, simprocAttr, Tryz.results12]) | refine zq (fun K hK => ?_) | refine zo ?_ | refine zf rfl ?_ | refine zg rfl ?_ | refine zp rfl (fun hc => ?_) (fun hc => ?_) | (refine hK _ ?_; clear hK K) | refine fun (nb : Bool) (hnb : nb = true → _) => ?_ | with_reducible refine And.intro ?_ ?_ | omega | assumption | refine fun (hg : (_ : Bool) = (_ : Bool)) => ?_ | clear hK K)
  rw [zvP] at hZ4
  have hinv := zud (X := X) (l1 := r.1.l1) (g := guest) (off := off) (s := s) hX (by omega) (by omega)
  obtain ⟨S, hS⟩ : ∃ S : Nat → JS, S = jsAt X r.1.l1 guest off s := ⟨_, rfl⟩
  have hSs : ∀ k, S (k + 1) = if (S k).e ≠ 0 then S k else jstep r.1.l1 guest off s (S k) k := fun k => by rw [hS, jsAt]
  have hS0 : S 0 = ⟨X, p0, 0, [], 0⟩ := by rw [hS]; rfl
  rw [← hS] at hZ4 hinv
  clear hS
  refine zL (fun q : { k : Nat // k ≤ 5 } => ⟨[(4, true, .vp 0 0), (8, true, .vp 1 0), (10, true, .vp 2 0), (14, true, .d (.int .i64 (S q.1).e)), (84, true, .asl 1 zue), (85, true, .d (.int .i64 5)), (86, true, .d (.int .i64 q.1))], [(2, .var (jobV (S q.1) guest off s r.1.l1 r.1.next y.1)), (1, .var img0), (0, .var (imgV x))], some []⟩) (fun q => 5 - q.1) ⟨0, Nat.zero_le _⟩ (by simp only [hS0]; simp only [AS.le, leT, leH, zr, AsgK, AV.le, AV.leL, AObj.le, inH, idsT, idsH, AV.ids, AV.idsL, AV.idsR, AObj.ids, lk, hget, go_sem, aeq, aeq.aeqF, simprocAttr] <;> and_intros <;> rfl) (fun q => ?_)
  obtain ⟨k, hkk⟩ := q
  simp only
  have hw : ∀ m : Nat, m < 10 → IntKind.i64.wrap ((m : Int) + 1) = ((m + 1 : Nat) : Int) := fun m hm => zP (by omega)
  have hwk := hw k (by omega)
  rcases Nat.lt_or_ge k 5 with hlt | hge
  ·have hcmp : decide ((k : Int) < 5) = true := decide_eq_true (by omega)
   have hSk := hSs k
   obtain ⟨i1, i2, i3⟩ := hinv k (by omega)
   obtain ⟨j, hj⟩ : ∃ j, j = S k := ⟨_, rfl⟩
   obtain ⟨jn, hjn⟩ : ∃ jn, jn = S (k + 1) := ⟨_, rfl⟩
   rw [← hj] at hSk i1 i2 i3 ⊢
   rw [← hjn] at hSk
   have h5 : k = 0 ∨ k = 1 ∨ k = 2 ∨ k = 3 ∨ k = 4 := by omega
   obtain ⟨jx, jq, jl, jo, je⟩ := j
   simp only at i1 i2 i3
   by_cases hez : je = 0
   ·obtain ⟨j1, j2, j3, j4⟩ := i3 hez
    rw [if_neg (show ¬ je ≠ 0 by omega)] at hSk
    have heb : (je == 0) = true := beq_iff_eq.2 hez
    rcases h5 with rfl | rfl | rfl | rfl | rfl
    ·obtain ⟨rfl, rfl⟩ := j4 rfl
     obtain rfl := j2 (by omega)
     repeat' (first | ((first | refine za noTab (zb _) (fun K hK => ?_) | refine zc noTab (zb _) ?_ | refine zh ?_ | refine zi ?_ | refine zn ?_); simp only [go_sem, aeq, aeq.aeqF, simprocAttr, hcmp, heb, Int.toNat_natCast, Tryz.results12]) | refine zq (fun K hK => ?_) | refine zo ?_ | refine zf rfl ?_ | refine zg rfl ?_ | refine zp rfl (fun hc => ?_) (fun hc => ?_) | (refine hK _ ?_; clear hK K) | refine fun (nb : Bool) (hnb : nb = true → _) => ?_ | with_reducible refine And.intro ?_ ?_ | omega | assumption | refine fun (hg : (_ : Bool) = (_ : Bool)) => ?_ | clear hK K)
     refine (zeg (fix1 (zty jx guest off s r.1.l1 r.1.next y.1 i1)) (by decide) rfl zb9 (by simp [AV.idsL, AV.ids])).mono ?_
     rintro r1 h' ⟨rfl, rfl⟩
     simp only [go_sem, aeq, aeq.aeqF, simprocAttr]
     repeat' (first | ((first | refine za noTab (zb _) (fun K hK => ?_) | refine zc noTab (zb _) ?_ | refine zh ?_ | refine zi ?_ | refine zn ?_); simp only [go_sem, aeq, aeq.aeqF, simprocAttr, Tryz.results12]) | refine zq (fun K hK => ?_) | refine zo ?_ | refine zf rfl ?_ | refine zg rfl ?_ | refine zp rfl (fun hc => ?_) (fun hc => ?_) | (refine hK _ ?_; clear hK K) | refine fun (nb : Bool) (hnb : nb = true → _) => ?_ | with_reducible refine And.intro ?_ ?_ | omega | assumption | refine fun (hg : (_ : Bool) = (_ : Bool)) => ?_ | clear hK K)
     exact ⟨⟨1, by omega⟩, by simp only [← hjn, hSk, jstep]; simp only [AS.le, leT, leH, zr, AsgK, AV.le, AV.leL, AObj.le, inH, idsT, idsH, AV.ids, AV.idsL, AV.idsR, AObj.ids, lk, hget, go_sem, aeq, aeq.aeqF, simprocAttr, hwk] <;> and_intros <;> rfl, by simp⟩
    ·obtain rfl := j2 (by omega)
     repeat' (first | ((first | refine za noTab (zb _) (fun K hK => ?_) | refine zc noTab (zb _) ?_ | refine zh ?_ | refine zi ?_ | refine zn ?_); simp only [go_sem, aeq, aeq.aeqF, simprocAttr, hcmp, heb, Int.toNat_natCast, Tryz.results12]) | refine zq (fun K hK => ?_) | refine zo ?_ | refine zf rfl ?_ | refine zg rfl ?_ | refine zp rfl (fun hc => ?_) (fun hc => ?_) | (refine hK _ ?_; clear hK K) | refine fun (nb : Bool) (hnb : nb = true → _) => ?_ | with_reducible refine And.intro ?_ ?_ | omega | assumption | refine fun (hg : (_ : Bool) = (_ : Bool)) => ?_ | clear hK K)
     refine (zeg (fix1 (ztz jx guest off s r.1.l1 r.1.next y.1 jq jl i1)) (by decide) rfl zb9 (by simp [AV.idsL, AV.ids])).mono ?_
     rintro r1 h' ⟨rfl, rfl⟩
     simp only [go_sem, aeq, aeq.aeqF, simprocAttr]
     repeat' (first | ((first | refine za noTab (zb _) (fun K hK => ?_) | refine zc noTab (zb _) ?_ | refine zh ?_ | refine zi ?_ | refine zn ?_); simp only [go_sem, aeq, aeq.aeqF, simprocAttr, Tryz.results12]) | refine zq (fun K hK => ?_) | refine zo ?_ | refine zf rfl ?_ | refine zg rfl ?_ | refine zp rfl (fun hc => ?_) (fun hc => ?_) | (refine hK _ ?_; clear hK K) | refine fun (nb : Bool) (hnb : nb = true → _) => ?_ | with_reducible refine And.intro ?_ ?_ | omega | assumption | refine fun (hg : (_ : Bool) = (_ : Bool)) => ?_ | clear hK K)
     exact ⟨⟨2, by omega⟩, by simp only [← hjn, hSk, jstep]; simp only [AS.le, leT, leH, zr, AsgK, AV.le, AV.leL, AObj.le, inH, idsT, idsH, AV.ids, AV.idsL, AV.idsR, AObj.ids, lk, hget, go_sem, aeq, aeq.aeqF, simprocAttr, hwk] <;> and_intros <;> rfl, by simp⟩
    ·repeat' (first | ((first | refine za noTab (zb _) (fun K hK => ?_) | refine zc noTab (zb _) ?_ | refine zh ?_ | refine zi ?_ | refine zn ?_); simp only [go_sem, aeq, aeq.aeqF, simprocAttr, hcmp, heb, Int.toNat_natCast, Tryz.results12]) | refine zq (fun K hK => ?_) | refine zo ?_ | refine zf rfl ?_ | refine zg rfl ?_ | refine zp rfl (fun hc => ?_) (fun hc => ?_) | (refine hK _ ?_; clear hK K) | refine fun (nb : Bool) (hnb : nb = true → _) => ?_ | with_reducible refine And.intro ?_ ?_ | omega | assumption | refine fun (hg : (_ : Bool) = (_ : Bool)) => ?_ | clear hK K)
     refine (zeg (fix1 (ztB jx guest off s r.1.l1 r.1.next y.1 jq jl jo i1 (j1 (by omega)) (j3 (by omega)) (by omega) (by omega))) (by decide) rfl zb9 (by simp [AV.idsL, AV.ids])).mono ?_
     rintro r1 h' ⟨rfl, rfl⟩
     simp only [go_sem, aeq, aeq.aeqF, simprocAttr]
     repeat' (first | ((first | refine za noTab (zb _) (fun K hK => ?_) | refine zc noTab (zb _) ?_ | refine zh ?_ | refine zi ?_ | refine zn ?_); simp only [go_sem, aeq, aeq.aeqF, simprocAttr, Tryz.results12]) | refine zq (fun K hK => ?_) | refine zo ?_ | refine zf rfl ?_ | refine zg rfl ?_ | refine zp rfl (fun hc => ?_) (fun hc => ?_) | (refine hK _ ?_; clear hK K) | refine fun (nb : Bool) (hnb : nb = true → _) => ?_ | with_reducible refine And.intro ?_ ?_ | omega | assumption | refine fun (hg : (_ : Bool) = (_ : Bool)) => ?_ | clear hK K)
     exact ⟨⟨3, by omega⟩, by simp only [← hjn, hSk, jstep]; simp only [AS.le, leT, leH, zr, AsgK, AV.le, AV.leL, AObj.le, inH, idsT, idsH, AV.ids, AV.idsL, AV.idsR, AObj.ids, lk, hget, go_sem, aeq, aeq.aeqF, simprocAttr, hwk] <;> and_intros <;> rfl, by simp⟩
    ·repeat' (first | ((first | refine za noTab (zb _) (fun K hK => ?_) | refine zc noTab (zb _) ?_ | refine zh ?_ | refine zi ?_ | refine zn ?_); simp only [go_sem, aeq, aeq.aeqF, simprocAttr, hcmp, heb, Int.toNat_natCast, Tryz.results12]) | refine zq (fun K hK => ?_) | refine zo ?_ | refine zf rfl ?_ | refine zg rfl ?_ | refine zp rfl (fun hc => ?_) (fun hc => ?_) | (refine hK _ ?_; clear hK K) | refine fun (nb : Bool) (hnb : nb = true → _) => ?_ | with_reducible refine And.intro ?_ ?_ | omega | assumption | refine fun (hg : (_ : Bool) = (_ : Bool)) => ?_ | clear hK K)
     refine (zeg (fix1 (zqV jx guest off s r.1.l1 r.1.next y.1 jq jl jo i1 i2)) (by decide) rfl zb9 (by simp [AV.idsL, AV.ids])).mono ?_
     rintro r1 h' ⟨rfl, rfl⟩
     simp only [go_sem, aeq, aeq.aeqF, simprocAttr]
     repeat' (first | ((first | refine za noTab (zb _) (fun K hK => ?_) | refine zc noTab (zb _) ?_ | refine zh ?_ | refine zi ?_ | refine zn ?_); simp only [go_sem, aeq, aeq.aeqF, simprocAttr, Tryz.results12]) | refine zq (fun K hK => ?_) | refine zo ?_ | refine zf rfl ?_ | refine zg rfl ?_ | refine zp rfl (fun hc => ?_) (fun hc => ?_) | (refine hK _ ?_; clear hK K) | refine fun (nb : Bool) (hnb : nb = true → _) => ?_ | with_reducible refine And.intro ?_ ?_ | omega | assumption | refine fun (hg : (_ : Bool) = (_ : Bool)) => ?_ | clear hK K)
     exact ⟨⟨4, by omega⟩, by simp only [← hjn, hSk, jstep]; simp only [AS.le, leT, leH, zr, AsgK, AV.le, AV.leL, AObj.le, inH, idsT, idsH, AV.ids, AV.idsL, AV.idsR, AObj.ids, lk, hget, go_sem, aeq, aeq.aeqF, simprocAttr, hwk] <;> and_intros <;> rfl, by simp⟩
    ·repeat' (first | ((first | refine za noTab (zb _) (fun K hK => ?_) | refine zc noTab (zb _) ?_ | refine zh ?_ | refine zi ?_ | refine zn ?_); simp only [go_sem, aeq, aeq.aeqF, simprocAttr, hcmp, heb, Int.toNat_natCast, Tryz.results12]) | refine zq (fun K hK => ?_) | refine zo ?_ | refine zf rfl ?_ | refine zg rfl ?_ | refine zp rfl (fun hc => ?_) (fun hc => ?_) | (refine hK _ ?_; clear hK K) | refine fun (nb : Bool) (hnb : nb = true → _) => ?_ | with_reducible refine And.intro ?_ ?_ | omega | assumption | refine fun (hg : (_ : Bool) = (_ : Bool)) => ?_ | clear hK K)
     refine (zeg (fix1 (ztA jx guest off s r.1.l1 r.1.next y.1 jq jl jo i1 i2)) (by decide) rfl zb9 (by simp [AV.idsL, AV.ids])).mono ?_
     rintro r1 h' ⟨rfl, rfl⟩
     simp only [go_sem, aeq, aeq.aeqF, simprocAttr]
     repeat' (first | ((first | refine za noTab (zb _) (fun K hK => ?_) | refine zc noTab (zb _) ?_ | refine zh ?_ | refine zi ?_ | refine zn ?_); simp only [go_sem, aeq, aeq.aeqF, simprocAttr, Tryz.results12]) | refine zq (fun K hK => ?_) | refine zo ?_ | refine zf rfl ?_ | refine zg rfl ?_ | refine zp rfl (fun hc => ?_) (fun hc => ?_) | (refine hK _ ?_; clear hK K) | refine fun (nb : Bool) (hnb : nb = true → _) => ?_ | with_reducible refine And.intro ?_ ?_ | omega | assumption | refine fun (hg : (_ : Bool) = (_ : Bool)) => ?_ | clear hK K)
     exact ⟨⟨5, by omega⟩, by simp only [← hjn, hSk, jstep]; simp only [AS.le, leT, leH, zr, AsgK, AV.le, AV.leL, AObj.le, inH, idsT, idsH, AV.ids, AV.idsL, AV.idsR, AObj.ids, lk, hget, go_sem, aeq, aeq.aeqF, simprocAttr, hwk] <;> and_intros <;> rfl, by simp⟩
   ·have heb : (je == 0) = false := beq_eq_false_iff_ne.2 hez
    rw [if_pos hez] at hSk
    rcases h5 with rfl | rfl | rfl | rfl | rfl
    all_goals repeat' (first | ((first | refine za noTab (zb _) (fun K hK => ?_) | refine zc noTab (zb _) ?_ | refine zh ?_ | refine zi ?_ | refine zn ?_); simp only [go_sem, aeq, aeq.aeqF, simprocAttr, hcmp, heb, Int.toNat_natCast, Tryz.results12]) | refine zq (fun K hK => ?_) | refine zo ?_ | refine zf rfl ?_ | refine zg rfl ?_ | refine zp rfl (fun hc => ?_) (fun hc => ?_) | (refine hK _ ?_; clear hK K) | refine fun (nb : Bool) (hnb : nb = true → _) => ?_ | with_reducible refine And.intro ?_ ?_ | omega | assumption | refine fun (hg : (_ : Bool) = (_ : Bool)) => ?_ | clear hK K)
    ·exact ⟨⟨1, by omega⟩, by simp only [← hjn, hSk]; simp only [AS.le, leT, leH, zr, AsgK, AV.le, AV.leL, AObj.le, inH, idsT, idsH, AV.ids, AV.idsL, AV.idsR, AObj.ids, lk, hget, go_sem, aeq, aeq.aeqF, simprocAttr, hwk] <;> and_intros <;> rfl, by simp⟩
    ·exact ⟨⟨2, by omega⟩, by simp only [← hjn, hSk]; simp only [AS.le, leT, leH, zr, AsgK, AV.le, AV.leL, AObj.le, inH, idsT, idsH, AV.ids, AV.idsL, AV.idsR, AObj.ids, lk, hget, go_sem, aeq, aeq.aeqF, simprocAttr, hwk] <;> and_intros <;> rfl, by simp⟩
    ·exact ⟨⟨3, by omega⟩, by simp only [← hjn, hSk]; simp only [AS.le, leT, leH, zr, AsgK, AV.le, AV.leL, AObj.le, inH, idsT, idsH, AV.ids, AV.idsL, AV.idsR, AObj.ids, lk, hget, go_sem, aeq, aeq.aeqF, simprocAttr, hwk] <;> and_intros <;> rfl, by simp⟩
    ·exact ⟨⟨4, by omega⟩, by simp only [← hjn, hSk]; simp only [AS.le, leT, leH, zr, AsgK, AV.le, AV.leL, AObj.le, inH, idsT, idsH, AV.ids, AV.idsL, AV.idsR, AObj.ids, lk, hget, go_sem, aeq, aeq.aeqF, simprocAttr, hwk] <;> and_intros <;> rfl, by simp⟩
    ·exact ⟨⟨5, by omega⟩, by simp only [← hjn, hSk]; simp only [AS.le, leT, leH, zr, AsgK, AV.le, AV.leL, AObj.le, inH, idsT, idsH, AV.ids, AV.idsL, AV.idsR, AObj.ids, lk, hget, go_sem, aeq, aeq.aeqF, simprocAttr, hwk] <;> and_intros <;> rfl, by simp⟩
  ·have hcmp : decide ((k : Int) < 5) = false := decide_eq_false (by omega)
   obtain rfl : k = 5 := by omega
   repeat' (first | ((first | refine za noTab (zb _) (fun K hK => ?_) | refine zc noTab (zb _) ?_ | refine zh ?_ | refine zi ?_ | refine zn ?_); simp only [go_sem, aeq, aeq.aeqF, simprocAttr, hcmp, Tryz.results12]) | refine zq (fun K hK => ?_) | refine zo ?_ | refine zf rfl ?_ | refine zg rfl ?_ | refine zp rfl (fun hc => ?_) (fun hc => ?_) | (refine hK _ ?_; clear hK K) | refine fun (nb : Bool) (hnb : nb = true → _) => ?_ | with_reducible refine And.intro ?_ ?_ | omega | assumption | refine fun (hg : (_ : Bool) = (_ : Bool)) => ?_ | clear hK K)
   all_goals rw [hZ4]
noncomputable def zdc : Ent Tryz.prog := .ofL 12 (consL zei (consL (intT .i64) (consL (intT .i64) (consL strT nilL)))) (fun (x, guest, off, s, _) => (ImgF x) ∧ (x.maps.length ≤ 5000) ∧ (s.length ≤ 9223372036854775807)) (fun (x, guest, off, s, _) => .tup [imgA (zbs x guest off s).1, .d (.int .i64 (zbs x guest off s).2)]) (fun (x, guest, off, s, _) hp => ⟨rfl, zld x guest off s hp.1 hp.2.1 hp.2.2⟩)
attribute [go_sem] zdc
open Go Go.Proofs
theorem DiskF.commit {d : Disk} (h : DiskF d) (j : Jour) (p : Plan) : DiskF (jcommit d j p).1 := by
 have h1 := h.flush
 have h2 : ∀ l, DiskF (Aw.layL (Aw.dflush d).1 l).1 := fun l => DiskF.layL l h1
 have h3 : ∀ l, DiskF (Aw.dflush (Aw.layL (Aw.dflush d).1 l).1).1 := fun l => (h2 l).flush
 have h4 : ∀ l, DiskF (Aw.play (Aw.dflush (Aw.layL (Aw.dflush d).1 l).1).1 p).1 := fun l => (h3 l).play p
 unfold Aw.jcommit Aw.jtail
 repeat' split
 all_goals first | exact h | exact h1 | exact h2 _ | exact h3 _ | exact h4 _
theorem zle {d : Disk} {j : Jour} {p : Plan} (h0 : 0 ≤ j.seq) (h1 : j.seq ≤ 4611686018427387904) : 0 ≤ (jcommit d j p).2.1.seq ∧ (jcommit d j p).2.1.seq ≤ 4611686018427387904 := by
 unfold jcommit jtail
 repeat' split
 all_goals first | exact ⟨h0, h1⟩ | (constructor <;> simp only <;> omega)
theorem ImgF.done {x : Img} (h : ImgF x) (p : Plan) : ImgF (cdone x p).1 := by
 have hd := h.disk.commit x.jour p
 have hs := zle (d := x.disk) (p := p) h.seq0 h.seq1
 unfold cdone
 split
 ·exact ⟨⟨hd.ok, h.ok.maps, h.ok.names, h.ok.bits⟩, hd, h.guest, h.host, h.seq0, h.seq1, h.maps⟩
 ·exact ⟨⟨hd.ok, h.ok.maps, h.ok.names, h.ok.bits⟩, hd, h.guest, h.host, hs.1, hs.2, h.maps⟩
theorem DiskF.place {d : Disk} (h : DiskF d) (k off : Int) (s : Txt) : DiskF (zie d k off s).1 := by
 have : ∀ m i d, DiskF d → DiskF (zfQ k off s m i d).1 := by
  intro m
  induction m with
  | zero => intro i d h; exact h
  | succ m ih =>
   intro i d h
   rw [zfQ]
   split
   ·exact h.cput1 _ _ _ _
   ·exact ih _ _ (h.cput1 _ _ _ _)
 exact this _ _ _ h
theorem ImgF.write4 {x : Img} (h : ImgF x) (l1 g off : Int) (s : Txt) : ImgF (zez x l1 g off s).1 := by
 unfold zez
 repeat' split
 ·exact h
 ·exact h
 ·exact h.wd (DiskF.layL _ h.disk)
 ·exact h.wd (DiskF.layL _ h.disk)
 ·exact (h.wd (DiskF.layL _ h.disk)).done _
theorem ImgF.write {x : Img} (h : ImgF x) (g off : Int) (s : Txt) : ImgF (zbs x g off s).1 := by
 have hm := h.mark g
 unfold zbs
 split
 ·exact h
 split
 ·exact h
 split
 ·exact h
 unfold ziV
 split
 ·exact hm
 split
 ·exact hm
 unfold ziU
 split
 ·split
  ·exact hm
  split
  ·exact hm.wd (hm.disk.place _ _ _)
  ·exact hm.write4 _ _ _ _
 ·exact hm.write4 _ _ _ _
def cimage : Img := ⟨(play (dnew 112).1 (radd (dnew 112).1 (zcr p0 ⟨0, 1⟩).1 0 1).1).1, ⟨20, 8⟩, ⟨1, 0⟩, [], false⟩
def awX1 : Img × Int := zbs cimage 2 3 [97, 98]
def awA : Txt × Int := cread awX1.1.disk 0 2
def awX2 : Img × Int := zbs awX1.1 2 5 [99]
def awB : Txt × Int := cread awX2.1.disk 0 2
theorem zqX : ImgF cimage := by
 have h : DiskF (dnew 112).1 := ⟨by constructor <;> simp [dnew], rfl⟩
 have hp := h.play (radd (dnew 112).1 (zcr p0 ⟨0, 1⟩).1 0 1).1
 exact ⟨⟨hp.ok, by decide, (fun m hm => by cases hm), (fun m hm => by cases hm)⟩, hp, by decide, by decide, by decide, by decide, by decide⟩
theorem zu8 : (awX1.2 == 0 && awA.2 == 0 && awX2.2 == 0 && awB.2 == 0 && (awA.1.length : Int) == 128 && awA.1.take 6 == [0, 0, 0, 97, 98, 0] && (awB.1.length : Int) == 128 && (awB.1.take 7).drop 3 == [97, 98, 99, 0] && (awX2.1.jour.seq == awX1.1.jour.seq && awX2.1.jour.pos == awX1.1.jour.pos)) = true := by
 decide +kernel
open Go Go.Proofs
noncomputable def tabL2 : Tab := tabOf [zfx, zex, zfN, zfF]
theorem zmp : TabOk Tryz.prog tabL2 := zz _
@[go_sem] theorem zrI (args : List AV) : tabL2 76 args = (zfx).e args := rfl
@[go_sem] theorem zqY (args : List AV) : tabL2 77 args = (zex).e args := rfl
@[go_sem] theorem zrJ (args : List AV) : tabL2 78 args = (zfN).e args := rfl
@[go_sem] theorem zrK (args : List AV) : tabL2 79 args = (zfF).e args := rfl
theorem zu9 : ACall Tryz.prog 28 0 [] [] (fun r _ => r = imgA cimage) := by
 have hd : DiskF (dnew 112).1 := ⟨by constructor <;> simp [dnew], rfl⟩
 have hp1 : pfit (zcr p0 ⟨0, 1⟩).1 = true := by decide +kernel
 obtain ⟨N, hN⟩ : ∃ N, N = dnew 112 := ⟨_, rfl⟩
 obtain ⟨Q, hQ⟩ : ∃ Q, Q = zcr p0 ⟨0, 1⟩ := ⟨_, rfl⟩
 rw [← hN] at hd
 rw [← hQ] at hp1
 obtain ⟨c, hc⟩ : ∃ c, c = cimage := ⟨_, rfl⟩
 rw [← hc]
 unfold cimage at hc
 rw [← hN, ← hQ] at hc
 have hdp : DP N.1 Q.1 := ⟨hd, hp1⟩
 have hp2 : pfit (radd N.1 Q.1 0 1).1 = true := zl4 hp1
 have hpo := PlanOk.of hp2
 have hpl := (zaI hp2).1
 have hdo := hd.ok
 refine zA ?_
 refine zk Tryz.func28 rfl (zu Tryz.func28 (by kernel_rfl) rfl) Tryz.ntmps28 (by simp) (fun base => ?_)
 repeat' (first | ((first | refine za tabL2 (zmp) (fun K hK => ?_) | refine zc tabL2 (zmp) ?_ | refine zh ?_ | refine zi ?_ | refine zn ?_); simp only [go_sem, aeq, aeq.aeqF, simprocAttr, ← hN, ← hQ, Tryz.results28]) | refine zq (fun K hK => ?_) | (refine hK _ ?_; clear hK K) | with_reducible refine And.intro ?_ ?_ | omega | assumption | clear hK K)
 ·exact zge
 ·rw [hc]
  rfl
noncomputable def zhz : Ent Tryz.prog := .ofL 28 nilL (fun _ => True) (fun _ => imgA cimage) (fun _ hp => ⟨rfl, zu9 ⟩)
attribute [go_sem] zhz
noncomputable def tabL3 : Tab := tabOf [zhz, zdc, zbH]
theorem zmq : TabOk Tryz.prog tabL3 := zz _
@[go_sem] theorem ztD (args : List AV) : tabL3 28 args = (zhz).e args := rfl
@[go_sem] theorem znP (args : List AV) : tabL3 12 args = (zdc).e args := rfl
@[go_sem] theorem zom (args : List AV) : tabL3 10 args = (zbH).e args := rfl
theorem zqZ : ACall Tryz.prog 9 0 [] [] (fun r _ => r = .d (.bool true)) := by
 have hC := zqX
 have hm0 : cimage.maps.length ≤ 5000 := by decide
 have hm1 : (zbs cimage 2 3 [97, 98]).1.maps.length ≤ 5000 := by decide +kernel
 have hfin := zu8
 unfold awA awB awX2 awX1 at hfin
 obtain ⟨C, hCe⟩ : ∃ C, C = cimage := ⟨_, rfl⟩
 rw [← hCe] at hC hm0 hm1 hfin
 have h1 : ImgF (zbs C 2 3 [97, 98]).1 := hC.write _ _ _
 obtain ⟨X1, hX1⟩ : ∃ X1, X1 = zbs C 2 3 [97, 98] := ⟨_, rfl⟩
 rw [← hX1] at h1 hm1 hfin
 have h2 : ImgF (zbs X1.1 2 5 [99]).1 := h1.write _ _ _
 obtain ⟨X2, hX2⟩ : ∃ X2, X2 = zbs X1.1 2 5 [99] := ⟨_, rfl⟩
 rw [← hX2] at h2 hfin
 have d1 := h1.disk
 have d2 := h2.disk
 have hf2 := hfin
 simp only [Bool.and_eq_true, beq_iff_eq] at hf2
 have hl1 : ((cread X1.1.disk 0 2).1.length : Int) = 128 := hf2.1.1.1.1.2
 have hl2 : ((cread X2.1.disk 0 2).1.length : Int) = 128 := hf2.1.1.2
 clear hf2
 refine zA ?_
 refine zk Tryz.func9 rfl (zu Tryz.func9 (by kernel_rfl) rfl) Tryz.ntmps9 (by simp) (fun base => ?_)
 repeat' (first | ((first | refine za tabL3 (zmq) (fun K hK => ?_) | refine zc tabL3 (zmq) ?_ | refine zh ?_ | refine zi ?_ | refine zn ?_); simp only [go_sem, aeq, aeq.aeqF, simprocAttr, ← hCe, ← hX1, ← hX2, Tryz.results9]) | refine zq (fun K hK => ?_) | (refine hK _ ?_; clear hK K) | with_reducible refine And.intro ?_ ?_ | omega | assumption | refine fun (hg : (_ : Bool) = (_ : Bool)) => ?_ | clear hK K)
 rw [hfin]
noncomputable def zeL : Ent Tryz.prog := .ofL 9 nilL (fun _ => True) (fun _ => .d (.bool true)) (fun _ hp => ⟨rfl, zqZ ⟩)
attribute [go_sem] zeL
noncomputable def tabL5 : Tab := tabOf [zeK, zey, zdV, zdM, zeL]
theorem zgF : TabOk Tryz.prog tabL5 := zz _
@[go_sem] theorem zq0 (args : List AV) : tabL5 24 args = (zeK).e args := rfl
@[go_sem] theorem zq1 (args : List AV) : tabL5 22 args = (zey).e args := rfl
@[go_sem] theorem zon (args : List AV) : tabL5 25 args = (zdV).e args := rfl
@[go_sem] theorem zoo (args : List AV) : tabL5 16 args = (zdM).e args := rfl
@[go_sem] theorem zq2 (args : List AV) : tabL5 9 args = (zeL).e args := rfl
theorem zkc (x y : Img) (h : ImgOk x) (h2 : ImgOk y) : ACall Tryz.prog 6 0 [imgA x, imgA y] [] (fun r _ => r = .d (.bool true)) := by
 refine zA ?_
 refine zk Tryz.func6 rfl (zu Tryz.func6 (by kernel_rfl) rfl) Tryz.ntmps6 (by simp) (fun base => ?_)
 repeat' (first | ((first | refine za tabL5 (zgF) (fun K hK => ?_) | refine zc tabL5 (zgF) ?_ | refine ze tabL5 (zgF) mx (fun K hK => ?_) | refine zj tabL5 (zgF) mx ?_ | refine zh ?_ | refine zi ?_ | refine zn ?_); simp only [go_sem, aeq, aeq.aeqF, simprocAttr, Tryz.results6]) | refine zq (fun K hK => ?_) | refine zf rfl ?_ | refine zg rfl ?_ | refine zp rfl (fun hc => ?_) (fun hc => ?_) | (refine hK _ ?_; clear hK K) | with_reducible refine And.intro ?_ ?_ | (refine (show zt _ _ = true from ?_); kernel_rfl) | omega | assumption | refine fun (hg : (_ : Bool) = (_ : Bool)) => ?_ | clear hK K)
 all_goals first | rfl | (simp; done) | skip
open Go Go.Proofs Go.RowKit Go.ChangeShapes Go.WideShapes
structure ImgW (x : Img) : Prop where
 ok : ImgOk x
 seq0 : 0 ≤ x.jour.seq
 seq1 : x.jour.seq ≤ 18446744073709551615
 guest0 : -9223372036854775808 ≤ x.geom.guest
 guest1 : x.geom.guest ≤ 9223372036854775807
 host0 : -9223372036854775808 ≤ x.geom.host
 host1 : x.geom.host ≤ 9223372036854775807
 pos0 : -9223372036854775808 ≤ x.jour.pos
 pos1 : x.jour.pos ≤ 9223372036854775807
def imgD (x : Img) : List D := [.str x.disk.data, .sl 2 (x.disk.cache.map putD), .int .i64 x.disk.fuse, .bool x.disk.off, .sl 1 (x.disk.bad.map intD), .int .i64 x.geom.guest, .int .i64 x.geom.host, .int .u64 x.jour.seq, .int .i64 x.jour.pos, .sl 66 (x.maps.map dmapD), .bool x.broken]
theorem zf3 {n : Nat} {x : List D} (h : DTy Tryz.prog (n + 1) 3 x) : ∃ a : Int, x = [.int .i64 a] ∧ -9223372036854775808 ≤ a ∧ a ≤ 9223372036854775807 := by
 unfold DTy at h
 simp only [ty3] at h
 obtain ⟨a, rfl, h1, h2⟩ := h
 exact ⟨a, rfl, h1, h2⟩
theorem zlf {n : Nat} {x : List D} (h : DTy Tryz.prog (n + 1) 9 x) : ∃ s : Txt, x = [.str s] ∧ s.length ≤ 9223372036854775807 := by
 unfold DTy at h
 simp only [ty9] at h
 exact h
theorem zgG {n : Nat} {x : List D} (h : DTy Tryz.prog (n + 1) 4 x) : ∃ b : Bool, x = [.bool b] := by
 unfold DTy at h
 simp only [ty4] at h
 exact h
theorem ztE {n : Nat} {x : List D} (h : DTy Tryz.prog (n + 2) 23 x) : ∃ l : List Int, l.length ≤ 9223372036854775807 ∧ x = [.sl 1 (l.map intD)] := by
 unfold DTy at h
 simp only [ty23] at h
 obtain ⟨rows, rfl, hl, hr⟩ := h
 obtain ⟨l, rfl⟩ := zgr (e := intD) (fun r h' => (zf3 (hr r h')).imp fun s h => h.1)
 exact ⟨l, by simpa using hl, by rw [ty3]⟩
theorem zva {n : Nat} {x : List D} (h : DTy Tryz.prog (n + 2) 148 x) : ∃ q : PutR, x = putD q := by
 unfold DTy at h
 simp only [ty148, DTy.fields] at h
 obtain ⟨a1, b1, rfl, g1, a2, b2, rfl, g2, rfl⟩ := h
 obtain ⟨a, rfl, _⟩ := zf3 g1
 obtain ⟨s, rfl, _⟩ := zlf g2
 exact ⟨(a, s), rfl⟩
theorem ztF {n : Nat} {x : List D} (h : DTy Tryz.prog (n + 3) 22 x) : ∃ l : List PutR, l.length ≤ 9223372036854775807 ∧ x = [.sl 2 (l.map putD)] := by
 unfold DTy at h
 simp only [ty22] at h
 obtain ⟨rows, rfl, hl, hr⟩ := h
 obtain ⟨l, rfl⟩ := zgr (e := putD) (fun r h' => zva (hr r h'))
 exact ⟨l, by simpa using hl, by rw [ty148]⟩
theorem ztG {n : Nat} {x : List D} (h : DTy Tryz.prog (n + 4) 25 x) : ∃ d : Disk, DiskOk d ∧ x = [.str d.data, .sl 2 (d.cache.map putD), .int .i64 d.fuse, .bool d.off, .sl 1 (d.bad.map intD)] := by
 unfold DTy at h
 simp only [ty25, DTy.fields] at h
 obtain ⟨a1, b1, rfl, g1, a2, b2, rfl, g2, a3, b3, rfl, g3, a4, b4, rfl, g4, a5, b5, rfl, g5, rfl⟩ := h
 obtain ⟨s, rfl, q1⟩ := zlf g1
 obtain ⟨l, q2, rfl⟩ := ztF g2
 obtain ⟨f, rfl, q3, q4⟩ := zf3 g3
 obtain ⟨o, rfl⟩ := zgG g4
 obtain ⟨m, q5, rfl⟩ := ztE g5
 exact ⟨⟨s, l, f, o, m⟩, ⟨q1, q2, q5, q3, q4⟩, rfl⟩
theorem zii : ∀ {parts : List (List D)}, (∀ p ∈ parts, ∃ b : Bool, p = [.bool b]) → ∃ l : List Bool, parts.flatten = l.map D.bool ∧ l.length = parts.length
 | [], _ => ⟨[], rfl, rfl⟩
 | p :: r, h => by
  obtain ⟨b, rfl⟩ := h p (by simp)
  obtain ⟨l, h1, h2⟩ := zii (parts := r) (fun q hq => h q (by simp [hq]))
  exact ⟨b :: l, by simp [h1], by simp [h2]⟩
theorem zmr {n : Nat} {x : List D} (h : DTy Tryz.prog (n + 3) 66 x) : ∃ m : Dmap, (m.name.length ≤ 9223372036854775807 ∧ m.bits.length = 64) ∧ x = dmapD m := by
 unfold DTy at h
 simp only [ty66, DTy.fields] at h
 obtain ⟨a1, b1, rfl, g1, a2, b2, rfl, g2, a3, b3, rfl, g3, rfl⟩ := h
 obtain ⟨s, rfl, q1⟩ := zlf g1
 obtain ⟨u, rfl⟩ := zgG g2
 unfold DTy at g3
 simp only [ty64] at g3
 obtain ⟨parts, rfl, hl, hp⟩ := g3
 obtain ⟨l, h1, h2⟩ := zii (fun p h' => zgG (hp p h'))
 exact ⟨⟨s, u, l⟩, ⟨q1, by rw [h2, hl]⟩, by simp [dmapD, h1]⟩
theorem zq3 {n : Nat} {x : List D} (h : DTy Tryz.prog (n + 4) 31 x) : ∃ l : List Dmap, l.length ≤ 9223372036854775807 ∧ (∀ m ∈ l, m.name.length ≤ 9223372036854775807 ∧ m.bits.length = 64) ∧ x = [.sl 66 (l.map dmapD)] := by
 unfold DTy at h
 simp only [ty31] at h
 obtain ⟨rows, rfl, hl, hr⟩ := h
 obtain ⟨l, rfl⟩ := zgr (e := dmapD) (fun r h' => (zmr (hr r h')).imp fun s h => h.2)
 refine ⟨l, by simpa using hl, fun m hm => ?_, by rw [ty66]⟩
 obtain ⟨m', h1, h2⟩ := zmr (hr (dmapD m) (List.mem_map_of_mem hm))
 rw [zcF _ _ h2]
 exact h1
theorem zq4 {n : Nat} {x : List D} (h : DTy Tryz.prog (n + 5) 33 x) : ∃ X : Img, ImgW X ∧ x = imgD X := by
 unfold DTy at h
 simp only [ty33, DTy.fields] at h
 obtain ⟨a1, b1, rfl, g1, a2, b2, rfl, g2, a3, b3, rfl, g3, a4, b4, rfl, g4, a5, b5, rfl, g5, rfl⟩ := h
 obtain ⟨d, q1, rfl⟩ := ztG g1
 unfold DTy at g2 g3
 simp only [ty27, DTy.fields] at g2
 simp only [ty30, DTy.fields] at g3
 obtain ⟨c1, e1, rfl, k1, c2, e2, rfl, k2, rfl⟩ := g2
 obtain ⟨c3, e3, rfl, k3, c4, e4, rfl, k4, rfl⟩ := g3
 obtain ⟨gu, rfl, r1, r2⟩ := zf3 k1
 obtain ⟨ho, rfl, r3, r4⟩ := zf3 k2
 unfold DTy at k3
 simp only [ty28] at k3
 obtain ⟨sq, rfl, r5, r6⟩ := k3
 obtain ⟨po, rfl, r7, r8⟩ := zf3 k4
 obtain ⟨l, q2, q3, rfl⟩ := zq3 g4
 obtain ⟨br, rfl⟩ := zgG g5
 exact ⟨⟨d, ⟨gu, ho⟩, ⟨sq, po⟩, l, br⟩, ⟨⟨q1, q2, fun m hm => (q3 m hm).1, fun m hm => (q3 m hm).2⟩, r5, r6, r1, r2, r3, r4, r7, r8⟩, rfl⟩
theorem zvb (X : Img) : argAV Tryz.prog 33 (imgD X) = imgA X := by simp only [argAV, ty33]; rfl
end Go.Aw
