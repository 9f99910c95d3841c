/-
  Parts of the proof: BldB, BldC, BldD, DevP, DevA, DevB, DevC, DevD, DevE, DevF, Num, PackA, PackB, PackC, PackD, SuperA, PlanA (short names; the readable texts lie in the repo, under wip).
-/
import Derived.Test.YtmhlpboclbippaaGreatPart4
import Derived.Lib.AppendStr
import Derived.Lib.Strings
import Derived.Lib.Slices
import Derived.RegionCalls
import Derived.Lib.MakeNoZero
import Derived.RegionTactic
import Derived.Test.YtmhlpboclbippaaGreatPart3
import Derived.Laws.RangeString
import Derived.Laws.RangeAny
set_option maxRecDepth 100000
set_option maxHeartbeats 2000000
set_option linter.unusedSimpArgs false
set_option linter.unusedVariables false
namespace Go.Proofs.YtmhlpboclbippaaGreat
open Go
section
variable {P : Program}
open Go.Lib
theorem zgZ (w : World) (base : Nat) (t u ty e : TypeId) (i : TypeInfo) (ht : P.underlying t = some (.slice e)) (hu : P.underlying u = some .string) (hi : P.info? e = some i) (hz : i.zero = some (.int .u8 0))
  (hsize : i.size = 1) (hby : i.bytes = 1)
  (v : Value) (n : Nat) (xs : List Value) (hown : w.ownsRow base e 1 v n xs) (s : ByteArray)
  (h63 : n + s.size ≤ maxLen) (hbytes : n + s.size ≤ 140737488355328) (hbase : base ≤ w.heap.size) :
  ∃ v' w', (Builtin.append_ #[t, u] ty #[v, .string s]).run P w = .ok v' w' ∧ w'.ownsRow base e 1 v' (n + s.size) (xs ++ strCells s) ∧ w.grownBy w' v.ownBlock ∧
   ((∀ g, v'.ownBlock = some g → v.ownBlock = some g ∨ (w.heap.size ≤ g ∧ g < w'.heap.size)) ∧ (s.size = 0 → v' = v)) := by
 have hsmall : n + s.size ≤ 9223372036854775807 := by simp only [maxLen] at h63; omega
 have hxl : xs.length = n := by simpa using hown.1
 have hlen : (xs ++ strCells s).length = (n + s.size) * 1 := by rw [List.length_append, hxl, strCells_length, Nat.mul_one]
 have grown : ∀ (old : Nat), old < n + s.size → ∀ (row : Option Nat),
   (w.drew.alloc (.cells (xs.toArray ++ (strCells s).toArray ++ Builtin.zeroCells (Value.int .u8 0).cells (grownCap w (n + s.size) old e - (n + s.size))) e)).ownsRow base e 1
    (.slice (some ⟨w.heap.size, 0, none⟩) (n + s.size) (grownCap w (n + s.size) old e)) (n + s.size) (xs ++ strCells s) ∧
   w.grownBy (w.drew.alloc (.cells (xs.toArray ++ (strCells s).toArray ++ Builtin.zeroCells (Value.int .u8 0).cells (grownCap w (n + s.size) old e - (n + s.size))) e)) row := by
  intro old ho row
  have hge := grownCap_ge w (n + s.size) old e
  have hcm : grownCap w (n + s.size) old e ≤ maxLen := grownCap_le_maxLen w (n + s.size) old e h63
  refine ⟨⟨hlen, .inr ⟨w.heap.size, _, _, rfl, hbase, Go.heap_alloc_new w.drew _, hge, hcm, ?_, ?_⟩⟩, ⟨rfl, rfl, rfl, by simp, fun k hk _ => Go.heap_alloc_old w.drew _ hk⟩⟩
  ·have hz1 : (Value.int IntKind.u8 0).cells.size = 1 := rfl
   simp only [Array.size_append, List.size_toArray, size_zeroCells, hz1, hxl, strCells_length]
   omega
  ·simp only [Array.toList_append, List.append_assoc]
   rw [← List.append_assoc, ← hlen]
   exact List.take_left
 rcases hown.2 with ⟨rfl, rfl⟩ | ⟨g, cap, cur, rfl, hbg, hg, hnc, hcm, hcs, htake⟩
 ·have hx : xs = [] := List.eq_nil_of_length_eq_zero hxl
  subst hx
  by_cases hm : s.size = 0
  ·have hn : strCells s = [] := List.eq_nil_of_length_eq_zero (by rw [strCells_length]; exact hm)
   refine ⟨.slice none 0 0, w, ?_, by rw [hm, hn]; exact World.ownsRow_nil w base e 1, ⟨rfl, rfl, rfl, Nat.le_refl _, fun _ _ _ => rfl⟩, fun g hg => .inl hg, fun _ => rfl⟩
   have hf := run_firstCells_string (P := P) w 1 s
   rw [hm] at hf
   simp [Builtin.append_, run_underlying ht, run_underlying hu, sizeOf, typeInfo, hi, hsize, Builtin.lenOf, hm, hf]
  ·have hr := run_append_nil_string (P := P) w t u ty e i (.int .u8 0) ht hu hi hz s (by omega) (by omega) (by rw [hby]; omega)
   have hgr := grown 0 (by omega) (Value.ownBlock (.slice none 0 0))
   simp only [Nat.zero_add, List.nil_append, Array.empty_append] at hgr ⊢
   have e1 : (s.data.map fun b => Value.int .u8 b.toNat) = (strCells s).toArray := by
    apply Array.ext'
    simp [strCells]
   rw [e1] at hr
   exact ⟨_, _, hr, hgr.1, hgr.2, fun g hg => .inr (by simp [Value.ownBlock] at hg; subst hg; simp), fun e => absurd e hm⟩
 ·by_cases hroom : n + s.size ≤ cap
  ·have hcs' : cur.size = cap := by simpa using hcs
   have hr := run_append_room_string (P := P) w t u ty e i ht hu hi hsize g n cap cur hg s hroom (by omega)
   refine ⟨_, _, hr, ⟨hlen, .inr ⟨g, cap, _, rfl, hbg, setRow_heap w g cur _ e _ hg, hroom, hcm, ?_, ?_⟩⟩, ⟨rfl, rfl, rfl, by simp, fun k _ hk => setRow_other w g k _ (fun e => hk (by simp [Value.ownBlock, e]))⟩, fun g hg => .inl hg, fun e => by rw [e]; rfl⟩
   ·simp only [List.size_toArray, List.length_append, List.length_take, List.length_drop, Array.length_toList, strCells_length]
    omega
   ·have ht' : cur.toList.take n = xs := by simpa using htake
    rw [ht', ← hlen]
    exact List.take_left
  ·have holds : ∀ j u, xs[j]? = some u → w.cell? ((⟨g, 0, none⟩ : Addr).add j) = some u := hown.cells (g := g) rfl
   have hr := run_append_grow_string (P := P) w t u ty e i (.int .u8 0) ht hu hi hz ⟨g, 0, none⟩ n cap xs (by rw [hsize]; simpa using hxl) holds s (by omega) (by omega) (by rw [hby]; exact growslice_fits (by omega) (by omega))
   have hgr := grown cap (by omega) (Value.ownBlock (.slice (some ⟨g, 0, none⟩) n cap))
   exact ⟨_, _, hr, hgr.1, hgr.2, fun g hg => .inr (by simp [Value.ownBlock] at hg; subst hg; simp), fun e => by omega⟩
theorem zeR (w : World) {ops : Array Oper} {rest : List Oper} {o : Oper} {a : Act} {Q : Exit → Act → World → Prop} (hgd : o.guard = none) (sl x : Operand) (t u : TypeId)
  (ho : o.op = .call { callee := .builtin .append, args := #[sl, x], argTypes := #[t, u] })
  (base : Nat) (e : TypeId) (i : TypeInfo) (ht : P.underlying t = some (.slice e)) (hu : P.underlying u = some .string) (hi : P.info? e = some i) (hz : i.zero = some (.int .u8 0))
  (hsize : i.size = 1) (hby : i.bytes = 1)
  (v : Value) (n : Nat) (xs : List Value) (hs : a.eval sl = v) (hown : w.ownsRow base e 1 v n xs) (s : ByteArray) (hx : a.eval x = .string s)
  (h63 : n + s.size ≤ maxLen) (hbytes : n + s.size ≤ 140737488355328) (hbase : base ≤ w.heap.size)
  (h : ∀ v' w', w'.ownsRow base e 1 v' (n + s.size) (xs ++ strCells s) → w.grownBy w' v.ownBlock → ((∀ g, v'.ownBlock = some g → v.ownBlock = some g ∨ (w.heap.size ≤ g ∧ g < w'.heap.size)) ∧ (s.size = 0 → v' = v)) → wpList P ops Q rest (a.put o.dst v') w') : wpList P ops Q (o :: rest) a w := by
 refine wpList_plain hgd fun K hK => ?_
 obtain ⟨v', w', hr, h2, h3, h4⟩ := zgZ (P := P) w base t u o.type e i ht hu hi hz hsize hby v n xs hown s h63 hbytes hbase
 unfold Oper.wp execOp
 simp only [ho, resolve, invoke, builtin, Sem.run_bind, Sem.run_pure, Result.andThen_ok, List.map_toArray, List.map_cons, List.map_nil, hs, hx, hr]
 exact hK _ _ (h v' w' h2 h3 h4)
end
open Go.RowKit
theorem zhk {w : World} {b o o' : Nat} {v : Value} (h : o ≠ o') : (w.setCell ⟨b, o, none⟩ v).cell? ⟨b, o', none⟩ = w.cell? ⟨b, o', none⟩ := by
 unfold World.setCell World.cell?
 simp only [Array.getElem?_modify, if_true]
 cases w.heap[b]? with
 | none => rfl
 | some ob =>
  cases ob <;> simp [Array.getElem?_setIfInBounds_ne h]
theorem zfW {w : World} {b o o' : Nat} {v : Value} : (w.setCell ⟨b, o, none⟩ v).frozen? ⟨b, o', none⟩ = w.frozen? ⟨b, o', none⟩ := by
 unfold World.setCell World.frozen?
 simp only [Array.getElem?_modify, if_true]
 cases w.heap[b]? with
 | none => rfl
 | some ob =>
  cases ob <;> simp
theorem zkr {w : World} {e : TypeId} {v : Value} {k : Nat} {bs : List Value} {b o : Nat} {x : Value} (h : w.ownsRow 0 e 1 v k bs) (hne : v.ownBlock ≠ some b) : (w.setCell ⟨b, o, none⟩ x).ownsRow 0 e 1 v k bs := by
 refine ⟨h.1, ?_⟩
 rcases h.2 with hn | ⟨g, cap, cur, rfl, hb, hgg, rest⟩
 ·exact .inl hn
 ·refine .inr ⟨g, cap, cur, rfl, hb, ?_, rest⟩
  have : b ≠ g := fun e => hne (by simp [Value.ownBlock, e])
  unfold World.setCell
  rw [Array.getElem?_modify, if_neg this]
  exact hgg
theorem zmR (b o n : Nat) (T : TypeId) (w : World) (h0 : w.cell? ⟨b, o, none⟩ = some (.pointer none) ∨ w.cell? ⟨b, o, none⟩ = some (.pointer (some ⟨b, o, none⟩))) (hsh : w.shape? b = some (T, n)) (hlt : o < n) (hl : liesAt Tryz.prog Tryz.prog.depth T (n / Tryz.prog.cellsOf T) o 133 1 = true) (hfz : w.frozen? ⟨b, o, none⟩ = false) :
  Calls Tryz.prog 136 #[.pointer (some ⟨b, o, none⟩)] w fun e w' => e = .returned (.tuple #[]) ∧ ((w' = w ∧ w.cell? ⟨b, o, none⟩ = some (.pointer (some ⟨b, o, none⟩))) ∨ w' = w.setCell ⟨b, o, none⟩ (.pointer (some ⟨b, o, none⟩))) := by
 rcases h0 with h0 | h0
 ·refine (zmQ b o n T w h0 hsh hlt hl hfz).mono ?_
  rintro e w' ⟨rfl, rfl⟩
  exact ⟨rfl, .inr rfl⟩
 ·refine (zpp b o w h0).mono ?_
  rintro e w' ⟨rfl, rfl⟩
  exact ⟨rfl, .inl ⟨rfl, h0⟩⟩
theorem zks (b o n : Nat) (T : TypeId) (w : World) (v : Value) (k : Nat) (bs : List Value) (s : ByteArray) (h0 : w.cell? ⟨b, o, none⟩ = some (.pointer none) ∨ w.cell? ⟨b, o, none⟩ = some (.pointer (some ⟨b, o, none⟩))) (h1 : w.cell? ⟨b, o + 1, none⟩ = some v)
  (hsh : w.shape? b = some (T, n)) (hlt : o < n) (hl : liesAt Tryz.prog Tryz.prog.depth T (n / Tryz.prog.cellsOf T) o 133 1 = true) (hfz : w.frozen? ⟨b, o, none⟩ = false) (hfz1 : w.frozen? ⟨b, o + 1, none⟩ = false)
  (hown : w.ownsRow 0 5 1 v k bs) (hne : v.ownBlock ≠ some b) (hlen : k + s.size ≤ 140737488355328) :
  Calls Tryz.prog 84 #[.pointer (some ⟨b, o, none⟩), .string s] w fun e w' => e = .returned (.tuple #[.int .i64 s.size, .nilIface]) ∧
   ∃ w1 v' w2, ((w1 = w ∧ w.cell? ⟨b, o, none⟩ = some (.pointer (some ⟨b, o, none⟩))) ∨ w1 = w.setCell ⟨b, o, none⟩ (.pointer (some ⟨b, o, none⟩))) ∧ w2.ownsRow 0 5 1 v' (k + s.size) (bs ++ Lib.strCells s) ∧ w1.grownBy w2 v.ownBlock ∧ ((∀ g, v'.ownBlock = some g → v.ownBlock = some g ∨ (w1.heap.size ≤ g ∧ g < w2.heap.size)) ∧ (s.size = 0 → v' = v)) ∧ w' = w2.setCell ⟨b, o + 1, none⟩ v' := by
 obtain ⟨i0, hi, hz0⟩ := Option.map_eq_some_iff.1 (show (Tryz.prog.info? 5).map (fun i => (i.zero, i.size, i.bytes)) = some (some (.int .u8 0), 1, 1) by kernel_rfl)
 simp only [Prod.mk.injEq] at hz0
 obtain ⟨hz0, hz1, hz2⟩ := hz0
 go_enter Tryz.func84, Tryz.ntmps84
 go_wp2_with (go_at_call 136; refine (zmR b o n T _ h0 hsh hlt hl hfz).mono ?_)
 rintro e w1 ⟨rfl, hw1⟩
 have c1 : w1.cell? ⟨b, o + 1, none⟩ = some v := by
  rcases hw1 with ⟨rfl, _⟩ | rfl
  ·exact h1
  ·rw [zhk (by omega)]; exact h1
 have f1 : w1.frozen? ⟨b, o + 1, none⟩ = false := by
  rcases hw1 with ⟨rfl, _⟩ | rfl
  ·exact hfz1
  ·rw [zfW]; exact hfz1
 have hown1 : w1.ownsRow 0 5 1 v k bs := by
  rcases hw1 with ⟨rfl, _⟩ | rfl
  ·exact hown
  ·exact zkr hown hne
 go_wp2_with (at_builtin; refine zeR _ rfl _ _ 83 9 rfl 0 5 i0 Tryz.underlying83 Tryz.underlying9 hi hz0 hz1 hz2 _ _ _ rfl hown1 s rfl ?c3 ?c4 ?c5 ?_)
 case c3 => unfold maxLen; omega
 case c4 => omega
 case c5 => omega
 intro v' w2 hown' hgrow hnew hnew2
 have hlt1 : b < w1.heap.size := by
  rcases Nat.lt_or_ge b w1.heap.size with h' | h'
  ·exact h'
  ·simp [World.cell?, Array.getElem?_eq_none h'] at c1
 have hb2 : w2.heap[b]? = w1.heap[b]? := hgrow.block b hlt1 (fun e => hne e.symm)
 have d1 : w2.cell? ⟨b, o + 1, none⟩ = some v := by
  rw [← c1]; simp only [World.cell?, hb2]
 have f2 : w2.frozen? ⟨b, o + 1, none⟩ = false := by
  rw [← f1]; simp only [World.frozen?, hb2]
 obtain ⟨ao, n', cap, rfl⟩ : ∃ ao n' cap, v' = .slice ao n' cap := by
  rcases hown'.2 with ⟨hv, _⟩ | ⟨g, cap, cur, hv, _⟩
  ·exact ⟨_, _, _, hv⟩
  ·exact ⟨_, _, _, hv⟩
 go_wp2
 go_ret2
 exact ⟨rfl, w1, _, w2, hw1, hown', hgrow, ⟨hnew, fun e => hnew2 (by simpa using e)⟩, rfl⟩
end Go.Proofs.YtmhlpboclbippaaGreat
namespace Go.Proofs.YtmhlpboclbippaaGreat
open Go Go.RowKit
theorem zdA (W : World) (q : Option Addr) : (Builtin.unsafeString_ #[200, 3] 9 #[.pointer q, .int .i64 0]).run Tryz.prog W = .ok (.string .empty) W :=
 Lib.run_unsafeString_none W _ _ _ q
theorem zdB (w : World) (row : Option Nat) : w.grownBy w.drew row := ⟨rfl, rfl, rfl, Nat.le_refl _, fun _ _ _ => rfl⟩
theorem zhl (w : World) (g n : Nat) : w.grownBy (w.drew.freeze ⟨g, 0, none⟩ n) (some g) := by
 unfold World.freeze
 split
 ·exact zdB w _
 ·refine ⟨rfl, rfl, rfl, by simp, fun k hk hne => ?_⟩
  simp only [Array.getElem?_modify]
  rw [if_neg (fun e => hne (by rw [e]))]
  rfl
theorem zmS (b o : Nat) (w : World) (h1 : w.cell? ⟨b, o + 1, none⟩ = some (.slice none 0 0)) :
  Calls Tryz.prog 86 #[.pointer (some ⟨b, o, none⟩)] w fun e w' => e = .returned (.string ⟨#[]⟩) ∧ w.grownBy w' none := by
 have hUS := zdA
 have c1 : w.drew.cell? ⟨b, o + 1, none⟩ = some (.slice none 0 0) := h1
 have hSD : (Builtin.unsafeSliceData_ #[83] 200 #[.slice none 0 0]).run Tryz.prog w.drew = .ok (.pointer none) w.drew := rfl
 go_enter Tryz.func86, Tryz.ntmps86
 go_wp2
 go_region
 all_goals (go_wp2; go_ret; exact ⟨rfl, zdB w none⟩)
theorem zkt (b o g cap : Nat) (w : World) (hc0 : cap ≠ 0) (h1 : w.cell? ⟨b, o + 1, none⟩ = some (.slice (some ⟨g, 0, none⟩) 0 cap)) :
  Calls Tryz.prog 86 #[.pointer (some ⟨b, o, none⟩)] w fun e w' => e = .returned (.string ⟨#[]⟩) ∧ w.grownBy w' (some g) := by
 have hUS := zdA
 have c1 : w.drew.cell? ⟨b, o + 1, none⟩ = some (.slice (some ⟨g, 0, none⟩) 0 cap) := h1
 have hSD : (Builtin.unsafeSliceData_ #[83] 200 #[.slice (some ⟨g, 0, none⟩) 0 cap]).run Tryz.prog w.drew = .ok (.pointer (some ⟨g, 0, none⟩)) w.drew :=
  Lib.run_unsafeSliceData_row _ _ _ _ _ _ hc0
 clear hc0
 go_enter Tryz.func86, Tryz.ntmps86
 go_wp2
 go_region
 all_goals (go_wp2; go_ret; exact ⟨rfl, zdB w _⟩)
theorem zix (b o g : Nat) (cur : Array Value) (w : World) (h1 : w.cell? ⟨b, o + 1, none⟩ = some (.slice (some ⟨g, 0, none⟩) 0 0)) (hg : w.heap[g]? = some (.cells cur 5 (0, 0))) :
  Calls Tryz.prog 86 #[.pointer (some ⟨b, o, none⟩)] w fun e w' => e = .returned (.string ⟨#[]⟩) ∧ w.grownBy w' (some g) := by
 have hUS := zdA
 have hlt : b < w.heap.size := by
  rcases Nat.lt_or_ge b w.heap.size with h' | h'
  ·exact h'
  ·simp [World.cell?, Array.getElem?_eq_none h'] at h1
 have c1 : w.drew.cell? ⟨b, o + 1, none⟩ = some (.slice (some ⟨g, 0, none⟩) 0 0) := h1
 have hSD : (Builtin.unsafeSliceData_ #[83] 200 #[.slice (some ⟨g, 0, none⟩) 0 0]).run Tryz.prog w.drew = .ok (.pointer (some ⟨w.drew.heap.size, 0, none⟩)) (w.drew.alloc (.view ⟨g, 0, none⟩ 5)) :=
  Lib.run_unsafeSliceData_zero w.drew _ _ 5 Tryz.underlying200 ⟨g, 0, none⟩ 0 (5, cur.size) (by have hg' : w.drew.heap[g]? = some (.cells cur 5 (0, 0)) := hg; simp [World.shape?, hg'])
 have c2 : (w.drew.alloc (.view ⟨g, 0, none⟩ 5)).cell? ⟨b, o + 1, none⟩ = some (.slice (some ⟨g, 0, none⟩) 0 0) := by
  rw [← c1]
  simp only [World.cell?]
  rw [Lib.alloc_old w.drew _ b hlt]
 have c3 : (w.alloc (.view ⟨g, 0, none⟩ 5)).drew.cell? ⟨b, o + 1, none⟩ = some (.slice (some ⟨g, 0, none⟩) 0 0) := c2
 go_enter Tryz.func86, Tryz.ntmps86
 go_wp2
 go_region
 all_goals (go_wp2; go_ret; exact ⟨rfl, ⟨rfl, rfl, rfl, by simp, fun k hk _ => Lib.alloc_old w.drew _ k hk⟩⟩)
theorem zku (b o g cap : Nat) (cur : Array Value) (l : List UInt8) (w : World) (h0 : l ≠ []) (h1 : w.cell? ⟨b, o + 1, none⟩ = some (.slice (some ⟨g, 0, none⟩) l.length cap))
  (hown : w.ownsRow 0 5 1 (.slice (some ⟨g, 0, none⟩) l.length cap) l.length (Lib.byteCells l)) :
  Calls Tryz.prog 86 #[.pointer (some ⟨b, o, none⟩)] w fun e w' => e = .returned (.string ⟨l.toArray⟩) ∧ w.grownBy w' (some g) := by
 have hl0 : l.length ≠ 0 := by simpa using h0
 obtain ⟨cur, hg, hnc, hcm, hcs, htake⟩ : ∃ cur, w.heap[g]? = some (.cells cur 5 (0, 0)) ∧ l.length ≤ cap ∧ cap ≤ maxLen ∧ cur.size = cap * 1 ∧ cur.toList.take (l.length * 1) = Lib.byteCells l := by
  rcases hown.2 with ⟨_, hz⟩ | ⟨g', cap', cur, hv, r0, r⟩
  ·exact absurd hz hl0
  ·cases hv
   exact ⟨cur, r⟩
 have c1 : w.drew.cell? ⟨b, o + 1, none⟩ = some (.slice (some ⟨g, 0, none⟩) l.length cap) := h1
 have hSD : (Builtin.unsafeSliceData_ #[83] 200 #[.slice (some ⟨g, 0, none⟩) l.length cap]).run Tryz.prog w.drew = .ok (.pointer (some ⟨g, 0, none⟩)) w.drew :=
  Lib.run_unsafeSliceData_row _ _ _ _ _ _ (by omega)
 have hUS : (Builtin.unsafeString_ #[200, 3] 9 #[.pointer (some ⟨g, 0, none⟩), .int .i64 l.length]).run Tryz.prog w.drew = .ok (.string ⟨l.toArray⟩) (w.drew.freeze ⟨g, 0, none⟩ l.length) := by
  refine Lib.run_unsafeString_row w.drew 200 3 9 5 Tryz.underlying200 (by kernel_rfl) g cur.size (by have hg' : w.drew.heap[g]? = some (.cells cur 5 (0, 0)) := hg; simp [World.shape?, hg']) l h0 (by omega) (by unfold maxLen at hcm; omega) ?_
  intro j x hx
  have := hown.cells (g := g) rfl j (.int .u8 x.toNat) (by simp [Lib.byteCells, hx])
  exact this
 clear h0 hown
 go_enter Tryz.func86, Tryz.ntmps86
 go_wp2
 go_region
 all_goals (go_wp2; go_ret; exact ⟨rfl, zhl w g _⟩)
theorem zjC (b o : Nat) (w : World) (v : Value) (l : List UInt8) (h1 : w.cell? ⟨b, o + 1, none⟩ = some v) (hown : w.ownsRow 0 5 1 v l.length (Lib.byteCells l)) :
  Calls Tryz.prog 86 #[.pointer (some ⟨b, o, none⟩)] w fun e w' => e = .returned (.string ⟨l.toArray⟩) ∧ w.grownBy w' v.ownBlock := by
 rcases hown.2 with ⟨rfl, hz⟩ | ⟨g, cap, cur, rfl, _, hg, hnc, hcm, hcs, htake⟩
 ·have : l = [] := List.length_eq_zero_iff.1 hz
  subst this
  exact zmS b o w h1
 ·by_cases hl : l = []
  ·subst hl
   by_cases hc : cap = 0
   ·subst hc
    exact zix b o g cur w h1 hg
   ·exact zkt b o g cap w hc h1
  ·exact zku b o g cap cur l w hl h1 hown
end Go.Proofs.YtmhlpboclbippaaGreat
namespace Go.Aw
open Go Go.Proofs Go.Proofs.YtmhlpboclbippaaGreat
section
variable {P : Program} {w w' w'' : World} {E E' E'' : Env} {h h' h'' : AHeap} {fl i j : Nat}
theorem EvoC.trans (a : EvoC fl E h w E' h' w') (b : EvoC fl E' h' w' E'' h'' w'') : EvoC fl E h w E'' h'' w'' where
 os := b.os.trans a.os
 tape := b.tape.trans a.tape
 output := b.output.trans a.output
 size := Nat.le_trans a.size b.size
 keep := fun k hk ho => (b.keep k (Nat.lt_of_lt_of_le hk a.size) (fun h => (a.own k h).elim ho (fun h => by omega))).trans (a.keep k hk ho)
 own := fun k h => (b.own k h).elim (fun h => a.own k h) (fun h => .inr (Nat.le_trans a.size h))
 m := b.m.trans a.m
 n := b.n.trans a.n
 go := fun i hi hl => by
  obtain ⟨h1, h2⟩ := b.go i hi hl
  obtain ⟨h3, h4⟩ := a.go i hi h1
  exact ⟨h3, h4.trans h2⟩
theorem Chg.evoC (c : Chg E h w E' h' w' i) (hf : (hget h i).isSome ∨ fl ≤ i) : EvoC fl E h w E' h' w' :=
 have e := c.evo (fl := fl) hf
 ⟨e.os, e.tape, e.output, e.size, fun b hb ho => c.blk b hb (fun ⟨h1, h2⟩ => ho ⟨i, h1, h2⟩), e.own, c.M, c.N, e.go⟩
theorem zlE {b : Nat} {c : Array Value} {T : TypeId} {fz : Nat × Nat} (g2 : w.heap[b]? = some (.cells c T fz)) : World.row w b (.cells c T fz) = w := by
 obtain ⟨hlt, hb'⟩ := Array.getElem?_eq_some_iff.1 g2
 unfold World.row
 rw [← hb', Array.setIfInBounds_def, dif_pos hlt, Array.set_getElem_self]
theorem zjD {b o : Nat} {c : Array Value} {T : TypeId} {fz : Nat × Nat} {v : Value} (g2 : w.heap[b]? = some (.cells c T fz)) (hc : c[o]? = some v) : w.setCell ⟨b, o, none⟩ v = w := by
 rw [zcF g2]
 have : c.setIfInBounds o v = c := by
  obtain ⟨hlt, he⟩ := Array.getElem?_eq_some_iff.1 hc
  rw [Array.setIfInBounds_def, dif_pos hlt, ← he, Array.set_getElem_self]
 rw [this]
 exact zlE g2
theorem zfv : ∀ (h : AHeap) (i : Nat) (a b : AObj), hset (hset h i a) i b = hset h i b
  | [], _, _, _ => rfl
  | (k, o) :: r, i, a, b => by
    by_cases hk : k = i
    · simp [hset, hk]
    · simp [hset, hk, zfv r]
theorem pokeT (hs : SatH E h w) {o b : Nat} {t : TypeId} {cs : List AV} (hi : hget h i = some (.tvar t cs)) (hb : E.O i = some b) {x : AV} {v : Value} (hr : Rep w E h x v) :
  Chg E h w E (hset h i (.tvar t (cs.set o x))) (w.setCell ⟨b, o, none⟩ v) i ∧ SatH E (hset h i (.tvar t (cs.set o x))) (w.setCell ⟨b, o, none⟩ v) := by
 have hob := hs.heap i _ hi
 simp only [RepObj] at hob
 obtain ⟨b', c, T, fz, g1, g2, g3, g4, g5⟩ := hob
 rw [hb] at g1; cases g1
 rw [zcF g2]
 have ch := zhW hs hi (cs' := cs.set o x) (by simp) hb (.cells (c.setIfInBounds o v) T fz)
 refine ⟨ch, ch.satH hs (fun ob hob => ?_)⟩
 rw [zw hi] at hob
 cases hob
 simp only [RepObj]
 refine ⟨b, _, T, fz, hb, zcg (Array.getElem?_eq_some_iff.1 g2).1, ?_, by simpa using g4, g5⟩
 rw [Array.toList_setIfInBounds]
 exact ch.reps (g3.set hr)
theorem zpt (hs : SatH E h w) {t : TypeId} {xs : List UInt8} {n : Nat} {v : Value} (hj : hget h j = some (.buf t xs)) (hv : Rep w E h (.bsl j n) v) (hn : n = xs.length) :
  w.ownsRow 0 t 1 v xs.length (Lib.byteCells xs) ∧ (∀ g, v.ownBlock = some g → E.O j = some g) ∧ (v = .slice none 0 0 ∧ E.O j = none ∨ ∃ g, v = .slice (some ⟨g, 0, none⟩) xs.length (E.C j) ∧ E.O j = some g) := by
 simp only [Rep] at hv
 obtain ⟨_, t', xs', h1, _, h3⟩ := hv
 rw [hj] at h1; cases h1
 have hob := hs.heap j _ hj
 simp only [RepObj] at hob
 rcases h3 hn.symm with ⟨⟨h4, h5⟩, rfl⟩ | ⟨g, h4, rfl⟩
 ·have : xs = [] := List.length_eq_zero_iff.1 (by omega)
  subst this
  exact ⟨World.ownsRow_nil _ _ _ _, fun g hg => by simp [Value.ownBlock] at hg, .inl ⟨rfl, h4⟩⟩
 ·rcases hob with ⟨q1, _⟩ | ⟨b', c, T, fz, q1, q2, q3, q4, q5, rfl, rfl, q7⟩
  ·rw [h4] at q1; cases q1
  ·rw [h4] at q1; cases q1
   refine ⟨⟨by simp [Lib.byteCells], .inr ⟨g, E.C j, c, by rw [hn], Nat.zero_le _, q2, q4, by unfold maxLen; omega, q3, by rw [Nat.mul_one]; exact q5⟩⟩, fun g' hg => ?_, .inr ⟨g, by rw [hn], h4⟩⟩
   simp [Value.ownBlock] at hg
   rw [h4, hg]
theorem zpu {t : TypeId} {xs xs' : List UInt8} (hj : hget h j = some (.buf t xs)) (g' : Option Nat) (cap' : Nat) {row : Option Nat} (hgrow : w.grownBy w' row) (hrow : ∀ g, row = some g → E.O j = some g) (hlen : xs.length ≤ xs'.length) (hsame : xs'.length = xs.length → g' = E.O j ∧ cap' = E.C j)
  (hnew : ∀ g, g' = some g → E.O j = some g ∨ (w.heap.size ≤ g ∧ g < w'.heap.size)) : Chg E h w (E.set j g' cap') (hset h j (.buf t xs')) w' j where
 os := hgrow.os
 tape := hgrow.tape
 output := hgrow.output
 size := hgrow.size
 envO := fun k e => by simp [Env.set, e]
 envC := fun k e => by simp [Env.set, e]
 M := rfl
 N := rfl
 hh := fun k e => zH e
 gi := by
  unfold GoesOn
  rw [hj]
  exact ⟨xs', zw hj, hlen, fun e => by simpa [Env.set] using hsame e⟩
 blk := fun b hb hn => hgrow.block b hb (fun e => hn ⟨by simp [hj], hrow b e.symm⟩)
 new := fun b _ hb => by
  simp only [Env.set, if_true] at hb
  rcases hnew b hb with h1 | h1
  ·exact .inl ⟨by simp [hj], h1⟩
  ·exact .inr h1
theorem zhm (l : List UInt8) : Lib.strCells ⟨l.toArray⟩ = Lib.byteCells l := by simp [Lib.strCells, Lib.byteCells]
theorem zrS {o : Nat} {T : TypeId} {cs : List AV} {xs l : List UInt8} {n : Nat} (hi : hget h i = some (.tvar T cs)) (c0 : cs[o]? = some (.d .nilp) ∨ cs[o]? = some (.tp i o)) (c1 : cs[o + 1]? = some (.bsl j n)) (hj : hget h j = some (.buf 5 xs)) (hn : n = xs.length)
  (hl : liesAt Tryz.prog Tryz.prog.depth T (cs.length / Tryz.prog.cellsOf T) o 133 1 = true) (hlen : xs.length + l.length ≤ 140737488355328) :
  ACallAt Tryz.prog fl 84 [.tp i o, .d (.str l)] h (fun r h' => r = .tup [.d (.int .i64 l.length), .d .nilif] ∧ h' = hset (hset h j (.buf 5 (xs ++ l))) i (.tvar T ((cs.set o (.tp i o)).set (o + 1) (.bsl j (xs.length + l.length))))) := by
 refine ⟨zv Tryz.func84 (by kernel_rfl) rfl, fun E w vs hs hr => ?_⟩
 simp only [Reps] at hr
 obtain ⟨v0, r0, e0, q0, v1, r1, rfl, q1, rfl⟩ := hr
 have q0' := q0
 simp only [Rep, RepD] at q0 q1
 obtain ⟨b, T', cs', hi', hb, rfl⟩ := q0
 rw [hi] at hi'; cases hi'
 subst q1
 have hvs : vs = #[.pointer (some ⟨b, o, none⟩), .string ⟨l.toArray⟩] := by cases vs; simpa using e0
 subst hvs
 have hij : i ≠ j := fun e => by rw [e, hj] at hi; cases hi
 have hob := hs.heap i _ hi
 simp only [RepObj] at hob
 obtain ⟨b', c, T0, fz, g1, g2, g3, g4, rfl⟩ := hob
 rw [hb] at g1; cases g1
 have hcl : c.size = cs.length := by have := Reps.length g3; simpa using this
 obtain ⟨v, hv0, hv⟩ := Reps.get g3 c1
 have hv1 : c[o + 1]? = some v := by simpa using hv0
 have hlt1 : o + 1 < c.size := (Array.getElem?_eq_some_iff.1 hv1).1
 obtain ⟨o1, o2, o3⟩ := zpt hs hj hv hn
 have hne : v.ownBlock ≠ some b := fun e => hij (hs.inj i j b (by simp [hi]) (by simp [hj]) hb (o2 b e))
 have hfz : ∀ k, k < c.size → w.frozen? ⟨b, k, none⟩ = false := fun k hk => by
  rw [zbO g2]
  have := g4 k hk
  simpa using this
 have hptr : Rep w E h (.tp i o) (.pointer (some ⟨b, o, none⟩)) := q0'
 have hc0 : c[o]? = some (.pointer none) ∨ c[o]? = some (.pointer (some ⟨b, o, none⟩)) := by
  rcases c0 with c0 | c0
  ·obtain ⟨u, hu, hur⟩ := Reps.get g3 c0
   simp only [Rep, RepD] at hur
   subst hur
   exact .inl (by simpa using hu)
  ·obtain ⟨u, hu, hur⟩ := Reps.get g3 c0
   simp only [Rep] at hur
   obtain ⟨b2, _, _, _, hb2, rfl⟩ := hur
   rw [hb] at hb2; cases hb2
   exact .inr (by simpa using hu)
 refine (zks b o c.size T0 w v xs.length (Lib.byteCells xs) ⟨l.toArray⟩ (by rw [zY g2]; exact hc0) (by rw [zY g2]; exact hv1) (by simp [World.shape?, g2]) (by omega) (by rw [hcl]; exact hl) (hfz o (by omega)) (hfz (o + 1) hlt1) o1 hne (by simpa [ByteArray.size] using hlen)).mono ?_
 rintro e w3 ⟨rfl, w1, v', w2, hw1, hown', hgrow, ⟨hnew, hempty⟩, rfl⟩
 have hw1' : w1 = w.setCell ⟨b, o, none⟩ (.pointer (some ⟨b, o, none⟩)) := by
  rcases hw1 with ⟨rfl, hc⟩ | h
  ·rw [zY g2] at hc
   exact (zjD g2 hc).symm
  ·exact h
 subst hw1'
 obtain ⟨ch1, hs1⟩ := pokeT hs hi hb (o := o) hptr
 have hj1 : hget (hset h i (.tvar T0 (cs.set o (.tp i o)))) j = some (.buf 5 xs) := by rw [zH (Ne.symm hij)]; exact hj
 rw [zhm] at hown'
 have hsz : (⟨l.toArray⟩ : ByteArray).size = l.length := by simp [ByteArray.size]
 rw [hsz] at hown' hempty
 obtain ⟨g', cap', hv', hg'⟩ : ∃ (g' : Option Nat) (cap' : Nat), v'.ownBlock = g' ∧ ((v' = .slice none 0 0 ∧ g' = none ∧ xs ++ l = []) ∨ ∃ g cur, g' = some g ∧ v' = .slice (some ⟨g, 0, none⟩) (xs.length + l.length) cap' ∧ w2.heap[g]? = some (.cells cur 5 (0, 0)) ∧ xs.length + l.length ≤ cap' ∧ cap' ≤ maxLen ∧ cur.size = cap' * 1 ∧ cur.toList.take ((xs.length + l.length) * 1) = Lib.byteCells xs ++ Lib.byteCells l) ∧ (l = [] → g' = E.O j ∧ cap' = E.C j) := by
  rcases hown'.2 with ⟨rfl, hz⟩ | ⟨g, cap', cur, rfl, _, hx⟩
  ·refine ⟨none, E.C j, rfl, .inl ⟨rfl, rfl, ?_⟩, fun hl0 => ⟨?_, rfl⟩⟩
   ·have h1 : xs = [] := List.length_eq_zero_iff.1 (by omega)
    have h2 : l = [] := List.length_eq_zero_iff.1 (by omega)
    simp [h1, h2]
   ·have hve := hempty (by simp [hl0])
    rcases o3 with ⟨_, h1⟩ | ⟨g, h1, _⟩
    ·exact h1.symm
    ·rw [h1] at hve; cases hve
  ·refine ⟨some g, cap', rfl, .inr ⟨g, cur, rfl, rfl, hx⟩, fun hl0 => ?_⟩
   have hve := hempty (by simp [hl0])
   rcases o3 with ⟨h1, _⟩ | ⟨g2, h1, h2⟩
   ·rw [h1] at hve; cases hve
   ·rw [h1] at hve
    simp only [Value.slice.injEq, Option.some.injEq, Addr.mk.injEq] at hve
    obtain ⟨⟨rfl, _⟩, _, rfl⟩ := hve
    exact ⟨h2.symm, rfl⟩
 obtain ⟨hg', hsame⟩ := hg'
 have ch2 : Chg E (hset h i (.tvar T0 (cs.set o (.tp i o)))) (w.setCell ⟨b, o, none⟩ (.pointer (some ⟨b, o, none⟩))) (E.set j g' cap') (hset (hset h i (.tvar T0 (cs.set o (.tp i o)))) j (.buf 5 (xs ++ l))) w2 j :=
  zpu hj1 g' cap' hgrow (fun g hg => o2 g hg) (by simp) (fun e => hsame (by simpa using e)) (fun g hg => by
   rcases hnew g (by rw [hv', hg]) with h1 | h1
   ·exact .inl (o2 g h1)
   ·exact .inr h1)
 have hs2 := ch2.satH hs1 (fun ob hob => by
  rw [zw hj1] at hob
  cases hob
  simp only [RepObj, Env.set, if_true]
  rcases hg' with ⟨_, h1, h2⟩ | ⟨g, cur, h1, h2, h3, h4, h5, h6, h7⟩
  ·exact .inl ⟨h1, .inl h2⟩
  ·refine .inr ⟨g, cur, 5, (0, 0), h1, h3, h6, by simpa using h4, ?_, rfl, rfl, by unfold maxLen at h5; omega⟩
   rw [Nat.mul_one] at h7
   rw [List.length_append, h7]
   simp [Lib.byteCells])
 have hi2 : hget (hset (hset h i (.tvar T0 (cs.set o (.tp i o)))) j (.buf 5 (xs ++ l))) i = some (.tvar T0 (cs.set o (.tp i o))) := by rw [zH hij]; exact zw hi
 have hb2 : (E.set j g' cap').O i = some b := by simp [Env.set, hij, hb]
 have hrv' : Rep w2 (E.set j g' cap') (hset (hset h i (.tvar T0 (cs.set o (.tp i o)))) j (.buf 5 (xs ++ l))) (.bsl j (xs.length + l.length)) v' := by
  simp only [Rep]
  rcases hg' with ⟨h0, h1, h2⟩ | ⟨g, cur, h1, h2, h3, h4, h5, h6, h7⟩
  ·have h3 : xs.length + l.length = 0 := by have := congrArg List.length h2; simpa using this
   exact ⟨⟨_, _, _, h0⟩, _, _, zw hj1, by simp, fun _ => .inl ⟨⟨by simp [Env.set, h1], h3⟩, h0⟩⟩
  ·exact ⟨⟨_, _, _, h2⟩, _, _, zw hj1, by simp, fun _ => .inr ⟨g, by simp [Env.set, h1], by simp [Env.set, h2]⟩⟩
 obtain ⟨ch3, hs3⟩ := pokeT hs2 hi2 hb2 (o := o + 1) hrv'
 have eh : hset (hset (hset h i (.tvar T0 (cs.set o (.tp i o)))) j (.buf 5 (xs ++ l))) i (.tvar T0 ((cs.set o (.tp i o)).set (o + 1) (.bsl j (xs.length + l.length)))) = hset (hset h j (.buf 5 (xs ++ l))) i (.tvar T0 ((cs.set o (.tp i o)).set (o + 1) (.bsl j (xs.length + l.length)))) := by
  rw [zgw h hij, zfv]
 refine ⟨_, _, _, _, rfl, ⟨rfl, rfl⟩, eh ▸ hs3, ?_, eh ▸ ((ch1.evoC (.inl (by simp [hi]))).trans ((ch2.evoC (.inl (by simp [hj1]))).trans (ch3.evoC (.inl (by simp [hi2]))))), fun x y hxy => eh ▸ ch3.rep (ch2.rep (ch1.rep hxy))⟩
 simp only [Rep, Reps, RepD]
 refine ⟨_, rfl, _, _, rfl, ?_, _, _, rfl, rfl, rfl⟩
 rw [hsz]
noncomputable def gone : List UInt8 := List.replicate zgi 0
theorem zkw : gone.length = zgi := by unfold gone; exact List.length_replicate ..
attribute [irreducible] gone
theorem zpv {o : Nat} {T : TypeId} {cs : List AV} {xs : List UInt8} {n : Nat} (hi : hget h i = some (.tvar T cs)) (c1 : cs[o + 1]? = some (.bsl j n)) (hj : hget h j = some (.buf 5 xs)) (hn : n = xs.length) (hlen : xs.length ≤ 140737488355328) :
  ACallAt Tryz.prog fl 86 [.tp i o] h (fun r h' => r = .d (.str xs) ∧ h' = hset h j (.buf 5 gone)) := by
 refine ⟨zv Tryz.func86 (by kernel_rfl) rfl, fun E w vs hs hr => ?_⟩
 simp only [Reps] at hr
 obtain ⟨v0, r0, e0, q0, rfl⟩ := hr
 have q0' := q0
 simp only [Rep] at q0
 obtain ⟨b, T', cs', hi', hb, rfl⟩ := q0
 rw [hi] at hi'; cases hi'
 have hvs : vs = #[.pointer (some ⟨b, o, none⟩)] := by cases vs; simpa using e0
 subst hvs
 have hob := hs.heap i _ hi
 simp only [RepObj] at hob
 obtain ⟨b', c, T0, fz, g1, g2, g3, g4, rfl⟩ := hob
 rw [hb] at g1; cases g1
 obtain ⟨v, hv0, hv⟩ := Reps.get g3 c1
 have hv1 : c[o + 1]? = some v := by simpa using hv0
 obtain ⟨o1, o2, o3⟩ := zpt hs hj hv hn
 refine (zjC b o w v xs (by rw [zY g2]; exact hv1) o1).mono ?_
 rintro e w3 ⟨rfl, hgrow⟩
 have hgl := zkw
 have hdl : zgi = 9223372036854775808 := rfl
 have ch : Chg E h w (E.set j none 0) (hset h j (.buf 5 gone)) w3 j :=
  zpu hj none 0 hgrow (fun g hg => o2 g hg) (by omega) (fun e => by omega) (fun g hg => by cases hg)
 have hs2 := ch.satH hs (fun ob hob => by
  rw [zw hj] at hob
  cases hob
  simp only [RepObj, Env.set, if_true]
  exact .inl ⟨trivial, .inr hgl⟩)
 exact ⟨_, _, _, _, rfl, ⟨rfl, rfl⟩, hs2, by simp only [Rep, RepD], ch.evoC (.inl (by simp [hj])), fun x y hxy => ch.rep hxy⟩
theorem zpw {cx : Cx} {c : Code} {Q : Exit → AS → Prop} {s : AS} (i o : Nat) {T : TypeId} {cs : List AV} (hi : hget s.h i = some (.tvar T cs)) (ho : cs[o]? = some (.nils 1))
    (h : AW cx c Q { s with h := (fresh cx.fl s.h, .buf 5 []) :: hset s.h i (.tvar T (cs.set o (.bsl (fresh cx.fl s.h) 0))) }) : AW cx c Q s := fun E a w hs => by
  have hne : fresh cx.fl s.h ≠ i := fun e => by
    have := zcp cx.fl s.h
    rw [e, hi] at this; cases this
  have cc : Chg E s.h w (E.set (fresh cx.fl s.h) none 0) ((fresh cx.fl s.h, .buf 5 []) :: s.h) w (fresh cx.fl s.h) :=
    { os := rfl, tape := rfl, output := rfl, size := Nat.le_refl _, envO := fun j e => by simp [Env.set, e], envC := fun j e => by simp [Env.set, e], M := rfl, N := rfl, hh := fun j e => by simp [hget, Ne.symm e],
      gi := by simp [GoesOn, zcp]
      blk := fun b hb _ => rfl
      new := fun b _ hb => by simp [Env.set] at hb }
  have hs1 := cc.sat (t := s.t) (g := s.g) hs (fun o ho => by
    simp [hget] at ho
    subst ho
    simp only [RepObj]
    exact .inl ⟨by simp [Env.set], .inl trivial⟩)
  have hi1 : hget ((fresh cx.fl s.h, .buf 5 []) :: s.h) i = some (.tvar T cs) := by simp [hget, hne, hi]
  have e1 : (fresh cx.fl s.h, AObj.buf 5 []) :: hset s.h i (.tvar T (cs.set o (.bsl (fresh cx.fl s.h) 0))) = hset ((fresh cx.fl s.h, .buf 5 []) :: s.h) i (.tvar T (cs.set o (.bsl (fresh cx.fl s.h) 0))) := by
    simp [hset, hne]
  obtain ⟨E1, hE1⟩ : ∃ E1, E1 = E.set (fresh cx.fl s.h) none 0 := ⟨_, rfl⟩
  rw [← hE1] at hs1 cc
  obtain ⟨b, c', T', fz, g1, g2, g3, g4, g5⟩ := hs1.hp.tvar hi1
  have ch := zhW (w := w) hs1.hp hi1 (cs' := cs.set o (.bsl (fresh cx.fl s.h) 0)) (by simp) g1 (.cells c' T' fz)
  rw [zlE g2] at ch
  have hs2 := ch.sat (t := s.t) (g := s.g) hs1 (fun ob hob => by
    rw [zw hi1] at hob
    cases hob
    simp only [RepObj]
    refine ⟨b, c', T', fz, g1, g2, ?_, g4, g5⟩
    obtain ⟨v, hv, hvr⟩ := Reps.get g3 ho
    simp only [Rep] at hvr
    subst hvr
    have := g3.set (i := o) (a := .bsl (fresh cx.fl s.h) 0) (v := .slice none 0 0) (by
      simp only [Rep]
      refine ⟨⟨_, _, _, rfl⟩, 5, [], by simp [hget], by simp, fun _ => .inl ⟨⟨by simp [hE1, Env.set], trivial⟩, trivial⟩⟩)
    have e2 : c'.toList.set o (.slice none 0 0) = c'.toList := by
      obtain ⟨hlt, he⟩ := List.getElem?_eq_some_iff.1 hv
      rw [← he, List.set_getElem_self]
    rw [e2] at this
    exact ch.reps this)
  rw [← e1] at hs2
  refine wpIn_mono (h _ a w hs2) (fun _ _ _ hr => hr.trans (Evo.trans (cc.evo (.inr (zaD _ _))) ?_))
  rw [e1]
  exact ch.evo (.inl (by simp [hi1]))
end
open Go Go.Proofs
abbrev Txt := List UInt8
abbrev PutR := Int × Txt
def putD (q : PutR) : List D := [.int .i64 q.1, .str q.2]
theorem zif : ∀ a b, putD a = putD b → a = b := by
 rintro ⟨a, b⟩ ⟨a', b'⟩ h
 simpa [putD] using h
structure Disk where
 data : Txt
 cache : List PutR
 fuse : Int
 off : Bool
 bad : List Int
 deriving DecidableEq
def diskA (d : Disk) : AV := .agg [.d (.str d.data), .d (.sl 2 (d.cache.map putD)), .d (.int .i64 d.fuse), .d (.bool d.off), .d (.sl 1 (d.bad.map intD))]
attribute [go_sem] diskA
def diskC (d : Disk) : List AV := [.d (.str d.data), .d (.sl 2 (d.cache.map putD)), .d (.int .i64 d.fuse), .d (.bool d.off), .d (.sl 1 (d.bad.map intD))]
attribute [go_sem] diskC
theorem zig (d : Disk) : Disk.mk d.data d.cache d.fuse d.off d.bad = d := rfl
noncomputable def zN : PT Disk := aggT (consL strT (consL (slT 2 putD zif) (consL (intT .i64) (consL boolT (consL (slT 1 intD zbJ) nilL))))) (fun p => ⟨p.1, p.2.1, p.2.2.1, p.2.2.2.1, p.2.2.2.2.1⟩) (fun x => (x.data, x.cache, x.fuse, x.off, x.bad, ())) (fun _ => rfl)
attribute [go_sem] zN
noncomputable def zoi : PT Disk := dpT (consL strT (consL (slT 2 putD zif) (consL (intT .i64) (consL boolT (consL (slT 1 intD zbJ) nilL))))) (fun p => ⟨p.1, p.2.1, p.2.2.1, p.2.2.2.1, p.2.2.2.2.1⟩) (fun x => (x.data, x.cache, x.fuse, x.off, x.bad, ())) (fun _ => rfl)
attribute [go_sem] zoi
attribute [go_sem] zig
structure DiskOk (d : Disk) : Prop where
 data : d.data.length ≤ 9223372036854775807
 cache : d.cache.length ≤ 9223372036854775807
 bad : d.bad.length ≤ 9223372036854775807
 fuse0 : -9223372036854775808 ≤ d.fuse
 fuse1 : d.fuse ≤ 9223372036854775807
def dsize (d : Disk) : Nat := d.data.length / 64
def there (d : Disk) (at_ : Int) : Bool := decide (0 ≤ at_) && decide (at_ < (dsize d : Int))
theorem there_iff {d : Disk} {at_ : Int} : there d at_ = true ↔ 0 ≤ at_ ∧ at_ < ((d.data.length / 64 : Nat) : Int) := by
 rw [there, Bool.and_eq_true]
 exact and_congr decide_eq_true_iff decide_eq_true_iff
def zcJ (d : Disk) : List Int → Option Int → Bool
 | [], _ => true
 | a :: l, p => there d a && (match p with | none => true | some b => decide (b < a)) && zcJ d l (some a)
def putOk (d : Disk) (q : PutR) : Bool := there d q.1 && ((q.2.length : Int) == 64)
def dfit (d : Disk) : Bool :=
 decide (1 ≤ dsize d) && decide (dsize d ≤ 1024) && (d.data.length % 64 == 0) && decide (d.cache.length ≤ 4096) && d.cache.all (putOk d) && zcJ d d.bad none
def isPut (at_ : Int) (q : PutR) : Bool := q.1 == at_
def sees (d : Disk) (at_ : Int) : Txt :=
 match d.cache.reverse.find? (isPut at_) with
 | some q => q.2
 | none => (d.data.drop (at_ * 64).toNat).take 64
def dread (d : Disk) (at_ : Int) : Txt × Int :=
 if d.off then ([], 12) else if !there d at_ then ([], 10) else if d.bad.contains at_ then ([], 13) else (sees d at_, 0)
def burnt (d : Disk) : Disk := if 0 < d.fuse then { d with fuse := d.fuse - 1 } else d
def zP (d : Disk) (at_ : Int) (s : Txt) : Disk × Int :=
 if d.off then (d, 12) else if !there d at_ then (d, 10) else if (s.length : Int) ≠ 64 then (d, 11)
 else if d.fuse = 0 then ({ d with off := true }, 12) else if d.bad.contains at_ then (d, 13) else if 4096 ≤ (d.cache.length : Int) then (d, 16)
 else (burnt { d with cache := d.cache ++ [(at_, s)] }, 0)
def lay (b : Txt) (at_ : Nat) (s : Txt) : Txt := b.take at_ ++ s ++ b.drop (at_ + s.length)
def zdX (b : Txt) (l : List PutR) : Txt := l.foldl (fun b q => lay b (q.1 * 64).toNat q.2) b
def dflush (d : Disk) : Disk × Int :=
 if d.off then (d, 12) else if d.fuse = 0 then ({ d with off := true }, 12)
 else (burnt { d with data := zdX d.data d.cache, cache := [] }, 0)
def dnew (n : Int) : Disk × Int := if n < 1 ∨ 1024 < n then (⟨[], [], 0, false, []⟩, 11) else (⟨List.replicate (n * 64).toNat 0, [], -1, false, []⟩, 0)
theorem zsD {n : Nat} (h : n ≤ 9223372036854775807) : IntKind.i64.wrap ((n : Int).tdiv 64) = ((n / 64 : Nat) : Int) := by
 rw [Int.tdiv_eq_ediv_of_nonneg (by omega), IntKind.wrap_i64]; omega
theorem zk2 {d : Disk} (h : DiskOk d) : DiskOk (burnt d) := by
 obtain ⟨h1, h2, h3, h4, h5⟩ := h
 unfold burnt
 split
 ·exact ⟨h1, h2, h3, by simp only; omega, by simp only; omega⟩
 ·exact ⟨h1, h2, h3, h4, h5⟩
open Go Go.Proofs
theorem zoj (d : Disk) (hd : DiskOk d) : ACall Tryz.prog 64 0 [diskA d] [] (fun r _ => r = .d (.int .i64 (dsize d))) := by
 refine zk Tryz.func64 rfl (zv Tryz.func64 (by kernel_rfl) rfl) Tryz.ntmps64 (by simp) (fun base => ?_)
 repeat' (first | ((first | refine za noTab (zb _) (fun K hK => ?_) | refine zc noTab (zb _) ?_ | refine zh ?_ | refine zi ?_ | refine zn ?_); simp only [go_sem, aeq, aeq.aeqF, simprocAttr, zsD hd.data, Tryz.results64]) | refine zq (fun K hK => ?_) | (refine hK _ ?_; clear hK K) | with_reducible refine And.intro ?_ ?_ | omega | assumption | clear hK K)
 rfl
noncomputable def za6 : Ent Tryz.prog := .ofL 64 (consL zN nilL) (fun (d, _) => DiskOk d) (fun (d, _) => .d (.int .i64 (dsize d))) (fun (d, _) hp => ⟨rfl, zoj d hp⟩)
attribute [go_sem] za6
noncomputable def tab1a : Tab := tabOf [za6]
theorem zk6 : TabOk Tryz.prog tab1a := zA _
@[go_sem] theorem zok (args : List AV) : tab1a 64 args = (za6).e args := rfl
theorem zl3 (d : Disk) (at_ : Int) (hd : DiskOk d) : ACall Tryz.prog 102 0 [diskA d, .d (.int .i64 at_)] [] (fun r _ => r = .d (.bool (there d at_))) := by
 refine zk Tryz.func102 rfl (zv Tryz.func102 (by kernel_rfl) rfl) Tryz.ntmps102 (by simp) (fun base => ?_)
 repeat' (first | ((first | refine za tab1a (zk6) (fun K hK => ?_) | refine zc tab1a (zk6) ?_ | refine zh ?_ | refine zi ?_ | refine zn ?_); simp only [go_sem, aeq, aeq.aeqF, simprocAttr, Tryz.results102]) | refine zq (fun K hK => ?_) | (refine hK _ ?_; clear hK K) | with_reducible refine And.intro ?_ ?_ | omega | assumption | refine fun (hg : (_ : Bool) = (_ : Bool)) => ?_ | clear hK K)
 rfl
noncomputable def zbx : Ent Tryz.prog := .ofL 102 (consL zN (consL (intT .i64) nilL)) (fun (d, at_, _) => DiskOk d) (fun (d, at_, _) => .d (.bool (there d at_))) (fun (d, at_, _) hp => ⟨rfl, zl3 d at_ hp⟩)
attribute [go_sem] zbx
theorem zqV (d : Disk) (at_ : Int) (hd : DiskOk d) : ACall Tryz.prog 103 0 [diskA d, .d (.int .i64 at_)] [] (fun r _ => r = .d (.bool (d.bad.contains at_))) := by
 refine zk Tryz.func103 rfl (zv Tryz.func103 (by kernel_rfl) rfl) Tryz.ntmps103 (by simp) (fun base => ?_)
 repeat' (first | ((first | refine za noTab (zb _) (fun K hK => ?_) | refine zc noTab (zb _) ?_ | refine zh ?_ | refine zi ?_ | refine zn ?_); simp only [go_sem, aeq, aeq.aeqF, simprocAttr, Tryz.results103]) | refine zq (fun K hK => ?_) | refine zp ?_ | refine zf rfl ?_ | refine zg rfl ?_ | refine zo rfl (fun hc => ?_) (fun hc => ?_) | (refine hK _ ?_; clear hK K) | with_reducible refine And.intro ?_ ?_ | omega | assumption | clear hK K)
 have hb := hd.bad
 refine zO (fun q : { i : Nat // i ≤ d.bad.length ∧ d.bad.contains at_ = (d.bad.drop i).contains at_ } => ⟨[(1, true, .d (.int .i64 at_)), (2, true, .vp 0 0), (5, true, .d (.int .i64 q.1))], [(0, .var [.d (.str d.data), .d (.sl 2 (d.cache.map putD)), .d (.int .i64 d.fuse), .d (.bool d.off), .d (.sl 1 (d.bad.map intD))])], some []⟩) (fun q => d.bad.length - q.1) ⟨0, Nat.zero_le _, rfl⟩ (by simp only [AS.le, leT, leH, zr, AsgK, AV.le, AV.leL, AObj.le, inH, idsT, idsH, AV.ids, AV.idsL, AV.idsR, AObj.ids, lk, hget, go_sem, aeq, aeq.aeqF, simprocAttr] <;> and_intros <;> rfl) (fun q => ?_)
 obtain ⟨i, hi, hf⟩ := q
 simp only at hi hf ⊢
 rcases zaw intD d.bad i hi with ⟨m, hq, hlt, hcmp, hrow, hdr, htk⟩ | ⟨hend, hcmp⟩
 ·simp only [intD] at hrow
  have hwi := zV (i := i) (by omega)
  rw [hdr, List.contains_cons] at hf
  repeat' (first | ((first | refine za noTab (zb _) (fun K hK => ?_) | refine zc noTab (zb _) ?_ | refine zh ?_ | refine zi ?_ | refine zn ?_); simp only [go_sem, aeq, aeq.aeqF, simprocAttr, hcmp, hrow, Tryz.results103]) | refine zq (fun K hK => ?_) | refine zp ?_ | refine zf rfl ?_ | refine zg rfl ?_ | refine zo rfl (fun hc => ?_) (fun hc => ?_) | (refine hK _ ?_; clear hK K) | with_reducible refine And.intro ?_ ?_ | omega | assumption | clear hK K)
  ·rw [hf, BEq.comm, hc]; rfl
  ·rw [BEq.comm, hc, Bool.false_or] at hf
   exact ⟨⟨i + 1, by omega, hf⟩, by simp only [AS.le, leT, leH, zr, AsgK, AV.le, AV.leL, AObj.le, inH, idsT, idsH, AV.ids, AV.idsL, AV.idsR, AObj.ids, lk, hget, go_sem, aeq, aeq.aeqF, simprocAttr, hwi], by simp; omega⟩
 ·repeat' (first | ((first | refine za noTab (zb _) (fun K hK => ?_) | refine zc noTab (zb _) ?_ | refine zh ?_ | refine zi ?_ | refine zn ?_); simp only [go_sem, aeq, aeq.aeqF, simprocAttr, hcmp, Tryz.results103]) | refine zq (fun K hK => ?_) | refine zp ?_ | refine zf rfl ?_ | refine zg rfl ?_ | refine zo rfl (fun hc => ?_) (fun hc => ?_) | (refine hK _ ?_; clear hK K) | with_reducible refine And.intro ?_ ?_ | omega | assumption | clear hK K)
  rw [hf, hend, List.drop_length]
  rfl
noncomputable def zfc : Ent Tryz.prog := .ofL 103 (consL zN (consL (intT .i64) nilL)) (fun (d, at_, _) => DiskOk d) (fun (d, at_, _) => .d (.bool (d.bad.contains at_))) (fun (d, at_, _) hp => ⟨rfl, zqV d at_ hp⟩)
attribute [go_sem] zfc
theorem zl4 (d : Disk) (hd : DiskOk d) : ACall Tryz.prog 104 0 [diskA d] [] (fun r _ => r = diskA (burnt d)) := by
 refine zz ?_
 refine zk Tryz.func104 rfl (zv Tryz.func104 (by kernel_rfl) rfl) Tryz.ntmps104 (by simp) (fun base => ?_)
 have h1 := hd.fuse1
 repeat' (first | ((first | refine za noTab (zb _) (fun K hK => ?_) | refine zc noTab (zb _) ?_ | refine zh ?_ | refine zi ?_ | refine zn ?_); simp only [go_sem, aeq, aeq.aeqF, simprocAttr, Tryz.results104]) | refine zq (fun K hK => ?_) | refine zf rfl ?_ | refine zg rfl ?_ | refine zo rfl (fun hc => ?_) (fun hc => ?_) | (refine hK _ ?_; clear hK K) | with_reducible refine And.intro ?_ ?_ | omega | assumption | clear hK K)
 ·have h0 : 0 < d.fuse := by simpa using hc
  rw [burnt, if_pos h0, zD (by omega) (by omega)]
 ·have h0 : ¬ 0 < d.fuse := by simpa using hc
  rw [burnt, if_neg h0]
noncomputable def zdi : Ent Tryz.prog := .ofL 104 (consL zN nilL) (fun (d, _) => DiskOk d) (fun (d, _) => diskA (burnt d)) (fun (d, _) hp => ⟨rfl, zl4 d hp⟩)
attribute [go_sem] zdi
theorem zqW {l : List PutR} {i : Nat} {q : PutR} {at_ : Int} (hq : l[i]? = some q) : (l.take (i + 1)).reverse.find? (isPut at_) = if q.1 = at_ then some q else (l.take i).reverse.find? (isPut at_) := by
 rw [zch hq, List.reverse_append, List.reverse_singleton, List.singleton_append, List.find?_cons]
 by_cases h : q.1 = at_
 ·simp [isPut, h]
 ·have : isPut at_ q = false := by simp [isPut, h]
  rw [this, if_neg h]
theorem zol (d : Disk) (at_ : Int) (hd : DiskOk d) (ht : there d at_ = true) : ACall Tryz.prog 145 0 [diskA d, .d (.int .i64 at_)] [] (fun r _ => r = .d (.str (sees d at_))) := by
 refine zk Tryz.func145 rfl (zv Tryz.func145 (by kernel_rfl) rfl) Tryz.ntmps145 (by simp) (fun base => ?_)
 repeat' (first | ((first | refine za noTab (zb _) (fun K hK => ?_) | refine zc noTab (zb _) ?_ | refine zh ?_ | refine zi ?_ | refine zn ?_); simp only [go_sem, aeq, aeq.aeqF, simprocAttr, Tryz.results145]) | refine zq (fun K hK => ?_) | refine zp ?_ | refine zf rfl ?_ | refine zg rfl ?_ | refine zo rfl (fun hc => ?_) (fun hc => ?_) | (refine hK _ ?_; clear hK K) | with_reducible refine And.intro ?_ ?_ | omega | assumption | clear hK K)
 have hcl := hd.cache
 have hdl := hd.data
 have hw0 : IntKind.i64.wrap ((d.cache.length : Int) - 1) = (d.cache.length : Int) - 1 := zD (by omega) (by omega)
 refine zO (fun q : { i : Nat // i ≤ d.cache.length ∧ d.cache.reverse.find? (isPut at_) = (d.cache.take i).reverse.find? (isPut at_) } => ⟨[(1, true, .d (.int .i64 at_)), (2, true, .vp 0 0), (5, true, .d (.int .i64 ((q.1 : Int) - 1)))], [(0, .var [.d (.str d.data), .d (.sl 2 (d.cache.map putD)), .d (.int .i64 d.fuse), .d (.bool d.off), .d (.sl 1 (d.bad.map intD))])], some []⟩) (fun q => q.1) ⟨d.cache.length, Nat.le_refl _, by rw [zdL]⟩ (by simp only [AS.le, leT, leH, zr, AsgK, AV.le, AV.leL, AObj.le, inH, idsT, idsH, AV.ids, AV.idsL, AV.idsR, AObj.ids, lk, hget, go_sem, aeq, aeq.aeqF, simprocAttr, hw0]) (fun q => ?_)
 obtain ⟨i, hi, hf⟩ := q
 simp only at hi hf ⊢
 cases i with
 | zero =>
  have hz : decide ((0 : Int) ≤ ((0 : Nat) : Int) - 1) = false := by decide
  obtain ⟨ht0, ht1⟩ := there_iff.mp ht
  have hm : IntKind.i64.wrap (at_ * 64) = at_ * 64 := zD (by omega) (by omega)
  have hm1 : IntKind.i64.wrap (at_ + 1) = at_ + 1 := zD (by omega) (by omega)
  have hm2 : IntKind.i64.wrap ((at_ + 1) * 64) = (at_ + 1) * 64 := zD (by omega) (by omega)
  have hs : (d.data.take ((at_ + 1) * 64).toNat).drop (at_ * 64).toNat = sees d at_ := by
   rw [sees, hf, List.take_zero, List.reverse_nil, List.find?_nil, List.drop_take]
   congr 1; omega
  repeat' (first | ((first | refine za noTab (zb _) (fun K hK => ?_) | refine zc noTab (zb _) ?_ | refine zh ?_ | refine zi ?_ | refine zn ?_); simp only [go_sem, aeq, aeq.aeqF, simprocAttr, hz, hm, hm1, hm2, hs, Tryz.results145]) | refine zq (fun K hK => ?_) | refine zp ?_ | refine zf rfl ?_ | refine zg rfl ?_ | refine zo rfl (fun hc => ?_) (fun hc => ?_) | (refine hK _ ?_; clear hK K) | with_reducible refine And.intro ?_ ?_ | omega | assumption | clear hK K)
 | succ i =>
  have hz : decide ((0 : Int) ≤ ((i + 1 : Nat) : Int) - 1) = true := decide_eq_true (by omega)
  have hi1 : (((i + 1 : Nat) : Int) - 1) = (i : Int) := by omega
  have hwi : IntKind.i64.wrap ((i : Int) - 1) = (i : Int) - 1 := zD (by omega) (by omega)
  obtain ⟨⟨n, s⟩, hq⟩ := zau (l := d.cache) (i := i) (by omega)
  have hrow := zbT (g := putD) hq
  simp only [putD] at hrow
  rw [zqW hq] at hf
  repeat' (first | ((first | refine za noTab (zb _) (fun K hK => ?_) | refine zc noTab (zb _) ?_ | refine zh ?_ | refine zi ?_ | refine zn ?_); simp only [go_sem, aeq, aeq.aeqF, simprocAttr, hz, hi1, hrow, Int.toNat_natCast, Tryz.results145]) | refine zq (fun K hK => ?_) | refine zp ?_ | refine zf rfl ?_ | refine zg rfl ?_ | refine zo rfl (fun hc => ?_) (fun hc => ?_) | (refine hK _ ?_; clear hK K) | with_reducible refine And.intro ?_ ?_ | omega | assumption | clear hK K)
  ·have hn : n = at_ := by simpa using hc
   rw [sees, hf, if_pos hn]
  ·have hn : ¬ n = at_ := by simpa using hc
   rw [if_neg hn] at hf
   exact ⟨⟨i, by omega, hf⟩, by simp only [AS.le, leT, leH, zr, AsgK, AV.le, AV.leL, AObj.le, inH, idsT, idsH, AV.ids, AV.idsL, AV.idsR, AObj.ids, lk, hget, go_sem, aeq, aeq.aeqF, simprocAttr, hwi], by simp⟩
noncomputable def zd7 : Ent Tryz.prog := .ofL 145 (consL zN (consL (intT .i64) nilL)) (fun (d, at_, _) => (DiskOk d) ∧ (there d at_ = true)) (fun (d, at_, _) => .d (.str (sees d at_))) (fun (d, at_, _) hp => ⟨rfl, zol d at_ hp.1 hp.2⟩)
attribute [go_sem] zd7
open Go Go.Proofs
noncomputable def tab1b : Tab := tabOf [zbx, zfc, zdi, zd7]
theorem zdN : TabOk Tryz.prog tab1b := zA _
@[go_sem] theorem zne (args : List AV) : tab1b 102 args = (zbx).e args := rfl
@[go_sem] theorem zp9 (args : List AV) : tab1b 103 args = (zfc).e args := rfl
@[go_sem] theorem znf (args : List AV) : tab1b 104 args = (zdi).e args := rfl
@[go_sem] theorem zom (args : List AV) : tab1b 145 args = (zd7).e args := rfl
theorem zon (d : Disk) (at_ : Int) (hd : DiskOk d) : ACall Tryz.prog 93 0 [diskA d, .d (.int .i64 at_)] [] (fun r _ => r = .tup [.d (.str (dread d at_).1), .d (.int .i64 (dread d at_).2)]) := by
 refine zk Tryz.func93 rfl (zv Tryz.func93 (by kernel_rfl) rfl) Tryz.ntmps93 (by simp) (fun base => ?_)
 repeat' (first | ((first | refine za tab1b (zdN) (fun K hK => ?_) | refine zc tab1b (zdN) ?_ | refine zh ?_ | refine zi ?_ | refine zn ?_); simp only [go_sem, aeq, aeq.aeqF, simprocAttr, Tryz.results93]) | refine zq (fun K hK => ?_) | refine zf rfl ?_ | refine zg rfl ?_ | refine zo rfl (fun hc => ?_) (fun hc => ?_) | (refine hK _ ?_; clear hK K) | with_reducible refine And.intro ?_ ?_ | omega | assumption | clear hK K)
 all_goals simp_all [dread]
noncomputable def zd8 : Ent Tryz.prog := .ofL 93 (consL zN (consL (intT .i64) nilL)) (fun (d, at_, _) => DiskOk d) (fun (d, at_, _) => .tup [.d (.str (dread d at_).1), .d (.int .i64 (dread d at_).2)]) (fun (d, at_, _) hp => ⟨rfl, zon d at_ hp⟩)
attribute [go_sem] zd8
theorem zbg (l : List UInt8) : (zy l).all ziK = true := by
 simp [zy, zdb, ziK, List.all_map]
theorem zar (l : List UInt8) : bytesOf (zy l) = l := by
 unfold bytesOf zy
 rw [List.map_map]
 have : ((fun r => UInt8.ofNat (numOf r).toNat) ∘ zdb) = id := by
  funext b; simp [zdb, numOf]
 rw [this, List.map_id]
theorem zdO (m : Nat) : List.replicate m [D.int .u8 0] = zy (List.replicate m 0) := by
 rw [zy, List.map_replicate]; rfl
theorem zi2 (m : Nat) : List.take m (zy (List.replicate m 0)) = zy (List.replicate m 0) := by
 exact List.take_of_length_le (by simp [zy])
theorem zk7 (m : Nat) : (m = (zy (List.replicate m 0)).length) = True := by
 simp [zy]
theorem zqX (n : Int) : ACall Tryz.prog 76 0 [.d (.int .i64 n)] [] (fun r _ => r = .tup [diskA (dnew n).1, .d (.int .i64 (dnew n).2)]) := by
 refine zz ?_
 refine zk Tryz.func76 rfl (zv Tryz.func76 (by kernel_rfl) rfl) Tryz.ntmps76 (by simp) (fun base => ?_)
 by_cases h : n < 1 ∨ 1024 < n
 ·have hdec : (decide (n < 1) || decide (1024 < n)) = true := by simpa using h
  repeat' (first | ((first | refine za noTab (zb _) (fun K hK => ?_) | refine zc noTab (zb _) ?_ | refine zh ?_ | refine zi ?_ | refine zn ?_); simp only [go_sem, aeq, aeq.aeqF, simprocAttr, hdec, Tryz.results76]) | refine zq (fun K hK => ?_) | refine zf rfl ?_ | refine zg rfl ?_ | refine zo rfl (fun hc => ?_) (fun hc => ?_) | (refine hK _ ?_; clear hK K) | with_reducible refine And.intro ?_ ?_ | omega | assumption | refine fun (hg : (_ : Bool) = (_ : Bool)) => ?_ | clear hK K)
  rw [dnew, if_pos h]; rfl
 ·have hdec : (decide (n < 1) || decide (1024 < n)) = false := by simpa using h
  have hm : IntKind.i64.wrap (n * 64) = n * 64 := zD (by omega) (by omega)
  repeat' (first | ((first | refine za noTab (zb _) (fun K hK => ?_) | refine zc noTab (zb _) ?_ | refine zh ?_ | refine zi ?_ | refine zn ?_); simp only [go_sem, aeq, aeq.aeqF, simprocAttr, hdec, hm, zdO, zi2, zk7, if_true, Tryz.results76]) | refine zq (fun K hK => ?_) | refine zf rfl ?_ | refine zg rfl ?_ | refine zo rfl (fun hc => ?_) (fun hc => ?_) | (refine hK _ ?_; clear hK K) | with_reducible refine And.intro ?_ ?_ | omega | assumption | refine fun (hg : (_ : Bool) = (_ : Bool)) => ?_ | clear hK K)
  ·exact zbg _
  ·rw [dnew, if_neg h, zar]; rfl
noncomputable def zfd : Ent Tryz.prog := .ofL 76 (consL (intT .i64) nilL) (fun (n, _) => True) (fun (n, _) => .tup [diskA (dnew n).1, .d (.int .i64 (dnew n).2)]) (fun (n, _) hp => ⟨rfl, zqX n⟩)
attribute [go_sem] zfd
theorem zl5 (d : Disk) (at_ : Int) (s : Txt) (hd : DiskOk d) : ACall Tryz.prog 46 0 [diskA d, .d (.int .i64 at_), .d (.str s)] [] (fun r _ => r = .tup [diskA (zP d at_ s).1, .d (.int .i64 (zP d at_ s).2)]) := by
 refine zz ?_
 refine zk Tryz.func46 rfl (zv Tryz.func46 (by kernel_rfl) rfl) Tryz.ntmps46 (by simp) (fun base => ?_)
 repeat' ((fail_if_success refine hds 17 (by rfl) ?_); first | ((first | refine za tab1b (zdN) (fun K hK => ?_) | refine zc tab1b (zdN) ?_ | refine zh ?_ | refine zi ?_ | refine zn ?_); simp only [go_sem, aeq, aeq.aeqF, simprocAttr, Tryz.results46]) | refine zq (fun K hK => ?_) | refine zf rfl ?_ | refine zg rfl ?_ | refine zo rfl (fun hc => ?_) (fun hc => ?_) | (refine hK _ ?_; clear hK K) | refine fun (nb : Bool) (hnb : nb = true → _) => ?_ | with_reducible refine And.intro ?_ ?_ | omega | assumption | clear hK K)
 all_goals first | (simp_all [zP]; done) | (simp_all; omega) | skip
 have hk : DiskOk { d with cache := d.cache ++ [(at_, s)] } := ⟨hd.data, by simp_all; omega, hd.bad, hd.fuse0, hd.fuse1⟩
 have hr : d.cache.map putD ++ [[.int .i64 at_, .str s]] = (d.cache ++ [(at_, s)]).map putD := by simp [putD]
 have hl : (d.cache.length + 1 = (d.cache ++ [(at_, s)]).length) = True := by simp
 have htk : List.take (d.cache.length + 1) ((d.cache ++ [(at_, s)]).map putD) = (d.cache ++ [(at_, s)]).map putD := List.take_of_length_le (by simp)
 refine zn6 2 rfl ?_; simp only [go_sem, aeq, aeq.aeqF, simprocAttr,  hr, hl, htk]
 repeat' (first | ((first | refine za tab1b (zdN) (fun K hK => ?_) | refine zc tab1b (zdN) ?_ | refine zh ?_ | refine zi ?_ | refine zn ?_); simp only [go_sem, aeq, aeq.aeqF, simprocAttr, Tryz.results46]) | refine zq (fun K hK => ?_) | refine zf rfl ?_ | refine zg rfl ?_ | refine zo rfl (fun hc => ?_) (fun hc => ?_) | (refine hK _ ?_; clear hK K) | refine fun (nb : Bool) (hnb : nb = true → _) => ?_ | with_reducible refine And.intro ?_ ?_ | omega | assumption | clear hK K)
 clear hr hl htk hk
 by_cases h6 : 4096 ≤ (d.cache.length : Int)
 ·exfalso; simp_all
 ·simp only [zP, if_neg h6]; simp_all
noncomputable def zdj : Ent Tryz.prog := .ofL 46 (consL zN (consL (intT .i64) (consL strT nilL))) (fun (d, at_, s, _) => DiskOk d) (fun (d, at_, s, _) => .tup [diskA (zP d at_ s).1, .d (.int .i64 (zP d at_ s).2)]) (fun (d, at_, s, _) hp => ⟨rfl, zl5 d at_ s hp⟩)
attribute [go_sem] zdj
theorem zqY (b : Txt) (k : Nat) (s : Txt) : rput (zy b) k (zy s) = zy (lay b k s) := by
 simp [rput, lay, zy, List.map_append, List.map_take, List.map_drop]
theorem zoo {b : Txt} {k : Nat} {s : Txt} (h : k + s.length ≤ b.length) : (lay b k s).length = b.length := by
 simp [lay]; omega
theorem zop {b : Txt} {l : List PutR} {i : Nat} {q : PutR} (hq : l[i]? = some q) : zdX b (l.take (i + 1)) = lay (zdX b (l.take i)) (q.1 * 64).toNat q.2 := by
 simp [zdX, zch hq, List.foldl_append]
theorem zum {d : Disk} {i : Nat} {q : PutR} (hf : d.cache.all (putOk d) = true) (hq : d.cache[i]? = some q) : 0 ≤ q.1 ∧ q.1 < ((d.data.length / 64 : Nat) : Int) ∧ q.2.length = 64 := by
 have := List.all_eq_true.1 hf q (List.mem_of_getElem? hq)
 rw [putOk, Bool.and_eq_true] at this
 obtain ⟨h1, h2⟩ := this
 exact ⟨(there_iff.1 h1).1, (there_iff.1 h1).2, by have := eq_of_beq h2; omega⟩
theorem zgB {d : Disk} : ∀ (l : List PutR) (b : Txt), b.length = d.data.length → l.all (putOk d) = true → (zdX b l).length = b.length
 | [], _, _, _ => rfl
 | q :: l, b, hb, h => by
  rw [List.all_cons, Bool.and_eq_true] at h
  obtain ⟨h1, h2⟩ := h
  rw [putOk, Bool.and_eq_true] at h1
  have h3 := there_iff.1 h1.1
  have h4 : q.2.length = 64 := by have := eq_of_beq h1.2; omega
  have h5 : (lay b (q.1 * 64).toNat q.2).length = b.length := zoo (by omega)
  rw [zdX, List.foldl_cons]
  exact (zgB l _ (h5.trans hb) h2).trans h5
theorem zl6 {d : Disk} (h : d.cache.all (putOk d) = true) : (zdX d.data d.cache).length = d.data.length := zgB (d := d) _ _ rfl h
open Go Go.Proofs
theorem eq_ne {α : Type} {a b : List α} {i : Nat} {q q' : α} (hq : a[i]? = some q) (hq' : b[i]? = some q') (h : q ≠ q') : a ≠ b := by
 rintro rfl
 rw [hq] at hq'
 exact h (Option.some.inj hq')
theorem zoq {α : Type} {a b : List α} {i : Nat} {q q' : α} (hq : a[i]? = some q) (hq' : b[i]? = some q') (h : q = q') (hf : a.take i = b.take i) : a.take (i + 1) = b.take (i + 1) := by
 rw [zch hq, zch hq', hf, h]
theorem zsE {α : Type} {a b : List α} {i : Nat} (hi : i = a.length) (hl : a.length = b.length) (hf : a.take i = b.take i) : a = b := by
 subst hi
 rwa [zdL, hl, zdL] at hf
abbrev Eqst {α : Type} (a b : List α) := { i : Nat // i ≤ a.length ∧ a.take i = b.take i }
theorem zor (a : Disk) (b : Disk) (ha : DiskOk a) (hb : DiskOk b) : ACall Tryz.prog 51 0 [diskA a, diskA b] [] (fun r _ => r = .d (.bool (decide (a = b)))) := by
 refine zk Tryz.func51 rfl (zv Tryz.func51 (by kernel_rfl) rfl) Tryz.ntmps51 (by simp) (fun base => ?_)
 repeat' (first | ((first | refine za noTab (zb _) (fun K hK => ?_) | refine zc noTab (zb _) ?_ | refine ze noTab (zb _) mx (fun K hK => ?_) | refine zj noTab (zb _) mx ?_ | refine zh ?_ | refine zi ?_ | refine zn ?_); simp only [go_sem, aeq, aeq.aeqF, simprocAttr, Tryz.results51]) | refine zq (fun K hK => ?_) | refine zp ?_ | refine zf rfl ?_ | refine zg rfl ?_ | refine zo rfl (fun hc => ?_) (fun hc => ?_) | (refine hK _ ?_; clear hK K) | with_reducible refine And.intro ?_ ?_ | (refine (show zt _ _ = true from ?_); kernel_rfl) | omega | assumption | refine fun (hg : (_ : Bool) = (_ : Bool)) => ?_ | clear hK K)
 ·have : a ≠ b := by rintro rfl; simp at hc
  rw [decide_eq_false this]
 have hac := ha.cache
 have hab := ha.bad
 obtain ⟨h1, h2, h3, h4, h5⟩ : a.data = b.data ∧ a.cache.length = b.cache.length ∧ a.fuse = b.fuse ∧ a.off = b.off ∧ a.bad.length = b.bad.length := by
  simp only [Bool.or_eq_false_iff, bne_eq_false_iff_eq, Int.natCast_inj] at hc
  exact ⟨hc.1.1.1.1, hc.1.1.1.2, hc.1.1.2, hc.1.2, hc.2⟩
 refine zO (fun q : Eqst a.cache b.cache => ⟨[(2, true, .vp 0 0), (3, true, .vp 1 0), (5, true, .d (.int .i64 q.1))], [(1, (.var [.d (.str b.data), .d (.sl 2 (b.cache.map putD)), .d (.int .i64 b.fuse), .d (.bool b.off), .d (.sl 1 (b.bad.map intD))])), (0, (.var [.d (.str a.data), .d (.sl 2 (a.cache.map putD)), .d (.int .i64 a.fuse), .d (.bool a.off), .d (.sl 1 (a.bad.map intD))]))], some []⟩) (fun q => a.cache.length - q.1) ⟨0, Nat.zero_le _, rfl⟩ (by simp only [AS.le, leT, leH, zr, AsgK, AV.le, AV.leL, AObj.le, inH, idsT, idsH, AV.ids, AV.idsL, AV.idsR, AObj.ids, lk, hget, go_sem, aeq, aeq.aeqF, simprocAttr] <;> and_intros <;> rfl) (fun q => ?_)
 obtain ⟨i, hi, hf⟩ := q
 simp only at hi hf ⊢
 rcases zaw putD a.cache i hi with ⟨⟨m, s⟩, hq, hlt, hcmp, hrow, hdr, htk⟩ | ⟨hend, hcmp⟩
 ·obtain ⟨⟨m', s'⟩, hq'⟩ := zau (l := b.cache) (i := i) (by omega)
  have hrow' := zbT (g := putD) hq'
  simp only [putD] at hrow hrow'
  have hwi := zV (i := i) (by omega)
  repeat' (first | ((first | refine za noTab (zb _) (fun K hK => ?_) | refine zc noTab (zb _) ?_ | refine ze noTab (zb _) mx (fun K hK => ?_) | refine zj noTab (zb _) mx ?_ | refine zh ?_ | refine zi ?_ | refine zn ?_); simp only [go_sem, aeq, aeq.aeqF, simprocAttr, hcmp, hrow, hrow', Tryz.results51]) | refine zq (fun K hK => ?_) | refine zp ?_ | refine zf rfl ?_ | refine zg rfl ?_ | refine zo rfl (fun hc => ?_) (fun hc => ?_) | (refine hK _ ?_; clear hK K) | with_reducible refine And.intro ?_ ?_ | (refine (show zt _ _ = true from ?_); kernel_rfl) | omega | assumption | refine fun (hg : (_ : Bool) = (_ : Bool)) => ?_ | clear hK K)
  ·have : a ≠ b := by
    rintro rfl
    refine eq_ne hq hq' ?_ rfl
    intro h
    cases h
    simp at hc
   rw [decide_eq_false this]
  ·have hc : m = m' ∧ s = s' := by simpa using hc
   exact ⟨⟨i + 1, by omega, zoq hq hq' (by rw [hc.1, hc.2]) hf⟩, by simp only [AS.le, leT, leH, zr, AsgK, AV.le, AV.leL, AObj.le, inH, idsT, idsH, AV.ids, AV.idsL, AV.idsR, AObj.ids, lk, hget, go_sem, aeq, aeq.aeqF, simprocAttr, hwi], by simp; omega⟩
 ·have hce := zsE hend h2 hf
  repeat' (first | ((first | refine za noTab (zb _) (fun K hK => ?_) | refine zc noTab (zb _) ?_ | refine ze noTab (zb _) mx (fun K hK => ?_) | refine zj noTab (zb _) mx ?_ | refine zh ?_ | refine zi ?_ | refine zn ?_); simp only [go_sem, aeq, aeq.aeqF, simprocAttr, hcmp, Tryz.results51]) | refine zq (fun K hK => ?_) | refine zp ?_ | refine zf rfl ?_ | refine zg rfl ?_ | refine zo rfl (fun hc => ?_) (fun hc => ?_) | (refine hK _ ?_; clear hK K) | with_reducible refine And.intro ?_ ?_ | (refine (show zt _ _ = true from ?_); kernel_rfl) | omega | assumption | refine fun (hg : (_ : Bool) = (_ : Bool)) => ?_ | clear hK K)
  refine zO (fun q : Eqst a.bad b.bad => ⟨[(2, true, .vp 0 0), (3, true, .vp 1 0), (6, true, .d (.int .i64 q.1))], [(1, (.var [.d (.str b.data), .d (.sl 2 (b.cache.map putD)), .d (.int .i64 b.fuse), .d (.bool b.off), .d (.sl 1 (b.bad.map intD))])), (0, (.var [.d (.str a.data), .d (.sl 2 (a.cache.map putD)), .d (.int .i64 a.fuse), .d (.bool a.off), .d (.sl 1 (a.bad.map intD))]))], some []⟩) (fun q => a.bad.length - q.1) ⟨0, Nat.zero_le _, rfl⟩ (by simp only [AS.le, leT, leH, zr, AsgK, AV.le, AV.leL, AObj.le, inH, idsT, idsH, AV.ids, AV.idsL, AV.idsR, AObj.ids, lk, hget, go_sem, aeq, aeq.aeqF, simprocAttr] <;> and_intros <;> rfl) (fun q => ?_)
  obtain ⟨j, hj, hg⟩ := q
  simp only at hj hg ⊢
  rcases zaw intD a.bad j hj with ⟨m, hq, hlt, hcmp, hrow, hdr, htk⟩ | ⟨hend, hcmp⟩
  ·obtain ⟨m', hq'⟩ := zau (l := b.bad) (i := j) (by omega)
   have hrow' := zbT (g := intD) hq'
   simp only [intD] at hrow hrow'
   have hwi := zV (i := j) (by omega)
   repeat' (first | ((first | refine za noTab (zb _) (fun K hK => ?_) | refine zc noTab (zb _) ?_ | refine ze noTab (zb _) mx (fun K hK => ?_) | refine zj noTab (zb _) mx ?_ | refine zh ?_ | refine zi ?_ | refine zn ?_); simp only [go_sem, aeq, aeq.aeqF, simprocAttr, hcmp, hrow, hrow', Tryz.results51]) | refine zq (fun K hK => ?_) | refine zp ?_ | refine zf rfl ?_ | refine zg rfl ?_ | refine zo rfl (fun hc => ?_) (fun hc => ?_) | (refine hK _ ?_; clear hK K) | with_reducible refine And.intro ?_ ?_ | (refine (show zt _ _ = true from ?_); kernel_rfl) | omega | assumption | refine fun (hg : (_ : Bool) = (_ : Bool)) => ?_ | clear hK K)
   ·have : a ≠ b := by
     rintro rfl
     refine eq_ne hq hq' ?_ rfl
     intro h
     cases h
     simp at hc
    rw [decide_eq_false this]
   ·have hmm : m = m' := by simpa using hc
    exact ⟨⟨j + 1, by omega, zoq hq hq' hmm hg⟩, by simp only [AS.le, leT, leH, zr, AsgK, AV.le, AV.leL, AObj.le, inH, idsT, idsH, AV.ids, AV.idsL, AV.idsR, AObj.ids, lk, hget, go_sem, aeq, aeq.aeqF, simprocAttr, hwi], by simp; omega⟩
  ·have hbe := zsE hend h5 hg
   repeat' (first | ((first | refine za noTab (zb _) (fun K hK => ?_) | refine zc noTab (zb _) ?_ | refine ze noTab (zb _) mx (fun K hK => ?_) | refine zj noTab (zb _) mx ?_ | refine zh ?_ | refine zi ?_ | refine zn ?_); simp only [go_sem, aeq, aeq.aeqF, simprocAttr, hcmp, Tryz.results51]) | refine zq (fun K hK => ?_) | refine zp ?_ | refine zf rfl ?_ | refine zg rfl ?_ | refine zo rfl (fun hc => ?_) (fun hc => ?_) | (refine hK _ ?_; clear hK K) | with_reducible refine And.intro ?_ ?_ | (refine (show zt _ _ = true from ?_); kernel_rfl) | omega | assumption | refine fun (hg : (_ : Bool) = (_ : Bool)) => ?_ | clear hK K)
   have : a = b := by
    rw [← zig a, ← zig b, h1, hce, h3, h4, hbe]
   rw [decide_eq_true this]
noncomputable def zd9 : Ent Tryz.prog := .ofL 51 (consL zN (consL zN nilL)) (fun (a, b, _) => (DiskOk a) ∧ (DiskOk b)) (fun (a, b, _) => .d (.bool (decide (a = b)))) (fun (a, b, _) hp => ⟨rfl, zor a b hp.1 hp.2⟩)
attribute [go_sem] zd9
theorem zos {n : Nat} : ((n : Int).tmod 64 != 0) = !(n % 64 == 0) := by
 rw [Int.tmod_eq_emod_of_nonneg (by omega)]
 by_cases h : n % 64 = 0
 ·have : (n : Int) % 64 = 0 := by omega
  simp [h, this]
 ·have : ¬ (n : Int) % 64 = 0 := by omega
  rw [bne, beq_eq_false_iff_ne.mpr this, beq_eq_false_iff_ne.mpr h]
theorem zsF {x : Bool} {n m : Int} : (!x || (n != m)) = !(x && (n == m)) := by
 rw [Bool.not_and]; rfl
theorem or_le {x : Bool} {n m : Int} : (!x || decide (n ≤ m)) = !(x && decide (m < n)) := by
 rw [Bool.not_and]
 congr 1
 by_cases h : m < n
 ·rw [decide_eq_true h, decide_eq_false (by omega)]; rfl
 ·rw [decide_eq_false h, decide_eq_true (by omega)]; rfl
noncomputable def tab1e : Tab := tabOf [za6, zbx]
theorem zax : TabOk Tryz.prog tab1e := zA _
@[go_sem] theorem zot (args : List AV) : tab1e 64 args = (za6).e args := rfl
@[go_sem] theorem zng (args : List AV) : tab1e 102 args = (zbx).e args := rfl
theorem zqZ (d : Disk) (hd : DiskOk d) : ACall Tryz.prog 63 0 [diskA d] [] (fun r _ => r = .d (.bool (dfit d))) := by
 refine zk Tryz.func63 rfl (zv Tryz.func63 (by kernel_rfl) rfl) Tryz.ntmps63 (by simp) (fun base => ?_)
 repeat' (first | ((first | refine za tab1e (zax) (fun K hK => ?_) | refine zc tab1e (zax) ?_ | refine ze tab1e (zax) mx (fun K hK => ?_) | refine zj tab1e (zax) mx ?_ | refine zh ?_ | refine zi ?_ | refine zn ?_); simp only [go_sem, aeq, aeq.aeqF, simprocAttr, Tryz.results63]) | refine zq (fun K hK => ?_) | refine zp ?_ | refine zf rfl ?_ | refine zg rfl ?_ | refine zo rfl (fun hc => ?_) (fun hc => ?_) | (refine hK _ ?_; clear hK K) | with_reducible refine And.intro ?_ ?_ | (refine (show zt _ _ = true from ?_); kernel_rfl) | omega | assumption | refine fun (hg : (_ : Bool) = (_ : Bool)) => ?_ | clear hK K)
 ·rw [zos] at hc
  rw [dfit]
  simp only [Bool.or_eq_true, decide_eq_true_eq, Bool.not_eq_true'] at hc
  congr 2
  rcases hc with ((hc | hc) | hc) | hc
  ·rw [decide_eq_false (p := 1 ≤ dsize d) (by omega)]; simp
  ·rw [decide_eq_false (p := dsize d ≤ 1024) (by omega)]; simp
  ·rw [hc]; simp
  ·rw [decide_eq_false (p := d.cache.length ≤ 4096) (by omega)]; simp
 have hcl := hd.cache
 have hbl := hd.bad
 rw [zos] at hc
 simp only [Bool.or_eq_false_iff, decide_eq_false_iff_not, Bool.not_eq_false'] at hc
 have hfit : dfit d = (d.cache.all (putOk d) && zcJ d d.bad none) := by
  rw [dfit, hc.1.2, decide_eq_true (p := 1 ≤ dsize d) (by omega), decide_eq_true (p := dsize d ≤ 1024) (by omega), decide_eq_true (p := d.cache.length ≤ 4096) (by omega)]
  simp
 refine zO (fun q : { i : Nat // i ≤ d.cache.length ∧ d.cache.all (putOk d) = (d.cache.drop i).all (putOk d) } => ⟨[(1, true, .vp 0 0), (4, true, .d (.int .i64 q.1))], [(0, (.var [.d (.str d.data), .d (.sl 2 (d.cache.map putD)), .d (.int .i64 d.fuse), .d (.bool d.off), .d (.sl 1 (d.bad.map intD))]))], some []⟩) (fun q => d.cache.length - q.1) ⟨0, Nat.zero_le _, rfl⟩ (by simp only [AS.le, leT, leH, zr, AsgK, AV.le, AV.leL, AObj.le, inH, idsT, idsH, AV.ids, AV.idsL, AV.idsR, AObj.ids, lk, hget, go_sem, aeq, aeq.aeqF, simprocAttr] <;> and_intros <;> rfl) (fun q => ?_)
 obtain ⟨i, hi, hf⟩ := q
 simp only at hi hf ⊢
 rcases zaw putD d.cache i hi with ⟨⟨m, s⟩, hq, hlt, hcmp, hrow, hdr, htk⟩ | ⟨hend, hcmp⟩
 ·simp only [putD] at hrow
  have hwi := zV (i := i) (by omega)
  rw [hdr, List.all_cons, putOk] at hf
  repeat' (first | ((first | refine za tab1e (zax) (fun K hK => ?_) | refine zc tab1e (zax) ?_ | refine ze tab1e (zax) mx (fun K hK => ?_) | refine zj tab1e (zax) mx ?_ | refine zh ?_ | refine zi ?_ | refine zn ?_); simp only [go_sem, aeq, aeq.aeqF, simprocAttr, hcmp, hrow, Tryz.results63]) | refine zq (fun K hK => ?_) | refine zp ?_ | refine zf rfl ?_ | refine zg rfl ?_ | refine zo rfl (fun hc => ?_) (fun hc => ?_) | (refine hK _ ?_; clear hK K) | with_reducible refine And.intro ?_ ?_ | (refine (show zt _ _ = true from ?_); kernel_rfl) | omega | assumption | refine fun (hg : (_ : Bool) = (_ : Bool)) => ?_ | clear hK K)
  ·have hc : (there d m && ((s.length : Int) == 64)) = false := by rw [zsF] at hc; simp only [Bool.not_eq_true', Bool.not_eq_false'] at hc; exact hc
   rw [hfit, hf]
   simp only [hc, Bool.false_and]
  ·have hc : (there d m && ((s.length : Int) == 64)) = true := by rw [zsF] at hc; simp only [Bool.not_eq_true', Bool.not_eq_false'] at hc; exact hc
   exact ⟨⟨i + 1, by omega, by rw [hf]; simp only [hc, Bool.true_and]⟩, by simp only [AS.le, leT, leH, zr, AsgK, AV.le, AV.leL, AObj.le, inH, idsT, idsH, AV.ids, AV.idsL, AV.idsR, AObj.ids, lk, hget, go_sem, aeq, aeq.aeqF, simprocAttr, hwi], by simp; omega⟩
 ·rw [hend, List.drop_length] at hf
  repeat' (first | ((first | refine za noTab (zb _) (fun K hK => ?_) | refine zc noTab (zb _) ?_ | refine ze noTab (zb _) mx (fun K hK => ?_) | refine zj noTab (zb _) mx ?_ | refine zh ?_ | refine zi ?_ | refine zn ?_); simp only [go_sem, aeq, aeq.aeqF, simprocAttr, hcmp, Tryz.results63]) | refine zq (fun K hK => ?_) | refine zp ?_ | refine zf rfl ?_ | refine zg rfl ?_ | refine zo rfl (fun hc => ?_) (fun hc => ?_) | (refine hK _ ?_; clear hK K) | with_reducible refine And.intro ?_ ?_ | (refine (show zt _ _ = true from ?_); kernel_rfl) | omega | assumption | refine fun (hg : (_ : Bool) = (_ : Bool)) => ?_ | clear hK K)
  refine zO (fun q : { i : Nat // i ≤ d.bad.length ∧ zcJ d d.bad none = zcJ d (d.bad.drop i) (if i = 0 then none else d.bad[i - 1]?) } => ⟨[(1, true, .vp 0 0), (5, true, .d (.int .i64 q.1))], [(0, (.var [.d (.str d.data), .d (.sl 2 (d.cache.map putD)), .d (.int .i64 d.fuse), .d (.bool d.off), .d (.sl 1 (d.bad.map intD))]))], some []⟩) (fun q => d.bad.length - q.1) ⟨0, Nat.zero_le _, rfl⟩ (by simp only [AS.le, leT, leH, zr, AsgK, AV.le, AV.leL, AObj.le, inH, idsT, idsH, AV.ids, AV.idsL, AV.idsR, AObj.ids, lk, hget, go_sem, aeq, aeq.aeqF, simprocAttr] <;> and_intros <;> rfl) (fun q => ?_)
  obtain ⟨j, hj, hg⟩ := q
  simp only at hj hg ⊢
  rcases zaw intD d.bad j hj with ⟨m, hq, hlt, hcmp, hrow, hdr, htk⟩ | ⟨hend, hcmp⟩
  ·simp only [intD] at hrow
   have hwi := zV (i := j) (by omega)
   rw [hdr] at hg
   cases j with
   | zero =>
    have hz : decide ((0 : Int) < ((0 : Nat) : Int)) = false := by decide
    simp only [if_pos, zcJ, Bool.and_true] at hg
    have hcmp0 : decide ((0 : Int) < (d.bad.length : Int)) = true := hcmp
    repeat' (first | ((first | refine za tab1e (zax) (fun K hK => ?_) | refine zc tab1e (zax) ?_ | refine ze tab1e (zax) mx (fun K hK => ?_) | refine zj tab1e (zax) mx ?_ | refine zh ?_ | refine zi ?_ | refine zn ?_); simp only [go_sem, aeq, aeq.aeqF, simprocAttr, hcmp0, hrow, hz, Tryz.results63]) | refine zq (fun K hK => ?_) | refine zp ?_ | refine zf rfl ?_ | refine zg rfl ?_ | refine zo rfl (fun hc => ?_) (fun hc => ?_) | (refine hK _ ?_; clear hK K) | with_reducible refine And.intro ?_ ?_ | (refine (show zt _ _ = true from ?_); kernel_rfl) | omega | assumption | refine fun (hg : (_ : Bool) = (_ : Bool)) => ?_ | clear hK K)
    ·have hc : there d m = false := by simpa using hc
     rw [hfit, hg, hc, Bool.false_and, Bool.and_false]
    ·have hc : there d m = true := by simpa using hc
     rw [hc, Bool.true_and] at hg
     exact ⟨⟨0 + 1, by omega, by rw [if_neg (by omega), Nat.zero_add, Nat.sub_self, hq]; exact hg⟩, by simp only [AS.le, leT, leH, zr, AsgK, AV.le, AV.leL, AObj.le, inH, idsT, idsH, AV.ids, AV.idsL, AV.idsR, AObj.ids, lk, hget, go_sem, aeq, aeq.aeqF, simprocAttr, hwi] <;> and_intros <;> rfl, by simp; omega⟩
   | succ j =>
    have hz : decide ((0 : Int) < ((j + 1 : Nat) : Int)) = true := decide_eq_true (by omega)
    obtain ⟨m', hq'⟩ := zau (l := d.bad) (i := j) (by omega)
    have hrow' := zbT (g := intD) hq'
    simp only [intD] at hrow'
    have hwj : IntKind.i64.wrap (((j + 1 : Nat) : Int) - 1) = (j : Int) := by rw [zD (by omega) (by omega)]; omega
    rw [if_neg (by omega), Nat.add_sub_cancel, hq'] at hg
    simp only [zcJ] at hg
    repeat' (first | ((first | refine za tab1e (zax) (fun K hK => ?_) | refine zc tab1e (zax) ?_ | refine ze tab1e (zax) mx (fun K hK => ?_) | refine zj tab1e (zax) mx ?_ | refine zh ?_ | refine zi ?_ | refine zn ?_); simp only [go_sem, aeq, aeq.aeqF, simprocAttr, hcmp, hrow, hz, hrow', hwj, Tryz.results63]) | refine zq (fun K hK => ?_) | refine zp ?_ | refine zf rfl ?_ | refine zg rfl ?_ | refine zo rfl (fun hc => ?_) (fun hc => ?_) | (refine hK _ ?_; clear hK K) | with_reducible refine And.intro ?_ ?_ | (refine (show zt _ _ = true from ?_); kernel_rfl) | omega | assumption | refine fun (hg : (_ : Bool) = (_ : Bool)) => ?_ | clear hK K)
    ·have hc : (there d m && decide (m' < m)) = false := by rw [or_le] at hc; simp only [Bool.not_eq_true', Bool.not_eq_false'] at hc; exact hc
     rw [hfit, hg, hc, Bool.false_and, Bool.and_false]
    ·have hc : (there d m && decide (m' < m)) = true := by rw [or_le] at hc; simp only [Bool.not_eq_true', Bool.not_eq_false'] at hc; exact hc
     rw [hc, Bool.true_and] at hg
     exact ⟨⟨j + 1 + 1, by omega, by rw [if_neg (by omega), Nat.add_sub_cancel, hq]; exact hg⟩, by simp only [AS.le, leT, leH, zr, AsgK, AV.le, AV.leL, AObj.le, inH, idsT, idsH, AV.ids, AV.idsL, AV.idsR, AObj.ids, lk, hget, go_sem, aeq, aeq.aeqF, simprocAttr, hwi], by simp; omega⟩
  ·rw [hend, List.drop_length] at hg
   repeat' (first | ((first | refine za noTab (zb _) (fun K hK => ?_) | refine zc noTab (zb _) ?_ | refine ze noTab (zb _) mx (fun K hK => ?_) | refine zj noTab (zb _) mx ?_ | refine zh ?_ | refine zi ?_ | refine zn ?_); simp only [go_sem, aeq, aeq.aeqF, simprocAttr, hcmp, Tryz.results63]) | refine zq (fun K hK => ?_) | refine zp ?_ | refine zf rfl ?_ | refine zg rfl ?_ | refine zo rfl (fun hc => ?_) (fun hc => ?_) | (refine hK _ ?_; clear hK K) | with_reducible refine And.intro ?_ ?_ | (refine (show zt _ _ = true from ?_); kernel_rfl) | omega | assumption | refine fun (hg : (_ : Bool) = (_ : Bool)) => ?_ | clear hK K)
   rw [hfit, hf, hg]
   rfl
noncomputable def zfe : Ent Tryz.prog := .ofL 63 (consL zN nilL) (fun (d, _) => DiskOk d) (fun (d, _) => .d (.bool (dfit d))) (fun (d, _) hp => ⟨rfl, zqZ d hp⟩)
attribute [go_sem] zfe
open Go Go.Proofs
def idxP {α : Type} (p : α → Bool) : List α → Nat → Int
 | [], _ => -1
 | q :: l, k => if p q = true then (k : Int) else idxP p l (k + 1)
abbrev Idst {α : Type} (p : α → Bool) (l : List α) := { i : Nat // i ≤ l.length ∧ idxP p l 0 = idxP p (l.drop i) i }
theorem zj4 {α : Type} (p : α → Bool) : ∀ (l : List α) (k : Nat), decide ((0 : Int) ≤ idxP p l k) = l.any p
 | [], k => rfl
 | q :: l, k => by
  rw [idxP, List.any_cons]
  by_cases h : p q = true
  ·rw [if_pos h, h, decide_eq_true (by omega)]; rfl
  ·rw [if_neg h, zj4 p l (k + 1)]; simp [h]
theorem zfO {α : Type} [BEq α] [LawfulBEq α] (x : α) : ∀ (l : List α), l.any (fun q => x == q) = l.contains x
 | [] => rfl
 | q :: l => by rw [List.any_cons, zfO x l, List.contains_cons]
theorem zj5 (l : List Int) (x : Int) (hl : l.length ≤ 9223372036854775807) : ACall Tryz.prog 138 0 [.d (.sl 1 (l.map intD)), .d (.int .i64 x)] [] (fun r _ => r = .d (.int .i64 (idxP (fun q => x == q) l 0))) := by
 refine zk Tryz.func138 rfl (zv Tryz.func138 (by kernel_rfl) rfl) Tryz.ntmps138 (by simp) (fun base => ?_)
 repeat' (first | ((first | refine za noTab (zb _) (fun K hK => ?_) | refine zc noTab (zb _) ?_ | refine zh ?_ | refine zi ?_ | refine zn ?_); simp only [go_sem, aeq, aeq.aeqF, simprocAttr, Tryz.results138]) | refine zq (fun K hK => ?_) | refine zp ?_ | refine zf rfl ?_ | refine zg rfl ?_ | refine zo rfl (fun hc => ?_) (fun hc => ?_) | (refine hK _ ?_; clear hK K) | with_reducible refine And.intro ?_ ?_ | omega | assumption | clear hK K)
 refine zO (fun q : Idst (fun q => x == q) l => ⟨[(0, true, .d (.sl 1 (l.map intD))), (1, true, .d (.int .i64 x)), (7, true, .d (.int .i64 l.length)), (8, true, .d (.int .i64 q.1))], [], some []⟩) (fun q => l.length - q.1) ⟨0, Nat.zero_le _, rfl⟩ (by simp only [AS.le, leT, leH, zr, AsgK, AV.le, AV.leL, AObj.le, inH, idsT, idsH, AV.ids, AV.idsL, AV.idsR, AObj.ids, lk, hget, go_sem, aeq, aeq.aeqF, simprocAttr] <;> and_intros <;> rfl) (fun q => ?_)
 obtain ⟨i, hi, hf⟩ := q
 simp only at hi hf ⊢
 rcases zaw intD l i hi with ⟨m, hq, hlt, hcmp, hrow, hdr, htk⟩ | ⟨hend, hcmp⟩
 ·simp only [intD] at hrow
  have hwi := zV (i := i) (by omega)
  repeat' (first | ((first | refine za noTab (zb _) (fun K hK => ?_) | refine zc noTab (zb _) ?_ | refine zh ?_ | refine zi ?_ | refine zn ?_); simp only [go_sem, aeq, aeq.aeqF, simprocAttr, hcmp, hrow, Tryz.results138]) | refine zq (fun K hK => ?_) | refine zp ?_ | refine zf rfl ?_ | refine zg rfl ?_ | refine zo rfl (fun hc => ?_) (fun hc => ?_) | (refine hK _ ?_; clear hK K) | with_reducible refine And.intro ?_ ?_ | omega | assumption | clear hK K)
  ·rw [hf, hdr, idxP, if_pos (by simpa using hc)]
  ·exact ⟨⟨i + 1, by omega, by rw [hf, hdr, idxP, if_neg (by simpa using hc)]⟩, by simp only [AS.le, leT, leH, zr, AsgK, AV.le, AV.leL, AObj.le, inH, idsT, idsH, AV.ids, AV.idsL, AV.idsR, AObj.ids, lk, hget, go_sem, aeq, aeq.aeqF, simprocAttr, hwi], by simp; omega⟩
 ·repeat' (first | ((first | refine za noTab (zb _) (fun K hK => ?_) | refine zc noTab (zb _) ?_ | refine zh ?_ | refine zi ?_ | refine zn ?_); simp only [go_sem, aeq, aeq.aeqF, simprocAttr, hcmp, Tryz.results138]) | refine zq (fun K hK => ?_) | refine zp ?_ | refine zf rfl ?_ | refine zg rfl ?_ | refine zo rfl (fun hc => ?_) (fun hc => ?_) | (refine hK _ ?_; clear hK K) | with_reducible refine And.intro ?_ ?_ | omega | assumption | clear hK K)
  rw [hf, hend, List.drop_length]
  rfl
noncomputable def zaF : Ent Tryz.prog := .ofL 138 (consL (slT 1 intD zbJ) (consL (intT .i64) nilL)) (fun (l, x, _) => l.length ≤ 9223372036854775807) (fun (l, x, _) => .d (.int .i64 (idxP (fun q => x == q) l 0))) (fun (l, x, _) hp => ⟨rfl, zj5 l x hp⟩)
attribute [go_sem] zaF
noncomputable def zk8 : Tab := tabOf [zaF]
theorem zi3 : TabOk Tryz.prog zk8 := zA _
@[go_sem] theorem zla (args : List AV) : zk8 138 args = (zaF).e args := rfl
theorem zhf (l : List Int) (x : Int) (hl : l.length ≤ 9223372036854775807) : ACall Tryz.prog 90 0 [.d (.sl 1 (l.map intD)), .d (.int .i64 x)] [] (fun r _ => r = .d (.bool (l.contains x))) := by
 refine zk Tryz.func90 rfl (zv Tryz.func90 (by kernel_rfl) rfl) Tryz.ntmps90 (by simp) (fun base => ?_)
 repeat' (first | ((first | refine za zk8 (zi3) (fun K hK => ?_) | refine zc zk8 (zi3) ?_ | refine zh ?_ | refine zi ?_ | refine zn ?_); simp only [go_sem, aeq, aeq.aeqF, simprocAttr, Tryz.results90]) | refine zq (fun K hK => ?_) | (refine hK _ ?_; clear hK K) | with_reducible refine And.intro ?_ ?_ | omega | assumption | clear hK K)
 rw [zj4, zfO]
noncomputable def zaL : Ent Tryz.prog := .ofL 90 (consL (slT 1 intD zbJ) (consL (intT .i64) nilL)) (fun (l, x, _) => l.length ≤ 9223372036854775807) (fun (l, x, _) => .d (.bool (l.contains x))) (fun (l, x, _) hp => ⟨rfl, zhf l x hp⟩)
attribute [go_sem] zaL
theorem ztf (d : Disk) (hd : DiskOk d) : ACall Tryz.prog 70 0 [diskA d] [] (fun r _ => r = .d (.int .i64 (dsize d))) := by
 refine zk Tryz.func70 rfl (zv Tryz.func70 (by kernel_rfl) rfl) Tryz.ntmps70 (by simp) (fun base => ?_)
 repeat' (first | ((first | refine za noTab (zb _) (fun K hK => ?_) | refine zc noTab (zb _) ?_ | refine zh ?_ | refine zi ?_ | refine zn ?_); simp only [go_sem, aeq, aeq.aeqF, simprocAttr, zsD hd.data, Tryz.results70]) | refine zq (fun K hK => ?_) | (refine hK _ ?_; clear hK K) | with_reducible refine And.intro ?_ ?_ | omega | assumption | clear hK K)
 rfl
noncomputable def zgC : Ent Tryz.prog := .ofL 70 (consL zN nilL) (fun (d, _) => DiskOk d) (fun (d, _) => .d (.int .i64 (dsize d))) (fun (d, _) hp => ⟨rfl, ztf d hp⟩)
attribute [go_sem] zgC
noncomputable def zii : Tab := tabOf [zgC]
theorem zhE : TabOk Tryz.prog zii := zA _
@[go_sem] theorem zou (args : List AV) : zii 70 args = (zgC).e args := rfl
theorem zun (d : Disk) (at_ : Int) : (decide (at_ < 0) || decide (((dsize d : Nat) : Int) ≤ at_)) = !there d at_ := by
 rw [there, Bool.not_and]
 congr 1
 ·by_cases h : at_ < 0
  ·rw [decide_eq_true h, decide_eq_false (by omega)]; rfl
  ·rw [decide_eq_false h, decide_eq_true (by omega)]; rfl
 ·by_cases h : at_ < (dsize d : Int)
  ·rw [decide_eq_true h, decide_eq_false (by omega)]; rfl
  ·rw [decide_eq_false h, decide_eq_true (by omega)]; rfl
theorem zuo (d : Disk) (at_ : Int) (hd : DiskOk d) : ACall Tryz.prog 89 0 [diskA d, .d (.int .i64 at_)] [] (fun r _ => r = .d (.bool (!there d at_))) := by
 refine zk Tryz.func89 rfl (zv Tryz.func89 (by kernel_rfl) rfl) Tryz.ntmps89 (by simp) (fun base => ?_)
 repeat' (first | ((first | refine za zii (zhE) (fun K hK => ?_) | refine zc zii (zhE) ?_ | refine zh ?_ | refine zi ?_ | refine zn ?_); simp only [go_sem, aeq, aeq.aeqF, simprocAttr, Tryz.results89]) | refine zq (fun K hK => ?_) | (refine hK _ ?_; clear hK K) | with_reducible refine And.intro ?_ ?_ | omega | assumption | refine fun (hg : (_ : Bool) = (_ : Bool)) => ?_ | clear hK K)
 rw [zun]
noncomputable def zeB : Ent Tryz.prog := .ofL 89 (consL zN (consL (intT .i64) nilL)) (fun (d, at_, _) => DiskOk d) (fun (d, at_, _) => .d (.bool (!there d at_))) (fun (d, at_, _) hp => ⟨rfl, zuo d at_ hp⟩)
attribute [go_sem] zeB
open Go Go.Proofs
def dburn (d : Disk) : Disk × Bool := if d.fuse = 0 then ({ d with off := true }, false) else (burnt d, true)
theorem ztg (d : Disk) (hd : DiskOk d) : ACall Tryz.prog 167 0 [diskA d] [] (fun r _ => r = .tup [diskA (dburn d).1, .d (.bool (dburn d).2)]) := by
 refine zz ?_
 refine zk Tryz.func167 rfl (zv Tryz.func167 (by kernel_rfl) rfl) Tryz.ntmps167 (by simp) (fun base => ?_)
 have h1 := hd.fuse1
 have hw : 0 < d.fuse → IntKind.i64.wrap (d.fuse - 1) = d.fuse - 1 := fun h => zD (by omega) (by omega)
 repeat' (first | ((first | refine za noTab (zb _) (fun K hK => ?_) | refine zc noTab (zb _) ?_ | refine zh ?_ | refine zi ?_ | refine zn ?_); simp only [go_sem, aeq, aeq.aeqF, simprocAttr, Tryz.results167]) | refine zq (fun K hK => ?_) | refine zp ?_ | refine zf rfl ?_ | refine zg rfl ?_ | refine zo rfl (fun hc => ?_) (fun hc => ?_) | (refine hK _ ?_; clear hK K) | with_reducible refine And.intro ?_ ?_ | omega | assumption | clear hK K)
 all_goals by_cases h0 : d.fuse = 0
 all_goals by_cases h2 : 0 < d.fuse
 all_goals simp_all [dburn, burnt]
 all_goals simp only [if_neg (show ¬ 0 < d.fuse by omega)]
 all_goals simp
noncomputable def zdk : Ent Tryz.prog := .ofL 167 (consL zN nilL) (fun (d, _) => DiskOk d) (fun (d, _) => .tup [diskA (dburn d).1, .d (.bool (dburn d).2)]) (fun (d, _) hp => ⟨rfl, ztg d hp⟩)
attribute [go_sem] zdk
theorem zhg (l : List PutR) (fl : Nat) (hl : l.length ≤ 5000) : ACall Tryz.prog 187 fl [.d (.sl 2 (l.map putD))] [] (fun r h' => r = .osl fl 2 l.length 0 l.length ∧ h' = [(fl, .arr 2 (l.map putD))]) := by
 refine zk Tryz.func187 rfl (zv Tryz.func187 (by kernel_rfl) rfl) Tryz.ntmps187 (by simp) (fun base => ?_)
 repeat' ((fail_if_success refine hds 2 (by rfl) ?_); first | ((first | refine za noTab (zb _) (fun K hK => ?_) | refine zc noTab (zb _) ?_ | refine zh ?_ | refine zi ?_ | refine zn ?_); simp only [go_sem, aeq, aeq.aeqF, simprocAttr, Tryz.results187]) | refine zq (fun K hK => ?_) | refine zf rfl ?_ | refine zg rfl ?_ | refine zo rfl (fun hc => ?_) (fun hc => ?_) | (refine hK _ ?_; clear hK K) | refine fun (nb : Bool) (hnb : nb = true → _) => ?_ | with_reducible refine And.intro ?_ ?_ | omega | assumption | clear hK K)
 ·refine za noTab (zb _) (fun K hK => ?_); simp only [go_sem, aeq, aeq.aeqF, simprocAttr]
  (first | (refine hK _ ?_; clear hK K) | (clear hK K; refine hK _ ?_; clear hK K) | (clear hK K; clear hK K; refine hK _ ?_; clear hK K) | (clear hK K; clear hK K; clear hK K; refine hK _ ?_; clear hK K) | (clear hK K; clear hK K; clear hK K; clear hK K; refine hK _ ?_; clear hK K))
  refine zfZ 2 2 rfl ?_
  have h0 : l = [] := List.map_eq_nil_iff.1 (hnb hc)
  subst h0
  repeat' (first | ((first | refine za noTab (zb _) (fun K hK => ?_) | refine zc noTab (zb _) ?_ | refine zh ?_ | refine zi ?_ | refine zn ?_); simp only [go_sem, aeq, aeq.aeqF, simprocAttr, Tryz.results187]) | refine zq (fun K hK => ?_) | refine zf rfl ?_ | refine zg rfl ?_ | refine zo rfl (fun hc => ?_) (fun hc => ?_) | (refine hK _ ?_; clear hK K) | refine fun (nb : Bool) (hnb : nb = true → _) => ?_ | with_reducible refine And.intro ?_ ?_ | omega | assumption | clear hK K)
  all_goals rfl
noncomputable def tabW : Tab := tabOf [zeB, zaL, zdk]
theorem zov : TabOk Tryz.prog tabW := zA _
@[go_sem] theorem zth (args : List AV) : tabW 89 args = (zeB).e args := rfl
@[go_sem] theorem zj6 (args : List AV) : tabW 90 args = (zaL).e args := rfl
@[go_sem] theorem zsH (args : List AV) : tabW 167 args = (zdk).e args := rfl
theorem zj7 (d : Disk) (at_ : Int) (s : Txt) (hd : DiskOk d) : ACall Tryz.prog 153 0 [diskA d, .d (.int .i64 at_), .d (.str s)] [] (fun r _ => r = .tup [diskA (zP d at_ s).1, .d (.int .i64 (zP d at_ s).2)]) := by
 refine zz ?_
 refine zk Tryz.func153 rfl (zv Tryz.func153 (by kernel_rfl) rfl) Tryz.ntmps153 (by simp) (fun base => ?_)
 have h1 := hd.bad
 repeat' ((fail_if_success refine hds 14 (by rfl) ?_); first | ((first | refine za tabW (zov) (fun K hK => ?_) | refine zc tabW (zov) ?_ | refine zh ?_ | refine zi ?_ | refine zn ?_); simp only [go_sem, aeq, aeq.aeqF, simprocAttr, Tryz.results153]) | refine zq (fun K hK => ?_) | refine zp ?_ | refine zf rfl ?_ | refine zg rfl ?_ | refine zo rfl (fun hc => ?_) (fun hc => ?_) | (refine hK _ ?_; clear hK K) | refine fun (nb : Bool) (hnb : nb = true → _) => ?_ | with_reducible refine And.intro ?_ ?_ | omega | assumption | clear hK K)
 all_goals first | (simp_all [zP]; done) | (by_cases h0 : d.fuse = 0 <;> simp_all [zP, dburn]; done) | skip
 have hl : d.cache.length ≤ 5000 := by simp_all; omega
 repeat' (first | ((first | refine za noTab (zb _) (fun K hK => ?_) | refine zc noTab (zb _) ?_ | refine zh ?_ | refine zi ?_ | refine zn ?_); simp only [go_sem, aeq, aeq.aeqF, simprocAttr, Tryz.results153]) | refine zq (fun K hK => ?_) | refine zp ?_ | refine zf rfl ?_ | refine zg rfl ?_ | refine zo rfl (fun hc => ?_) (fun hc => ?_) | (refine hK _ ?_; clear hK K) | refine fun (nb : Bool) (hnb : nb = true → _) => ?_ | with_reducible refine And.intro ?_ ?_ | omega | assumption | clear hK K)
 refine ((zhg d.cache 3 hl).own rfl rfl (Nat.zero_le _) (by rintro r h' ⟨_, rfl⟩; rfl)).mono ?_
 rintro r h' ⟨h1, ⟨rfl, rfl⟩, rfl⟩
 simp only [go_sem, aeq, aeq.aeqF, simprocAttr]
 refine ⟨by omega, by omega, ?_⟩
 repeat' (first | ((first | refine za noTab (zb _) (fun K hK => ?_) | refine zc noTab (zb _) ?_ | refine zh ?_ | refine zi ?_ | refine zn ?_); simp only [go_sem, aeq, aeq.aeqF, simprocAttr, Tryz.results153]) | refine zq (fun K hK => ?_) | refine zp ?_ | refine zf rfl ?_ | refine zg rfl ?_ | refine zo rfl (fun hc => ?_) (fun hc => ?_) | (refine hK _ ?_; clear hK K) | refine fun (nb : Bool) (hnb : nb = true → _) => ?_ | with_reducible refine And.intro ?_ ?_ | omega | assumption | clear hK K)
 have hr : d.cache.map putD ++ [[.int .i64 at_, .str s]] = (d.cache ++ [(at_, s)]).map putD := by simp [putD]
 rw [hr, if_pos (by simp), List.take_of_length_le (by simp)]
 clear hr
 by_cases h0 : d.fuse = 0
 ·simp_all [dburn]
 by_cases h6 : 4096 ≤ (d.cache.length : Int)
 ·exfalso; simp_all
 by_cases h2 : 0 < d.fuse
 ·simp only [zP, dburn, burnt, if_neg h6, if_neg h0, if_pos h2]; simp_all
 ·simp only [zP, dburn, burnt, if_neg h6, if_neg h0, if_neg h2]; simp_all
noncomputable def zaG : Ent Tryz.prog := .ofL 153 (consL zN (consL (intT .i64) (consL strT nilL))) (fun (d, at_, s, _) => DiskOk d) (fun (d, at_, s, _) => .tup [diskA (zP d at_ s).1, .d (.int .i64 (zP d at_ s).2)]) (fun (d, at_, s, _) hp => ⟨rfl, zj7 d at_ s hp⟩)
attribute [go_sem] zaG
theorem zi4 (n : Int) : ACall Tryz.prog 169 0 [.d (.int .i64 n)] [] (fun r _ => r = .d (.bool true)) := by
 refine zk Tryz.func169 rfl (zv Tryz.func169 (by kernel_rfl) rfl) Tryz.ntmps169 (by simp) (fun base => ?_)
 repeat' (first | ((first | refine za noTab (zb _) (fun K hK => ?_) | refine zc noTab (zb _) ?_ | refine zh ?_ | refine zi ?_ | refine zn ?_); simp only [go_sem, aeq, aeq.aeqF, simprocAttr, Tryz.results169]) | refine zq (fun K hK => ?_) | (refine hK _ ?_; clear hK K) | with_reducible refine And.intro ?_ ?_ | omega | assumption | clear hK K)
noncomputable def zcj : Ent Tryz.prog := .ofL 169 (consL (intT .i64) nilL) (fun (n, _) => True) (fun (n, _) => .d (.bool true)) (fun (n, _) hp => ⟨rfl, zi4 n⟩)
attribute [go_sem] zcj
noncomputable def tabL : Tab := tabOf [zcj]
theorem zdl : TabOk Tryz.prog tabL := zA _
@[go_sem] theorem zl7 (args : List AV) : tabL 169 args = (zcj).e args := rfl
theorem zl8 (d : Disk) (hd : DiskOk d) (hf : d.cache.all (putOk d) = true) : ACall Tryz.prog 168 0 [diskA d, .fn (.func 169) [] []] [] (fun r _ => r = .d (.str (zdX d.data d.cache))) := by
 refine zz ?_
 refine zk Tryz.func168 rfl (zv Tryz.func168 (by kernel_rfl) rfl) Tryz.ntmps168 (by simp) (fun base => ?_)
 repeat' (first | ((first | refine za tabL (zdl) (fun K hK => ?_) | refine zc tabL (zdl) ?_ | refine ze tabL (zdl) mx (fun K hK => ?_) | refine zj tabL (zdl) mx ?_ | refine zh ?_ | refine zi ?_ | refine zn ?_); simp only [go_sem, aeq, aeq.aeqF, simprocAttr, Tryz.results168]) | refine zq (fun K hK => ?_) | refine zp ?_ | refine zf rfl ?_ | refine zg rfl ?_ | refine zo rfl (fun hc => ?_) (fun hc => ?_) | (refine hK _ ?_; clear hK K) | with_reducible refine And.intro ?_ ?_ | (refine (show zt _ _ = true from ?_); kernel_rfl) | omega | assumption | clear hK K)
 have hcl := hd.cache
 have hdl := hd.data
 refine zO (fun q : { q : Nat × Txt // q.1 ≤ d.cache.length ∧ q.2 = zdX d.data (d.cache.take q.1) ∧ q.2.length = d.data.length } => ⟨[(1, true, .fn (.func 169) [] []), (5, true, .osl 1 1 (List.length d.data) 0 (List.length d.data)), (12, true, .d (.sl 2 (d.cache.map putD))), (13, true, .d (.int .i64 d.cache.length)), (14, true, .d (.int .i64 q.1.1))], [(1, .arr 1 (zy q.1.2)), (0, (.var [.d (.str d.data), .d (.sl 2 (d.cache.map putD)), .d (.int .i64 d.fuse), .d (.bool d.off), .d (.sl 1 (d.bad.map intD))]))], some []⟩) (fun q => d.cache.length - q.1.1) ⟨(0, d.data), Nat.zero_le _, rfl, rfl⟩ (by simp only [AS.le, leT, leH, zr, AsgK, AV.le, AV.leL, AObj.le, inH, idsT, idsH, AV.ids, AV.idsL, AV.idsR, AObj.ids, lk, hget, go_sem, aeq, aeq.aeqF, simprocAttr] <;> and_intros <;> rfl) (fun q => ?_)
 obtain ⟨⟨i, b⟩, hi, hb, hbl⟩ := q
 simp only at hi hb hbl ⊢
 rcases zaw putD d.cache i hi with ⟨⟨m, s⟩, hq, hlt, hcmp, hrow, hdr, htk⟩ | ⟨hend, hcmp⟩
 ·simp only [putD] at hrow
  obtain ⟨p1, p2, p3⟩ := zum hf hq
  simp only at p1 p2 p3
  have hwi := zV (i := i) (by omega)
  have hwm : IntKind.i64.wrap (m * 64) = m * 64 := zD (by omega) (by omega)
  have hst := zop (b := d.data) hq
  rw [← hb] at hst
  have hll : (lay b (m * 64).toNat s).length = b.length := zoo (by omega)
  have hb0 : (zy b).length = d.data.length := by rw [zy, List.length_map, hbl]
  repeat' (first | ((first | refine za tabL (zdl) (fun K hK => ?_) | refine zc tabL (zdl) ?_ | refine ze tabL (zdl) mx (fun K hK => ?_) | refine zj tabL (zdl) mx ?_ | refine zh ?_ | refine zi ?_ | refine zn ?_); simp only [go_sem, aeq, aeq.aeqF, simprocAttr, hcmp, hrow, hwm, zqY, hb0, Tryz.results168]) | refine zq (fun K hK => ?_) | refine zp ?_ | refine zf rfl ?_ | refine zg rfl ?_ | refine zo rfl (fun hc => ?_) (fun hc => ?_) | (refine hK _ ?_; clear hK K) | with_reducible refine And.intro ?_ ?_ | (refine (show zt _ _ = true from ?_); kernel_rfl) | omega | assumption | clear hK K)
  ·rw [zy, List.length_map]; omega
  ·exact ⟨⟨(i + 1, lay b (m * 64).toNat s), by omega, hst.symm, hll.trans hbl⟩, by simp only [AS.le, leT, leH, zr, AsgK, AV.le, AV.leL, AObj.le, inH, idsT, idsH, AV.ids, AV.idsL, AV.idsR, AObj.ids, lk, hget, go_sem, aeq, aeq.aeqF, simprocAttr, hwi], by simp; omega⟩
 ·have hb1 : (d.data.length = (zy b).length) = True := eq_true (by rw [zy, List.length_map, hbl])
  have hb2 : List.take d.data.length (zy b) = zy b := List.take_of_length_le (by rw [zy, List.length_map, hbl]; omega)
  repeat' (first | ((first | refine za noTab (zb _) (fun K hK => ?_) | refine zc noTab (zb _) ?_ | refine ze noTab (zb _) mx (fun K hK => ?_) | refine zj noTab (zb _) mx ?_ | refine zh ?_ | refine zi ?_ | refine zn ?_); simp only [go_sem, aeq, aeq.aeqF, simprocAttr, hcmp, hb1, hb2, if_true, zar, zbg, Tryz.results168]) | refine zq (fun K hK => ?_) | refine zp ?_ | refine zf rfl ?_ | refine zg rfl ?_ | refine zo rfl (fun hc => ?_) (fun hc => ?_) | (refine hK _ ?_; clear hK K) | with_reducible refine And.intro ?_ ?_ | (refine (show zt _ _ = true from ?_); kernel_rfl) | omega | assumption | clear hK K)
  rw [hb, hend, zdL]
noncomputable def zdm : Ent Tryz.prog := .ofL 168 (consL zN (consL (fnT 169 nilL) nilL)) (fun (d, _, _) => (DiskOk d) ∧ (d.cache.all (putOk d) = true)) (fun (d, _, _) => .d (.str (zdX d.data d.cache))) (fun (d, _, _) hp => ⟨rfl, zl8 d hp.1 hp.2⟩)
attribute [go_sem] zdm
noncomputable def tabFl : Tab := tabOf [zdk, zdm]
theorem zlb : TabOk Tryz.prog tabFl := zA _
@[go_sem] theorem zq0 (args : List AV) : tabFl 167 args = (zdk).e args := rfl
@[go_sem] theorem znh (args : List AV) : tabFl 168 args = (zdm).e args := rfl
theorem zj8 (d : Disk) (hd : DiskOk d) (hf : d.cache.all (putOk d) = true) : ACall Tryz.prog 111 0 [diskA d] [] (fun r _ => r = .tup [diskA (dflush d).1, .d (.int .i64 (dflush d).2)]) := by
 refine zz ?_
 refine zk Tryz.func111 rfl (zv Tryz.func111 (by kernel_rfl) rfl) Tryz.ntmps111 (by simp) (fun base => ?_)
 repeat' (first | ((first | refine za tabFl (zlb) (fun K hK => ?_) | refine zc tabFl (zlb) ?_ | refine zh ?_ | refine zi ?_ | refine zn ?_); simp only [go_sem, aeq, aeq.aeqF, simprocAttr, Tryz.results111]) | refine zq (fun K hK => ?_) | refine zf rfl ?_ | refine zg rfl ?_ | refine zo rfl (fun hc => ?_) (fun hc => ?_) | (refine hK _ ?_; clear hK K) | refine fun (nb : Bool) (hnb : nb = true → _) => ?_ | with_reducible refine And.intro ?_ ?_ | omega | assumption | clear hK K)
 all_goals first | (simp_all [dflush]; done) | skip
 all_goals by_cases h0 : d.fuse = 0
 all_goals by_cases h2 : 0 < d.fuse
 all_goals simp_all [dflush, dburn, burnt]
 all_goals simp only [if_neg (show ¬ 0 < d.fuse by omega)]
 all_goals simp [*]
noncomputable def zcK : Ent Tryz.prog := .ofL 111 (consL zN nilL) (fun (d, _) => (DiskOk d) ∧ (d.cache.all (putOk d) = true)) (fun (d, _) => .tup [diskA (dflush d).1, .d (.int .i64 (dflush d).2)]) (fun (d, _) hp => ⟨rfl, zj8 d hp.1 hp.2⟩)
attribute [go_sem] zcK
open Go Go.Proofs
theorem zmb (rows : List (List D)) : ACall Tryz.prog 140 0 [.d (.sl 2 rows)] [] (fun r _ => r = .fn (.func 182) [] [.dp [.d (.sl 2 rows)]]) := by
 refine zz ?_
 refine zk Tryz.func140 rfl (zv Tryz.func140 (by kernel_rfl) rfl) Tryz.ntmps140 (by simp) (fun base => ?_)
 repeat' (first | ((first | refine za noTab (zb _) (fun K hK => ?_) | refine zc noTab (zb _) ?_ | refine zh ?_ | refine zi ?_ | refine zn ?_); simp only [go_sem, aeq, aeq.aeqF, simprocAttr, Tryz.results140]) | refine zq (fun K hK => ?_) | (refine hK _ ?_; clear hK K) | refine fun (nb : Bool) (hnb : nb = true → _) => ?_ | with_reducible refine And.intro ?_ ?_ | omega | assumption | clear hK K)
noncomputable def zdn : Ent Tryz.prog := Ent.of 140 (fun x : (List (List D)) => (fun (rows : List (List D)) => ([.d (.sl 2 rows)] : List AV)) x) (fun x : (List (List D)) => (fun (rows : List (List D)) => (True : Prop)) x) (fun x : (List (List D)) => (fun (rows : List (List D)) => (.fn (.func 182) [] [.dp [.d (.sl 2 rows)]] : AV)) x) (fun x hp => ⟨rfl, zmb x⟩)
theorem zi6 : ∀ x y : (List (List D)), (fun x : (List (List D)) => (fun (rows : List (List D)) => ([.d (.sl 2 rows)] : List AV)) x) x = (fun x : (List (List D)) => (fun (rows : List (List D)) => ([.d (.sl 2 rows)] : List AV)) x) y → x = y := by
 intro x y h
 skip
 simpa only [List.cons.injEq, AV.d.injEq, AV.agg.injEq, AV.dp.injEq, AV.fn.injEq, AV.tup.injEq, AV.asl.injEq, Int.natCast_inj, D.int.injEq, D.str.injEq, D.bool.injEq, D.sl.injEq, Prod.mk.injEq, and_true, true_and, and_assoc] using h
@[go_sem] theorem zq2 (rows : List (List D)) : (zdn).e [.d (.sl 2 rows)] = some (True, .fn (.func 182) [] [.dp [.d (.sl 2 rows)]]) := Ent.of_app zi6 (rows)
theorem zti (d : Disk) : ACall Tryz.prog 91 0 [diskA d] [] (fun r _ => r = .fn (.func 139) [] [.dp (diskC d)]) := by
 refine zz ?_
 refine zk Tryz.func91 rfl (zv Tryz.func91 (by kernel_rfl) rfl) Tryz.ntmps91 (by simp) (fun base => ?_)
 repeat' (first | ((first | refine za noTab (zb _) (fun K hK => ?_) | refine zc noTab (zb _) ?_ | refine zh ?_ | refine zi ?_ | refine zn ?_); simp only [go_sem, aeq, aeq.aeqF, simprocAttr, Tryz.results91]) | refine zq (fun K hK => ?_) | (refine hK _ ?_; clear hK K) | refine fun (nb : Bool) (hnb : nb = true → _) => ?_ | with_reducible refine And.intro ?_ ?_ | omega | assumption | clear hK K)
noncomputable def zgE : Ent Tryz.prog := .ofL 91 (consL zN nilL) (fun (d, _) => True) (fun (d, _) => .fn (.func 139) [] [.dp (diskC d)]) (fun (d, _) hp => ⟨rfl, zti d⟩)
attribute [go_sem] zgE
def putAV (q : PutR) : AV := .agg [.d (.int .i64 q.1), .d (.str q.2)]
def backs : List PutR → List (Nat × PutR)
 | [] => []
 | q :: r => (r.length, q) :: backs r
def zaP (x : Nat × PutR) : List AV := [.d (.int .i64 x.1), putAV x.2]
abbrev Bst (l : List PutR) := { q : Nat × List (List AV) // q.1 ≤ l.length ∧ q.2 ++ (backs (l.take q.1).reverse).map zaP = (backs l.reverse).map zaP }
theorem zj9 (l : List PutR) (hl : l.length ≤ 9223372036854775807) (fl : Nat) : AIter Tryz.prog 182 fl [] [.dp [.d (.sl 2 (l.map putD))]] [] ((backs l.reverse).map zaP) (fun g h' => (∀ xs, g = some xs → xs = (backs l.reverse).map zaP) ∧ h' = []) := by
 refine zaE Tryz.func182 rfl (zv Tryz.func182 (by kernel_rfl) rfl) Tryz.ntmps182 rfl (by simp) (fun base y => ?_)
 repeat' (first | (refine zL (fun i => decide (i < fl)) (by simp only [inH, idsH, hsel, AV.ids, AV.idsL, AV.idsR, AObj.ids, hget, go_sem, aeq, aeq.aeqF, simprocAttr]) ?_; simp only [go_sem, aeq, aeq.aeqF, simprocAttr, hsel, keepT]; refine zn ?_; simp only [go_sem, aeq, aeq.aeqF, simprocAttr]) | ((first | refine zu noTab (zb _) (fun K hK => ?_) | refine zB noTab (zb _) ?_ | refine zh ?_ | refine zi ?_ | refine zn ?_); simp only [go_sem, aeq, aeq.aeqF, simprocAttr]) | refine zq (fun K hK => ?_) | refine zp ?_ | refine zf rfl ?_ | refine zg rfl ?_ | refine zo rfl (fun hc => ?_) (fun hc => ?_) | (refine hK _ ?_; clear hK K) | ((first | refine (show AS.le _ _ from ?_) | refine (show leH _ _ from ?_) | refine (show inH _ _ from ?_)); simp only [AS.le, leT, leH, zr, AsgK, AV.le, AV.leL, AObj.le, inH, idsT, idsH, AV.ids, AV.idsL, AV.idsR, AObj.ids, lk, hget, go_sem, aeq, aeq.aeqF, simprocAttr]) | refine fun (r2 : Rnd _) => ?_ | with_reducible refine And.intro ?_ ?_ | exact ‹_ <+: _› | omega | assumption | clear hK K)
 have hw0 : IntKind.i64.wrap ((l.length : Int) - 1) = (l.length : Int) - 1 := zD (by omega) (by omega)
 refine zO (fun q : Bst l => ⟨[(0, true, .fn (.yield y.yl) [] []), (1, true, .dp [.d (.sl 2 (l.map putD))]), (3, true, .d (.int .i64 ((q.1.1 : Int) - 1)))], [], some q.1.2⟩) (fun q => q.1.1) ⟨(l.length, []), Nat.le_refl _, by rw [zdL]; rfl⟩ (by simp only [AS.le, leT, leH, zr, AsgK, AV.le, AV.leL, AObj.le, inH, idsT, idsH, AV.ids, AV.idsL, AV.idsR, AObj.ids, lk, hget, go_sem, aeq, aeq.aeqF, simprocAttr, hw0]) (fun q => ?_)
 obtain ⟨⟨i, xs⟩, hi, hf⟩ := q
 simp only at hi hf ⊢
 cases i with
 | zero =>
  have hz : decide ((0 : Int) ≤ ((0 : Nat) : Int) - 1) = false := by decide
  repeat' (first | (refine zL (fun i => decide (i < fl)) (by simp only [inH, idsH, hsel, AV.ids, AV.idsL, AV.idsR, AObj.ids, hget, go_sem, aeq, aeq.aeqF, simprocAttr]) ?_; simp only [go_sem, aeq, aeq.aeqF, simprocAttr, hz, hsel, keepT]; refine zn ?_; simp only [go_sem, aeq, aeq.aeqF, simprocAttr, hz]) | ((first | refine zu noTab (zb _) (fun K hK => ?_) | refine zB noTab (zb _) ?_ | refine zh ?_ | refine zi ?_ | refine zn ?_); simp only [go_sem, aeq, aeq.aeqF, simprocAttr, hz]) | refine zq (fun K hK => ?_) | refine zp ?_ | refine zf rfl ?_ | refine zg rfl ?_ | refine zo rfl (fun hc => ?_) (fun hc => ?_) | (refine hK _ ?_; clear hK K) | ((first | refine (show AS.le _ _ from ?_) | refine (show leH _ _ from ?_) | refine (show inH _ _ from ?_)); simp only [AS.le, leT, leH, zr, AsgK, AV.le, AV.leL, AObj.le, inH, idsT, idsH, AV.ids, AV.idsL, AV.idsR, AObj.ids, lk, hget, go_sem, aeq, aeq.aeqF, simprocAttr, hz]) | refine fun (r2 : Rnd _) => ?_ | with_reducible refine And.intro ?_ ?_ | exact ‹_ <+: _› | omega | assumption | clear hK K)
  rintro zs rfl
  rw [← hf]; simp [backs]
 | succ i =>
  have hz : decide ((0 : Int) ≤ ((i + 1 : Nat) : Int) - 1) = true := decide_eq_true (by omega)
  have hi1 : (((i + 1 : Nat) : Int) - 1) = (i : Int) := by omega
  have hwi : IntKind.i64.wrap ((i : Int) - 1) = (i : Int) - 1 := zD (by omega) (by omega)
  obtain ⟨⟨n, s⟩, hq⟩ := zau (l := l) (i := i) (by omega)
  have hrow := zbT (g := putD) hq
  simp only [putD] at hrow
  have hil : (l.take i).length = i := by rw [List.length_take]; omega
  rw [zch hq, List.reverse_append, List.reverse_singleton, List.singleton_append, backs, List.length_reverse, hil] at hf
  have hp : (xs ++ [zaP (i, n, s)]) <+: (backs l.reverse).map zaP := by rw [← hf]; simp
  simp only [zaP, putAV] at hp
  repeat' (first | (refine zL (fun i => decide (i < fl)) (by simp only [inH, idsH, hsel, AV.ids, AV.idsL, AV.idsR, AObj.ids, hget, go_sem, aeq, aeq.aeqF, simprocAttr]) ?_; simp only [go_sem, aeq, aeq.aeqF, simprocAttr, hz, hi1, hrow, Int.toNat_natCast, hsel, keepT]; refine zn ?_; simp only [go_sem, aeq, aeq.aeqF, simprocAttr, hz, hi1, hrow, Int.toNat_natCast]) | ((first | refine zu noTab (zb _) (fun K hK => ?_) | refine zB noTab (zb _) ?_ | refine zh ?_ | refine zi ?_ | refine zn ?_); simp only [go_sem, aeq, aeq.aeqF, simprocAttr, hz, hi1, hrow, Int.toNat_natCast]) | refine zq (fun K hK => ?_) | refine zp ?_ | refine zf rfl ?_ | refine zg rfl ?_ | refine zo rfl (fun hc => ?_) (fun hc => ?_) | (refine hK _ ?_; clear hK K) | ((first | refine (show AS.le _ _ from ?_) | refine (show leH _ _ from ?_) | refine (show inH _ _ from ?_)); simp only [AS.le, leT, leH, zr, AsgK, AV.le, AV.leL, AObj.le, inH, idsT, idsH, AV.ids, AV.idsL, AV.idsR, AObj.ids, lk, hget, go_sem, aeq, aeq.aeqF, simprocAttr, hz, hi1, hrow, Int.toNat_natCast]) | refine fun (r2 : Rnd _) => ?_ | with_reducible refine And.intro ?_ ?_ | exact ‹_ <+: _› | omega | assumption | clear hK K)
  exact ⟨⟨(i, xs ++ [zaP (i, n, s)]), by omega, by rw [← hf]; simp⟩, by simp only [AS.le, leT, leH, zr, AsgK, AV.le, AV.leL, AObj.le, inH, idsT, idsH, AV.ids, AV.idsL, AV.idsR, AObj.ids, lk, hget, go_sem, aeq, aeq.aeqF, simprocAttr, hwi, zaP, putAV], by simp⟩
def zbU (q : PutR) : List AV := [putAV q]
theorem zi7 : ∀ l : List PutR, (backs l).map (fun x => x.2) = l
 | [] => rfl
 | q :: l => by rw [backs, List.map_cons, zi7 l]
theorem zlc (l : List PutR) : ((backs l).map zaP).map (fun x => x.drop 1) = l.map zbU := by
 have : (backs l).map zaP = (backs l).map (fun x => .d (.int .i64 x.1) :: zbU x.2) := rfl
 rw [this, List.map_map]
 have h2 : (fun x : List AV => x.drop 1) ∘ (fun x : Nat × PutR => AV.d (.int .i64 x.1) :: zbU x.2) = zbU ∘ (fun x => x.2) := rfl
 rw [h2, ← List.map_map, zi7]
theorem zq3 {l : List PutR} {xs : List (List AV)} {x : Nat × PutR} (h : (xs ++ [zaP x]) <+: (backs l).map zaP) : (xs.map (fun x => x.drop 1) ++ [zbU x.2]) <+: l.map zbU := by
 have := h.map (fun x => x.drop 1)
 rw [zlc, List.map_append] at this
 exact this
noncomputable def tabBk : Tab := tabOf [zdn]
theorem zld : TabOk Tryz.prog tabBk := zA _
@[go_sem] theorem zni (args : List AV) : tabBk 140 args = (zdn).e args := rfl
theorem zka (d : Disk) (hd : DiskOk d) : AIter Tryz.prog 139 100 [] [.dp (diskC d)] [] (d.cache.reverse.map zbU) (fun g h' => (∀ xs, g = some xs → xs = d.cache.reverse.map zbU) ∧ h' = []) := by
 refine zaE Tryz.func139 rfl (zv Tryz.func139 (by kernel_rfl) rfl) Tryz.ntmps139 rfl (by simp) (fun base y => ?_)
 refine zgD ?_
 repeat' (first | (refine zL (fun i => decide (i < 100)) (by simp only [inH, idsH, hsel, AV.ids, AV.idsL, AV.idsR, AObj.ids, hget, go_sem, aeq, aeq.aeqF, simprocAttr]) ?_; simp only [go_sem, aeq, aeq.aeqF, simprocAttr, hsel, keepT]; refine zn ?_; simp only [go_sem, aeq, aeq.aeqF, simprocAttr]) | ((first | refine zu tabBk (zld) (fun K hK => ?_) | refine zB tabBk (zld) ?_ | refine zh ?_ | refine zi ?_ | refine zn ?_); simp only [go_sem, aeq, aeq.aeqF, simprocAttr]) | refine zq (fun K hK => ?_) | refine zp ?_ | refine zf rfl ?_ | refine zg rfl ?_ | refine zo rfl (fun hc => ?_) (fun hc => ?_) | (refine hK _ ?_; clear hK K) | ((first | refine (show AS.le _ _ from ?_) | refine (show leH _ _ from ?_) | refine (show inH _ _ from ?_)); simp only [AS.le, leT, leH, zr, AsgK, AV.le, AV.leL, AObj.le, inH, idsT, idsH, AV.ids, AV.idsL, AV.idsR, AObj.ids, lk, hget, go_sem, aeq, aeq.aeqF, simprocAttr]) | refine fun (r2 : Rnd _) => ?_ | with_reducible refine And.intro ?_ ?_ | exact ‹_ <+: _› | omega | assumption | clear hK K)
 obtain ⟨I, hI⟩ : ∃ I : List (List AV) → AHeap × Option (List (List AV)), I = fun xs => ([(100, .var [.fn (.yield y.yl) [] []])], some (xs.map (fun x => x.drop 1))) := ⟨_, rfl⟩
 obtain ⟨G, hG⟩ : ∃ G : List (List AV) → Prop, G = fun _ => True := ⟨_, rfl⟩
 obtain ⟨J, hJ⟩ : ∃ J : Code → AHeap → Option (List (List AV)) → Prop, J = fun c h g => c = .ret ∧ h = [(100, .var [.fn (.yield y.yl) [] []])] ∧ g = none := ⟨_, rfl⟩
 refine zaY 200 G I J (zj9 d.cache hd.cache 200) (by simp only [go_sem, aeq, aeq.aeqF, simprocAttr]) rfl (zS rfl) (by simp [cxOf, cxY]) rfl (by rw [hG]; first | trivial | rfl | simp) (by rw [hI]; simp only [AS.le, leT, leH, zr, AsgK, AV.le, AV.leL, AObj.le, inH, idsT, idsH, AV.ids, AV.idsL, AV.idsR, AObj.ids, lk, hget, go_sem, aeq, aeq.aeqF, simprocAttr] <;> simp [AV.leL, AV.le]) (by rw [hI]; simp only [AS.le, leT, leH, zr, AsgK, AV.le, AV.leL, AObj.le, inH, idsT, idsH, AV.ids, AV.idsL, AV.idsR, AObj.ids, lk, hget, go_sem, aeq, aeq.aeqF, simprocAttr] <;> simp) (by rw [hI] <;> rfl) (by intro x hx; obtain ⟨q, _, rfl⟩ := List.mem_map.1 hx; rfl) (by intro t ht; simp at ht; first | (rcases ht with rfl | rfl <;> simp [cxOf, cxY] <;> done) | (subst ht; simp [cxOf, cxY])) ?_ ?_ ?_
 ·intro xs x hpre hgd l1 r1
  obtain ⟨⟨i, n, s⟩, hq, rfl⟩ := List.mem_map.1 (hpre.subset (List.mem_append_right _ (List.mem_singleton.2 rfl)))
  have hp := zq3 hpre
  simp only [zaP, putAV, zbU] at hp ⊢
  refine aw_le ⟨[(9, true, .agg [.d (.int .i64 n), .d (.str s)]), (2, true, .vp 100 0)], [(100, .var [.fn (.yield y.yl) [] []])], some (xs.map (fun x => x.drop 1))⟩ (by rw [hI]; simp only [AS.le, leT, leH, zr, AsgK, AV.le, AV.leL, AObj.le, inH, idsT, idsH, AV.ids, AV.idsL, AV.idsR, AObj.ids, lk, hget, go_sem, aeq, aeq.aeqF, simprocAttr]) ?_
  repeat' (first | (refine zL (fun i => decide (i < 200)) (by simp only [inH, idsH, hsel, AV.ids, AV.idsL, AV.idsR, AObj.ids, hget, go_sem, aeq, aeq.aeqF, simprocAttr]) ?_; simp only [go_sem, aeq, aeq.aeqF, simprocAttr, hI, hsel, keepT]; refine zn ?_; simp only [go_sem, aeq, aeq.aeqF, simprocAttr, hI]) | ((first | refine zu noTab (zb _) (fun K hK => ?_) | refine zB noTab (zb _) ?_ | refine zh ?_ | refine zi ?_ | refine zn ?_); simp only [go_sem, aeq, aeq.aeqF, simprocAttr, hI]) | refine zq (fun K hK => ?_) | refine zp ?_ | refine zf rfl ?_ | refine zg rfl ?_ | refine zo rfl (fun hc => ?_) (fun hc => ?_) | (refine hK _ ?_; clear hK K) | ((first | refine (show AS.le _ _ from ?_) | refine (show leH _ _ from ?_) | refine (show inH _ _ from ?_)); simp only [AS.le, leT, leH, zr, AsgK, AV.le, AV.leL, AObj.le, inH, idsT, idsH, AV.ids, AV.idsL, AV.idsR, AObj.ids, lk, hget, go_sem, aeq, aeq.aeqF, simprocAttr, hI]) | refine fun (r2 : Rnd _) => ?_ | with_reducible refine And.intro ?_ ?_ | exact ‹_ <+: _› | omega | assumption | clear hK K)
  ·rw [hG]; trivial
  ·simp
  ·rw [hJ]; exact ⟨rfl, rfl, rfl⟩
 ·intro _
  rw [hI]
  simp only [go_sem, aeq, aeq.aeqF, simprocAttr]
  rintro zs rfl
  exact zlc _
 ·rw [hJ]
  rintro c h3 g3 ⟨rfl, rfl, rfl⟩
  repeat' (first | (refine zL (fun i => decide (i < 100)) (by simp only [inH, idsH, hsel, AV.ids, AV.idsL, AV.idsR, AObj.ids, hget, go_sem, aeq, aeq.aeqF, simprocAttr]) ?_; simp only [go_sem, aeq, aeq.aeqF, simprocAttr, hsel, keepT]; refine zn ?_; simp only [go_sem, aeq, aeq.aeqF, simprocAttr]) | ((first | refine zu noTab (zb _) (fun K hK => ?_) | refine zB noTab (zb _) ?_ | refine zh ?_ | refine zi ?_ | refine zn ?_); simp only [go_sem, aeq, aeq.aeqF, simprocAttr]) | refine zq (fun K hK => ?_) | refine zp ?_ | refine zf rfl ?_ | refine zg rfl ?_ | refine zo rfl (fun hc => ?_) (fun hc => ?_) | (refine hK _ ?_; clear hK K) | ((first | refine (show AS.le _ _ from ?_) | refine (show leH _ _ from ?_) | refine (show inH _ _ from ?_)); simp only [AS.le, leT, leH, zr, AsgK, AV.le, AV.leL, AObj.le, inH, idsT, idsH, AV.ids, AV.idsL, AV.idsR, AObj.ids, lk, hget, go_sem, aeq, aeq.aeqF, simprocAttr]) | refine fun (r2 : Rnd _) => ?_ | with_reducible refine And.intro ?_ ?_ | exact ‹_ <+: _› | omega | assumption | clear hK K)
def hitI (at_ : Int) : List AV → Bool
 | [.agg [.d (.int .i64 n), _]] => n == at_
 | _ => false
theorem zij (at_ : Int) : ∀ l : List PutR, (l.map zbU).any (hitI at_) = l.any (isPut at_)
 | [] => rfl
 | q :: l => by rw [List.map_cons, List.any_cons, List.any_cons, zij at_ l]; rfl
noncomputable def tabRd : Tab := tabOf [zeB, zaL, zgE]
theorem zf5 : TabOk Tryz.prog tabRd := zA _
@[go_sem] theorem zsI (args : List AV) : tabRd 89 args = (zeB).e args := rfl
@[go_sem] theorem zjL (args : List AV) : tabRd 90 args = (zaL).e args := rfl
@[go_sem] theorem zq4 (args : List AV) : tabRd 91 args = (zgE).e args := rfl
theorem zmc (d : Disk) (at_ : Int) (hd : DiskOk d) : ACall Tryz.prog 32 0 [diskA d, .d (.int .i64 at_)] [] (fun r _ => r = .tup [.d (.str (dread d at_).1), .d (.int .i64 (dread d at_).2)]) := by
 refine zk Tryz.func32 rfl (zv Tryz.func32 (by kernel_rfl) rfl) Tryz.ntmps32 (by simp) (fun base => ?_)
 have hbl := hd.bad
 have hdl := hd.data
 repeat' ((fail_if_success refine hds 7 (by rfl) ?_); first | ((first | refine za tabRd (zf5) (fun K hK => ?_) | refine zc tabRd (zf5) ?_ | refine zh ?_ | refine zi ?_ | refine zn ?_ | refine zaj ?_); simp only [go_sem, aeq, aeq.aeqF, simprocAttr, Tryz.results32]) | refine zq (fun K hK => ?_) | refine zp ?_ | refine zal ?_ | refine zf rfl ?_ | refine zg rfl ?_ | refine zo rfl (fun hc => ?_) (fun hc => ?_) | (refine hK _ ?_; clear hK K) | ((first | refine (show AS.le _ _ from ?_) | refine (show leH _ _ from ?_) | refine (show inH _ _ from ?_)); simp only [AS.le, leT, leH, zr, AsgK, AV.le, AV.leL, AObj.le, inH, idsT, idsH, AV.ids, AV.idsL, AV.idsR, AObj.ids, lk, hget, go_sem, aeq, aeq.aeqF, simprocAttr]) | refine fun (r2 : Rnd _) => ?_ | with_reducible refine And.intro ?_ ?_ | exact ‹_ <+: _› | omega | assumption | clear hK K)
 all_goals first | (simp_all [dread]; done) | skip
 have ht : there d at_ = true := by simp_all
 obtain ⟨ht0, ht1⟩ := there_iff.mp ht
 have hm : IntKind.i64.wrap (at_ * 64) = at_ * 64 := zD (by omega) (by omega)
 have hr : dread d at_ = (sees d at_, 0) := by simp_all [dread]
 repeat' (first | ((first | refine za tabRd (zf5) (fun K hK => ?_) | refine zc tabRd (zf5) ?_ | refine zh ?_ | refine zi ?_ | refine zn ?_ | refine zaj ?_); simp only [go_sem, aeq, aeq.aeqF, simprocAttr, hm, Tryz.results32]) | refine zq (fun K hK => ?_) | refine zp ?_ | refine zal ?_ | refine zf rfl ?_ | refine zg rfl ?_ | refine zo rfl (fun hc => ?_) (fun hc => ?_) | (refine hK _ ?_; clear hK K) | ((first | refine (show AS.le _ _ from ?_) | refine (show leH _ _ from ?_) | refine (show inH _ _ from ?_)); simp only [AS.le, leT, leH, zr, AsgK, AV.le, AV.leL, AObj.le, inH, idsT, idsH, AV.ids, AV.idsL, AV.idsR, AObj.ids, lk, hget, go_sem, aeq, aeq.aeqF, simprocAttr, hm]) | refine fun (r2 : Rnd _) => ?_ | with_reducible refine And.intro ?_ ?_ | exact ‹_ <+: _› | omega | assumption | clear hK K)
 ·rw [List.length_drop]; omega
 obtain ⟨S0, hS0⟩ : ∃ S0, S0 = (d.data.drop (at_ * 64).toNat).take 64 := ⟨_, rfl⟩
 rw [← hS0]
 obtain ⟨I, hI⟩ : ∃ I : List (List AV) → AHeap × Option (List (List AV)), I = fun xs => ([(2, .var [.d (.str S0)]), (1, .var [.d (.int .i64 at_)]), (0, (.var [.d (.str d.data), .d (.sl 2 (d.cache.map putD)), .d (.int .i64 d.fuse), .d (.bool d.off), .d (.sl 1 (d.bad.map intD))]))], some []) := ⟨_, rfl⟩
 obtain ⟨G, hG⟩ : ∃ G : List (List AV) → Prop, G = fun xs => xs.any (hitI at_) = false := ⟨_, rfl⟩
 obtain ⟨J, hJ⟩ : ∃ J : Code → AHeap → Option (List (List AV)) → Prop, J = fun c h g => c = .exit 1 ∧ g = some [] ∧ ∃ q, d.cache.reverse.find? (isPut at_) = some q ∧ h = [(100, .var [.d (.int .i64 q.1), .d (.str q.2)]), (2, .var [.d (.str q.2)]), (1, .var [.d (.int .i64 at_)]), (0, (.var [.d (.str d.data), .d (.sl 2 (d.cache.map putD)), .d (.int .i64 d.fuse), .d (.bool d.off), .d (.sl 1 (d.bad.map intD))]))] := ⟨_, rfl⟩
 refine zaY 100 G I J (zka d hd) (by simp only [go_sem, aeq, aeq.aeqF, simprocAttr]) rfl (zS rfl) (by simp [cxOf, cxY]) rfl (by rw [hG]; first | trivial | rfl | simp) (by rw [hI]; simp only [AS.le, leT, leH, zr, AsgK, AV.le, AV.leL, AObj.le, inH, idsT, idsH, AV.ids, AV.idsL, AV.idsR, AObj.ids, lk, hget, go_sem, aeq, aeq.aeqF, simprocAttr] <;> simp [AV.leL, AV.le]) (by rw [hI]; simp only [AS.le, leT, leH, zr, AsgK, AV.le, AV.leL, AObj.le, inH, idsT, idsH, AV.ids, AV.idsL, AV.idsR, AObj.ids, lk, hget, go_sem, aeq, aeq.aeqF, simprocAttr] <;> simp) (by rw [hI] <;> rfl) (by intro x hx; obtain ⟨q, _, rfl⟩ := List.mem_map.1 hx; rfl) (by intro t ht; simp at ht; first | (rcases ht with rfl | rfl <;> simp [cxOf, cxY] <;> done) | (subst ht; simp [cxOf, cxY])) ?_ ?_ ?_
 ·intro xs x hpre hgd l1 r1
  obtain ⟨ys, ⟨n, s⟩, zs, rfl, rfl, hl⟩ := zcL hpre
  rw [hG, zij] at hgd
  simp only [zbU, putAV]
  refine aw_le ⟨[(28, true, .agg [.d (.int .i64 n), .d (.str s)]), (3, true, .vp 1 0), (6, true, .vp 2 0)], [(2, .var [.d (.str S0)]), (1, .var [.d (.int .i64 at_)]), (0, (.var [.d (.str d.data), .d (.sl 2 (d.cache.map putD)), .d (.int .i64 d.fuse), .d (.bool d.off), .d (.sl 1 (d.bad.map intD))]))], some []⟩ (by rw [hI]; simp only [AS.le, leT, leH, zr, AsgK, AV.le, AV.leL, AObj.le, inH, idsT, idsH, AV.ids, AV.idsL, AV.idsR, AObj.ids, lk, hget, go_sem, aeq, aeq.aeqF, simprocAttr]) ?_
  repeat' (first | ((first | refine za noTab (zb _) (fun K hK => ?_) | refine zc noTab (zb _) ?_ | refine zh ?_ | refine zi ?_ | refine zn ?_ | refine zaj ?_); simp only [go_sem, aeq, aeq.aeqF, simprocAttr, hI, Tryz.results32]) | refine zq (fun K hK => ?_) | refine zp ?_ | refine zal ?_ | refine zf rfl ?_ | refine zg rfl ?_ | refine zo rfl (fun hc => ?_) (fun hc => ?_) | (refine hK _ ?_; clear hK K) | ((first | refine (show AS.le _ _ from ?_) | refine (show leH _ _ from ?_) | refine (show inH _ _ from ?_)); simp only [AS.le, leT, leH, zr, AsgK, AV.le, AV.leL, AObj.le, inH, idsT, idsH, AV.ids, AV.idsL, AV.idsR, AObj.ids, lk, hget, go_sem, aeq, aeq.aeqF, simprocAttr, hI]) | refine fun (r2 : Rnd _) => ?_ | with_reducible refine And.intro ?_ ?_ | exact ‹_ <+: _› | omega | assumption | clear hK K)
  ·rw [hJ]
   exact ⟨rfl, rfl, (n, s), by rw [hl]; exact zma hgd hc, rfl⟩
  ·rw [hG]
   show List.any (_ ++ _) _ = false
   rw [List.any_append, zij, hgd]
   simpa [hitI] using hc
 ·intro hgd
  rw [hG, zij] at hgd
  rw [hI]
  repeat' (first | ((first | refine za noTab (zb _) (fun K hK => ?_) | refine zc noTab (zb _) ?_ | refine zh ?_ | refine zi ?_ | refine zn ?_ | refine zaj ?_); simp only [go_sem, aeq, aeq.aeqF, simprocAttr, Tryz.results32]) | refine zq (fun K hK => ?_) | refine zp ?_ | refine zal ?_ | refine zf rfl ?_ | refine zg rfl ?_ | refine zo rfl (fun hc => ?_) (fun hc => ?_) | (refine hK _ ?_; clear hK K) | ((first | refine (show AS.le _ _ from ?_) | refine (show leH _ _ from ?_) | refine (show inH _ _ from ?_)); simp only [AS.le, leT, leH, zr, AsgK, AV.le, AV.leL, AObj.le, inH, idsT, idsH, AV.ids, AV.idsL, AV.idsR, AObj.ids, lk, hget, go_sem, aeq, aeq.aeqF, simprocAttr]) | refine fun (r2 : Rnd _) => ?_ | with_reducible refine And.intro ?_ ?_ | exact ‹_ <+: _› | omega | assumption | clear hK K)
  rw [hr, sees, List.find?_eq_none.2 (fun x hx => by simpa using List.any_eq_false.1 hgd x hx), hS0]
 ·rw [hJ]
  rintro c h3 g3 ⟨rfl, rfl, ⟨n, s⟩, hq, rfl⟩
  repeat' (first | ((first | refine za noTab (zb _) (fun K hK => ?_) | refine zc noTab (zb _) ?_ | refine zh ?_ | refine zi ?_ | refine zn ?_ | refine zaj ?_); simp only [go_sem, aeq, aeq.aeqF, simprocAttr, Tryz.results32]) | refine zq (fun K hK => ?_) | refine zp ?_ | refine zal ?_ | refine zf rfl ?_ | refine zg rfl ?_ | refine zo rfl (fun hc => ?_) (fun hc => ?_) | (refine hK _ ?_; clear hK K) | ((first | refine (show AS.le _ _ from ?_) | refine (show leH _ _ from ?_) | refine (show inH _ _ from ?_)); simp only [AS.le, leT, leH, zr, AsgK, AV.le, AV.leL, AObj.le, inH, idsT, idsH, AV.ids, AV.idsL, AV.idsR, AObj.ids, lk, hget, go_sem, aeq, aeq.aeqF, simprocAttr]) | refine fun (r2 : Rnd _) => ?_ | with_reducible refine And.intro ?_ ?_ | exact ‹_ <+: _› | omega | assumption | clear hK K)
  rw [hr, sees, hq]
noncomputable def zaT : Ent Tryz.prog := .ofL 32 (consL zN (consL (intT .i64) nilL)) (fun (d, at_, _) => DiskOk d) (fun (d, at_, _) => .tup [.d (.str (dread d at_).1), .d (.int .i64 (dread d at_).2)]) (fun (d, at_, _) hp => ⟨rfl, zmc d at_ hp⟩)
attribute [go_sem] zaT
open Go Go.Proofs
def putN (n : Nat) : Nat → Txt
 | 0 => []
 | k + 1 => putN (n / 256) k ++ [UInt8.ofNat n]
def takeN (l : Txt) : Nat := l.foldl (fun n c => n * 256 + c.toNat) 0
theorem zi8 (l : Txt) (i : Nat) (b : UInt8) : (zy l).set i (zdb b) = zy (l.set i b) := by
 simp [zy, List.map_set]
theorem zba (l : Txt) : (zy l).length = l.length := by simp [zy]
theorem zfP {b : Txt} {k : Nat} (hk : k < b.length) : (zy b).getD k [] = [.int .u8 (b.getD k 0).toNat] := by
 simp [zy, List.getD_eq_getElem?_getD, hk, zdb]
theorem zi9 {b : Txt} {k : Nat} {x : Int} (hk : k < b.length) (c : UInt8) (hx : x = c.toNat) : (zy b).set k (((zy b).getD k []).set 0 (D.int .u8 x)) = zy (b.set k c) := by
 rw [zfP hk, List.set_cons_zero, hx]
 exact zi8 b k c
theorem zq5 {b : Txt} {k : Nat} (hk : k < b.length) (c : UInt8) : (b.set k c).drop k = c :: b.drop (k + 1) := by
 rw [List.drop_set, if_neg (by omega), Nat.sub_self, List.drop_eq_getElem_cons hk, List.set_cons_zero]
theorem zap (n k : Nat) : (putN n k).length = k := by
 induction k generalizing n with
 | zero => rfl
 | succ k ih => rw [putN, List.length_append, ih]; rfl
theorem zja (n i : Nat) : putN n (i + 1) = UInt8.ofNat (n / 256 ^ i) :: putN n i := by
 induction i generalizing n with
 | zero => simp [putN]
 | succ i ih =>
  rw [putN, ih, putN, List.cons_append, Nat.div_div_eq_div_mul, Nat.pow_succ, Nat.mul_comm 256]
theorem zsJ (n k : Nat) (hk : k ≤ 64) : ishr .u64 (n : Int) (k : Int) = ((n / 2 ^ k : Nat) : Int) := by
 unfold ishr
 rw [show min ((k : Int).toNat) IntKind.u64.bits = k by show min ((k : Int).toNat) 64 = k; omega]
 rw [Int.fdiv_eq_ediv_of_nonneg _ (Int.le_of_lt (Int.pow_pos (by decide)))]
 norm_cast
theorem u8_of (n : Nat) : IntKind.u8.wrap (n : Int) = ((UInt8.ofNat n).toNat : Int) := by
 rw [IntKind.wrap_u8]
 simp
theorem zq6 {n : Int} (h0 : 0 ≤ n) {i : Nat} (hi : i ≤ 8) : IntKind.u8.wrap (ishr .u64 n ((8 * i : Nat) : Int)) = ((UInt8.ofNat (n.toNat / 256 ^ i)).toNat : Int) := by
 obtain ⟨m, rfl⟩ : ∃ m : Nat, n = m := ⟨n.toNat, by omega⟩
 rw [zsJ m _ (by omega), u8_of, Int.toNat_natCast, Nat.pow_mul]
theorem zff (l : Txt) (c : UInt8) : takeN (l ++ [c]) = takeN l * 256 + c.toNat := by
 simp [takeN, List.foldl_append]
theorem zle (l : Txt) : takeN l < 256 ^ l.length := by
 rcases List.eq_nil_or_concat l with rfl | ⟨l', c, rfl⟩
 ·decide
 ·rw [List.concat_eq_append, zff, List.length_append, List.length_singleton, Nat.pow_succ]
  have := zle l'
  have := c.toNat_lt
  have h2 : takeN l' + 1 ≤ 256 ^ l'.length := by omega
  have := Nat.mul_le_mul_right 256 h2
  omega
termination_by l.length
decreasing_by subst_vars; simp
theorem zcM {l : Txt} {i : Nat} (h : l.length ≤ i) : takeN l < 256 ^ i := Nat.lt_of_lt_of_le (zle l) (Nat.pow_le_pow_right (by decide) h)
theorem zaH {x : Int} (h0 : 0 ≤ x) (h1 : x < 18446744073709551616) : IntKind.u64.wrap x = x := by
 rw [IntKind.wrap_u64]; omega
theorem zow {l : Txt} {i : Nat} {c : UInt8} (hq : l[i]? = some c) (hi : i < 8) : IntKind.u64.wrap (IntKind.u64.wrap ((takeN (l.take i) : Nat) * 256) + IntKind.u64.wrap (c.toNat : Int)) = ((takeN (l.take (i + 1)) : Nat) : Int) := by
 have h1 : takeN (l.take i) < 256 ^ 7 := zcM (by rw [List.length_take]; omega)
 have h2 := c.toNat_lt
 rw [zaH (x := (takeN (l.take i) : Nat) * 256) (by omega) (by omega), zaH (x := (c.toNat : Int)) (by omega) (by omega), zaH (by omega) (by omega), zch hq, zff]
 omega
open Go Go.Proofs
def padS (s : Txt) (n : Int) : Txt × Int := if n < s.length ∨ 65536 < n then ([], 11) else (s ++ List.replicate (n - s.length).toNat 0, 0)
def overS (s : Txt) (at_ : Int) (t : Txt) : Txt × Int := if at_ < 0 ∨ (s.length : Int) - t.length < at_ then ([], 10) else (s.take at_.toNat ++ t ++ s.drop (at_ + t.length).toNat, 0)
def putS8 (n : Int) (size : Int) : Txt := if size < 1 ∨ 8 < size then [] else putN n.toNat size.toNat
def takeS (s : Txt) (size : Int) : Int × Txt × Int := if size < 1 ∨ 8 < size then (0, [], 25) else if (s.length : Int) < size then (0, [], 22) else ((takeN (s.take size.toNat) : Int), s.drop size.toNat, 0)
def nameB (c : UInt8) : Bool := decide (33 ≤ c.toNat) && decide (c.toNat ≤ 126)
def zgF (s : Txt) : Bool := s.all nameB && (s != [] && decide (s.length ≤ 8))
theorem zq7 (s : Txt) (n : Int) (hs : s.length ≤ 9223372036854775807) : ACall Tryz.prog 120 0 [.d (.str s), .d (.int .i64 n)] [] (fun r _ => r = .tup [.d (.str (padS s n).1), .d (.int .i64 (padS s n).2)]) := by
 refine zz ?_
 refine zk Tryz.func120 rfl (zv Tryz.func120 (by kernel_rfl) rfl) Tryz.ntmps120 (by simp) (fun base => ?_)
 by_cases h : n < s.length ∨ 65536 < n
 ·have hdec : (decide (n < (s.length : Int)) || decide (65536 < n)) = true := by simpa using h
  repeat' (first | ((first | refine za noTab (zb _) (fun K hK => ?_) | refine zc noTab (zb _) ?_ | refine zh ?_ | refine zi ?_ | refine zn ?_); simp only [go_sem, aeq, aeq.aeqF, simprocAttr, hdec, Tryz.results120]) | refine zq (fun K hK => ?_) | refine zf rfl ?_ | refine zg rfl ?_ | refine zo rfl (fun hc => ?_) (fun hc => ?_) | (refine hK _ ?_; clear hK K) | with_reducible refine And.intro ?_ ?_ | omega | assumption | refine fun (hg : (_ : Bool) = (_ : Bool)) => ?_ | clear hK K)
  rw [padS, if_pos h]
 ·have hdec : (decide (n < (s.length : Int)) || decide (65536 < n)) = false := by simpa using h
  have hm : IntKind.i64.wrap (n - s.length) = n - s.length := zD (by omega) (by omega)
  repeat' (first | ((first | refine za noTab (zb _) (fun K hK => ?_) | refine zc noTab (zb _) ?_ | refine zh ?_ | refine zi ?_ | refine zn ?_); simp only [go_sem, aeq, aeq.aeqF, simprocAttr, hdec, hm, zdO, zi2, zk7, if_true, Tryz.results120]) | refine zq (fun K hK => ?_) | refine zf rfl ?_ | refine zg rfl ?_ | refine zo rfl (fun hc => ?_) (fun hc => ?_) | (refine hK _ ?_; clear hK K) | with_reducible refine And.intro ?_ ?_ | omega | assumption | refine fun (hg : (_ : Bool) = (_ : Bool)) => ?_ | clear hK K)
  ·exact zbg _
  ·rw [zar, List.length_replicate]; omega
  ·simp only [padS, if_neg h, zar]
noncomputable def zfg : Ent Tryz.prog := .ofL 120 (consL strT (consL (intT .i64) nilL)) (fun (s, n, _) => s.length ≤ 9223372036854775807) (fun (s, n, _) => .tup [.d (.str (padS s n).1), .d (.int .i64 (padS s n).2)]) (fun (s, n, _) hp => ⟨rfl, zq7 s n hp⟩)
attribute [go_sem] zfg
theorem zlf {a b c : Int} : (decide (a < 0) || decide (b < c) || decide (b - c < a)) = (decide (a < 0) || decide (b - c < a)) := by
 by_cases h1 : a < 0
 ·simp [h1]
 ·by_cases h2 : b < c
  ·rw [decide_eq_true h2, decide_eq_true (p := b - c < a) (by omega)]; simp
  ·rw [decide_eq_false h2]; simp
theorem zox (s : Txt) (at_ : Int) (t : Txt) (hs : s.length ≤ 9223372036854775807) (ht : t.length ≤ 9223372036854775807) : ACall Tryz.prog 23 0 [.d (.str s), .d (.int .i64 at_), .d (.str t)] [] (fun r _ => r = .tup [.d (.str (overS s at_ t).1), .d (.int .i64 (overS s at_ t).2)]) := by
 refine zk Tryz.func23 rfl (zv Tryz.func23 (by kernel_rfl) rfl) Tryz.ntmps23 (by simp) (fun base => ?_)
 have hm : IntKind.i64.wrap ((s.length : Int) - t.length) = (s.length : Int) - t.length := zD (by omega) (by omega)
 by_cases h : at_ < 0 ∨ (s.length : Int) - t.length < at_
 ·have hdec : (decide (at_ < 0) || decide ((s.length : Int) - t.length < at_)) = true := by simpa using h
  repeat' (first | ((first | refine za noTab (zb _) (fun K hK => ?_) | refine zc noTab (zb _) ?_ | refine ze noTab (zb _) mx (fun K hK => ?_) | refine zj noTab (zb _) mx ?_ | refine zh ?_ | refine zi ?_ | refine zn ?_); simp only [go_sem, aeq, aeq.aeqF, simprocAttr, hm, zlf, hdec, Tryz.results23]) | refine zq (fun K hK => ?_) | refine zf rfl ?_ | refine zg rfl ?_ | refine zo rfl (fun hc => ?_) (fun hc => ?_) | (refine hK _ ?_; clear hK K) | with_reducible refine And.intro ?_ ?_ | (refine (show zt _ _ = true from ?_); kernel_rfl) | omega | assumption | refine fun (hg : (_ : Bool) = (_ : Bool)) => ?_ | clear hK K)
  rw [overS, if_pos h]
 ·have hdec : (decide (at_ < 0) || decide ((s.length : Int) - t.length < at_)) = false := by simpa using h
  have hm2 : IntKind.i64.wrap (at_ + t.length) = at_ + t.length := zD (by omega) (by omega)
  repeat' (first | ((first | refine za noTab (zb _) (fun K hK => ?_) | refine zc noTab (zb _) ?_ | refine ze noTab (zb _) mx (fun K hK => ?_) | refine zj noTab (zb _) mx ?_ | refine zh ?_ | refine zi ?_ | refine zn ?_); simp only [go_sem, aeq, aeq.aeqF, simprocAttr, hm, zlf, hdec, hm2, Tryz.results23]) | refine zq (fun K hK => ?_) | refine zf rfl ?_ | refine zg rfl ?_ | refine zo rfl (fun hc => ?_) (fun hc => ?_) | (refine hK _ ?_; clear hK K) | with_reducible refine And.intro ?_ ?_ | (refine (show zt _ _ = true from ?_); kernel_rfl) | omega | assumption | refine fun (hg : (_ : Bool) = (_ : Bool)) => ?_ | clear hK K)
  ·rw [List.length_take]; omega
  ·simp; omega
  ·simp only [overS, if_neg h]
noncomputable def zeb : Ent Tryz.prog := .ofL 23 (consL strT (consL (intT .i64) (consL strT nilL))) (fun (s, at_, t, _) => (s.length ≤ 9223372036854775807) ∧ (t.length ≤ 9223372036854775807)) (fun (s, at_, t, _) => .tup [.d (.str (overS s at_ t).1), .d (.int .i64 (overS s at_ t).2)]) (fun (s, at_, t, _) hp => ⟨rfl, zox s at_ t hp.1 hp.2⟩)
attribute [go_sem] zeb
theorem zq8 (n : Int) (size : Int) (h0 : 0 ≤ n) (h1 : n < 18446744073709551616) : ACall Tryz.prog 119 0 [.d (.int .u64 n), .d (.int .i64 size)] [] (fun r _ => r = .d (.str (putS8 n size))) := by
 refine zz ?_
 refine zk Tryz.func119 rfl (zv Tryz.func119 (by kernel_rfl) rfl) Tryz.ntmps119 (by simp) (fun base => ?_)
 by_cases h : size < 1 ∨ 8 < size
 ·have hdec : (decide (size < 1) || decide (8 < size)) = true := by simpa using h
  repeat' (first | ((first | refine za noTab (zb _) (fun K hK => ?_) | refine zc noTab (zb _) ?_ | refine zh ?_ | refine zi ?_ | refine zn ?_); simp only [go_sem, aeq, aeq.aeqF, simprocAttr, hdec, Tryz.results119]) | refine zq (fun K hK => ?_) | refine zp ?_ | refine zf rfl ?_ | refine zg rfl ?_ | refine zo rfl (fun hc => ?_) (fun hc => ?_) | (refine hK _ ?_; clear hK K) | with_reducible refine And.intro ?_ ?_ | omega | assumption | refine fun (hg : (_ : Bool) = (_ : Bool)) => ?_ | clear hK K)
  rw [putS8, if_pos h]
 ·have hdec : (decide (size < 1) || decide (8 < size)) = false := by simpa using h
  obtain ⟨z, rfl, hz8⟩ : ∃ z : Nat, size = (z : Int) ∧ z ≤ 8 := ⟨size.toNat, by omega, by omega⟩
  repeat' (first | ((first | refine za noTab (zb _) (fun K hK => ?_) | refine zc noTab (zb _) ?_ | refine zh ?_ | refine zi ?_ | refine zn ?_); simp only [go_sem, aeq, aeq.aeqF, simprocAttr, hdec, Int.toNat_natCast, Tryz.results119]) | refine zq (fun K hK => ?_) | refine zp ?_ | refine zf rfl ?_ | refine zg rfl ?_ | refine zo rfl (fun hc => ?_) (fun hc => ?_) | (refine hK _ ?_; clear hK K) | with_reducible refine And.intro ?_ ?_ | omega | assumption | refine fun (hg : (_ : Bool) = (_ : Bool)) => ?_ | clear hK K)
  refine zO (fun q : { q : Nat × Txt // q.1 ≤ z ∧ q.2.length = z ∧ q.2.drop (z - q.1) = putN n.toNat q.1 } => ⟨[(0, true, .d (.int .u64 n)), (1, true, .d (.int .i64 z)), (5, true, .osl 0 1 z 0 z), (6, true, .d (.int .i64 q.1.1))], [(0, .arr 1 (zy q.1.2))], some []⟩) (fun q => z - q.1.1) ⟨(0, List.replicate z 0), Nat.zero_le _, by simp, by simp [putN]⟩ (by simp only [AS.le, leT, leH, zr, AsgK, AV.le, AV.leL, AObj.le, inH, idsT, idsH, AV.ids, AV.idsL, AV.idsR, AObj.ids, lk, hget, go_sem, aeq, aeq.aeqF, simprocAttr, zdO] <;> and_intros <;> rfl) (fun q => ?_)
  obtain ⟨⟨i, b⟩, hi, hbl, hbd⟩ := q
  simp only at hi hbl hbd ⊢
  rcases Nat.lt_or_ge i z with hlt | hge
  ·have hcmp : decide ((i : Int) < (z : Int)) = true := decide_eq_true (by omega)
   have hwi := zV (i := i) (by omega)
   have hm1 : IntKind.i64.wrap ((z : Int) - 1) = (z : Int) - 1 := zD (by omega) (by omega)
   have hm2 : IntKind.i64.wrap ((z : Int) - 1 - i) = ((z - 1 - i : Nat) : Int) := by rw [zD (by omega) (by omega)]; omega
   have hm3 : IntKind.i64.wrap (8 * (i : Int)) = ((8 * i : Nat) : Int) := by rw [zD (by omega) (by omega)]; omega
   have hb0 : (zy b).length = z := by rw [zy, List.length_map, hbl]
   have hbp := zi9 (b := b) (k := z - 1 - i) (by omega) _ (zq6 h0 (i := i) (by omega))
   have hzi : z - 1 - i + 1 = z - i := by omega
   repeat' (first | ((first | refine za noTab (zb _) (fun K hK => ?_) | refine zc noTab (zb _) ?_ | refine zh ?_ | refine zi ?_ | refine zn ?_); simp only [go_sem, aeq, aeq.aeqF, simprocAttr, hcmp, hm1, hm2, hm3, hb0, Int.toNat_natCast, Tryz.results119]) | refine zq (fun K hK => ?_) | refine zp ?_ | refine zf rfl ?_ | refine zg rfl ?_ | refine zo rfl (fun hc => ?_) (fun hc => ?_) | (refine hK _ ?_; clear hK K) | with_reducible refine And.intro ?_ ?_ | omega | assumption | refine fun (hg : (_ : Bool) = (_ : Bool)) => ?_ | clear hK K)
   exact ⟨⟨(i + 1, b.set (z - 1 - i) (UInt8.ofNat (n.toNat / 256 ^ i))), by omega, by simpa using hbl, by rw [zja, ← hbd, ← hzi, ← zq5 (by omega)]; congr 1; omega⟩, by simp only [AS.le, leT, leH, zr, AsgK, AV.le, AV.leL, AObj.le, inH, idsT, idsH, AV.ids, AV.idsL, AV.idsR, AObj.ids, lk, hget, go_sem, aeq, aeq.aeqF, simprocAttr, hwi, hbp], by simp; omega⟩
  ·have hcmp : decide ((i : Int) < (z : Int)) = false := decide_eq_false (by omega)
   have hb1 : (z = (zy b).length) = True := eq_true (by rw [zy, List.length_map, hbl])
   have hb2 : List.take z (zy b) = zy b := List.take_of_length_le (by rw [zy, List.length_map, hbl]; omega)
   repeat' (first | ((first | refine za noTab (zb _) (fun K hK => ?_) | refine zc noTab (zb _) ?_ | refine zh ?_ | refine zi ?_ | refine zn ?_); simp only [go_sem, aeq, aeq.aeqF, simprocAttr, hcmp, hb1, hb2, if_true, zar, zbg, Tryz.results119]) | refine zq (fun K hK => ?_) | refine zp ?_ | refine zf rfl ?_ | refine zg rfl ?_ | refine zo rfl (fun hc => ?_) (fun hc => ?_) | (refine hK _ ?_; clear hK K) | with_reducible refine And.intro ?_ ?_ | omega | assumption | refine fun (hg : (_ : Bool) = (_ : Bool)) => ?_ | clear hK K)
   have : i = z := by omega
   subst this
   rw [Nat.sub_self, List.drop_zero] at hbd
   rw [putS8, if_neg h, Int.toNat_natCast, hbd]
noncomputable def zcs : Ent Tryz.prog := .ofL 119 (consL (intT .u64) (consL (intT .i64) nilL)) (fun (n, size, _) => (0 ≤ n) ∧ (n < 18446744073709551616)) (fun (n, size, _) => .d (.str (putS8 n size))) (fun (n, size, _) hp => ⟨rfl, zq8 n size hp.1 hp.2⟩)
attribute [go_sem] zcs
theorem zoy (s : Txt) (size : Int) (hs : s.length ≤ 9223372036854775807) : ACall Tryz.prog 57 0 [.d (.str s), .d (.int .i64 size)] [] (fun r _ => r = .tup [.d (.int .u64 (takeS s size).1), .d (.str (takeS s size).2.1), .d (.int .i64 (takeS s size).2.2)]) := by
 refine zk Tryz.func57 rfl (zv Tryz.func57 (by kernel_rfl) rfl) Tryz.ntmps57 (by simp) (fun base => ?_)
 by_cases h : size < 1 ∨ 8 < size
 ·have hdec : (decide (size < 1) || decide (8 < size)) = true := by simpa using h
  repeat' (first | ((first | refine za noTab (zb _) (fun K hK => ?_) | refine zc noTab (zb _) ?_ | refine ze noTab (zb _) mx (fun K hK => ?_) | refine zj noTab (zb _) mx ?_ | refine zh ?_ | refine zi ?_ | refine zn ?_); simp only [go_sem, aeq, aeq.aeqF, simprocAttr, hdec, Tryz.results57]) | refine zq (fun K hK => ?_) | refine zp ?_ | refine zf rfl ?_ | refine zg rfl ?_ | refine zo rfl (fun hc => ?_) (fun hc => ?_) | (refine hK _ ?_; clear hK K) | with_reducible refine And.intro ?_ ?_ | (refine (show zt _ _ = true from ?_); kernel_rfl) | omega | assumption | refine fun (hg : (_ : Bool) = (_ : Bool)) => ?_ | clear hK K)
  rw [takeS, if_pos h]
 ·have hdec : (decide (size < 1) || decide (8 < size)) = false := by simpa using h
  obtain ⟨z, rfl, hz8⟩ : ∃ z : Nat, size = (z : Int) ∧ z ≤ 8 := ⟨size.toNat, by omega, by omega⟩
  repeat' (first | ((first | refine za noTab (zb _) (fun K hK => ?_) | refine zc noTab (zb _) ?_ | refine ze noTab (zb _) mx (fun K hK => ?_) | refine zj noTab (zb _) mx ?_ | refine zh ?_ | refine zi ?_ | refine zn ?_); simp only [go_sem, aeq, aeq.aeqF, simprocAttr, hdec, Int.toNat_natCast, Tryz.results57]) | refine zq (fun K hK => ?_) | refine zp ?_ | refine zf rfl ?_ | refine zg rfl ?_ | refine zo rfl (fun hc => ?_) (fun hc => ?_) | (refine hK _ ?_; clear hK K) | with_reducible refine And.intro ?_ ?_ | (refine (show zt _ _ = true from ?_); kernel_rfl) | omega | assumption | refine fun (hg : (_ : Bool) = (_ : Bool)) => ?_ | clear hK K)
  ·have hc : (s.length : Int) < z := by simpa using hc
   simp only [takeS, if_neg h, if_pos hc]
  have hc : ¬ (s.length : Int) < z := by simpa using hc
  refine zO (fun q : { i : Nat // i ≤ z } => ⟨[(0, true, .d (.str s)), (1, true, .d (.int .i64 z)), (7, true, .d (.int .u64 (takeN (s.take q.1)))), (8, true, .d (.int .i64 q.1))], [], some []⟩) (fun q => z - q.1) ⟨0, Nat.zero_le _⟩ (by simp only [AS.le, leT, leH, zr, AsgK, AV.le, AV.leL, AObj.le, inH, idsT, idsH, AV.ids, AV.idsL, AV.idsR, AObj.ids, lk, hget, go_sem, aeq, aeq.aeqF, simprocAttr] <;> and_intros <;> rfl) (fun q => ?_)
  obtain ⟨i, hi⟩ := q
  simp only at hi ⊢
  rcases Nat.lt_or_ge i z with hlt | hge
  ·have hcmp : decide ((i : Int) < (z : Int)) = true := decide_eq_true (by omega)
   have hwi := zV (i := i) (by omega)
   obtain ⟨c, hq⟩ := zau (l := s) (i := i) (by omega)
   have hgd : s.getD i 0 = c := by rw [List.getD_eq_getElem?_getD, hq]; rfl
   have hst := zow hq (by omega)
   repeat' (first | ((first | refine za noTab (zb _) (fun K hK => ?_) | refine zc noTab (zb _) ?_ | refine ze noTab (zb _) mx (fun K hK => ?_) | refine zj noTab (zb _) mx ?_ | refine zh ?_ | refine zi ?_ | refine zn ?_); simp only [go_sem, aeq, aeq.aeqF, simprocAttr, hcmp, hgd, Int.toNat_natCast, Tryz.results57]) | refine zq (fun K hK => ?_) | refine zp ?_ | refine zf rfl ?_ | refine zg rfl ?_ | refine zo rfl (fun hc => ?_) (fun hc => ?_) | (refine hK _ ?_; clear hK K) | with_reducible refine And.intro ?_ ?_ | (refine (show zt _ _ = true from ?_); kernel_rfl) | omega | assumption | refine fun (hg : (_ : Bool) = (_ : Bool)) => ?_ | clear hK K)
   exact ⟨⟨i + 1, by omega⟩, by simp only [AS.le, leT, leH, zr, AsgK, AV.le, AV.leL, AObj.le, inH, idsT, idsH, AV.ids, AV.idsL, AV.idsR, AObj.ids, lk, hget, go_sem, aeq, aeq.aeqF, simprocAttr, hwi, hst], by simp; omega⟩
  ·have hcmp : decide ((i : Int) < (z : Int)) = false := decide_eq_false (by omega)
   repeat' (first | ((first | refine za noTab (zb _) (fun K hK => ?_) | refine zc noTab (zb _) ?_ | refine ze noTab (zb _) mx (fun K hK => ?_) | refine zj noTab (zb _) mx ?_ | refine zh ?_ | refine zi ?_ | refine zn ?_); simp only [go_sem, aeq, aeq.aeqF, simprocAttr, hcmp, Int.toNat_natCast, Tryz.results57]) | refine zq (fun K hK => ?_) | refine zp ?_ | refine zf rfl ?_ | refine zg rfl ?_ | refine zo rfl (fun hc => ?_) (fun hc => ?_) | (refine hK _ ?_; clear hK K) | with_reducible refine And.intro ?_ ?_ | (refine (show zt _ _ = true from ?_); kernel_rfl) | omega | assumption | refine fun (hg : (_ : Bool) = (_ : Bool)) => ?_ | clear hK K)
   have : i = z := by omega
   subst this
   simp only [takeS, if_neg h, if_neg hc, Int.toNat_natCast]
noncomputable def zec : Ent Tryz.prog := .ofL 57 (consL strT (consL (intT .i64) nilL)) (fun (s, size, _) => s.length ≤ 9223372036854775807) (fun (s, size, _) => .tup [.d (.int .u64 (takeS s size).1), .d (.str (takeS s size).2.1), .d (.int .i64 (takeS s size).2.2)]) (fun (s, size, _) hp => ⟨rfl, zoy s size hp⟩)
attribute [go_sem] zec
theorem zjb (c : UInt8) : (decide ((c.toNat : Int) < 33) || decide ((126 : Int) < c.toNat)) = !nameB c := by
 rw [nameB, Bool.not_and]
 congr 1
 ·by_cases h : c.toNat < 33
  ·rw [decide_eq_true (p := (c.toNat : Int) < 33) (by omega), decide_eq_false (by omega)]; rfl
  ·rw [decide_eq_false (p := (c.toNat : Int) < 33) (by omega), decide_eq_true (by omega)]; rfl
 ·by_cases h : 126 < c.toNat
  ·rw [decide_eq_true (p := (126 : Int) < c.toNat) (by omega), decide_eq_false (by omega)]; rfl
  ·rw [decide_eq_false (p := (126 : Int) < c.toNat) (by omega), decide_eq_true (by omega)]; rfl
theorem ztj (n k : Nat) : decide ((n : Int) ≤ k) = decide (n ≤ k) := by
 by_cases h : n ≤ k
 ·rw [decide_eq_true h, decide_eq_true (by omega)]
 ·rw [decide_eq_false h, decide_eq_false (by omega)]
theorem zmd (s : Txt) (hs : s.length ≤ 9223372036854775807) : ACall Tryz.prog 67 0 [.d (.str s)] [] (fun r _ => r = .d (.bool (zgF s))) := by
 refine zk Tryz.func67 rfl (zv Tryz.func67 (by kernel_rfl) rfl) Tryz.ntmps67 (by simp) (fun base => ?_)
 repeat' (first | ((first | refine za noTab (zb _) (fun K hK => ?_) | refine zc noTab (zb _) ?_ | refine zh ?_ | refine zi ?_ | refine zn ?_); simp only [go_sem, aeq, aeq.aeqF, simprocAttr, Tryz.results67]) | refine zq (fun K hK => ?_) | refine zp ?_ | refine zf rfl ?_ | refine zg rfl ?_ | refine zo rfl (fun hc => ?_) (fun hc => ?_) | (refine hK _ ?_; clear hK K) | with_reducible refine And.intro ?_ ?_ | omega | assumption | refine fun (hg : (_ : Bool) = (_ : Bool)) => ?_ | clear hK K)
 refine zO (fun q : { i : Nat // i ≤ s.length ∧ s.all nameB = (s.drop i).all nameB } => ⟨[(0, true, .d (.str s)), (3, true, .d (.int .i64 q.1))], [], some []⟩) (fun q => s.length - q.1) ⟨0, Nat.zero_le _, rfl⟩ (by simp only [AS.le, leT, leH, zr, AsgK, AV.le, AV.leL, AObj.le, inH, idsT, idsH, AV.ids, AV.idsL, AV.idsR, AObj.ids, lk, hget, go_sem, aeq, aeq.aeqF, simprocAttr] <;> and_intros <;> rfl) (fun q => ?_)
 obtain ⟨i, hi, hf⟩ := q
 simp only at hi hf ⊢
 rcases Nat.lt_or_ge i s.length with hlt | hge
 ·have hcmp : decide ((i : Int) < (s.length : Int)) = true := decide_eq_true (by omega)
  have hwi := zV (i := i) (by omega)
  obtain ⟨c, hq⟩ := zau (l := s) (i := i) (by omega)
  have hgd : s.getD i 0 = c := by rw [List.getD_eq_getElem?_getD, hq]; rfl
  rw [zd6 hq, List.all_cons] at hf
  repeat' (first | ((first | refine za noTab (zb _) (fun K hK => ?_) | refine zc noTab (zb _) ?_ | refine zh ?_ | refine zi ?_ | refine zn ?_); simp only [go_sem, aeq, aeq.aeqF, simprocAttr, hcmp, hgd, Int.toNat_natCast, Tryz.results67]) | refine zq (fun K hK => ?_) | refine zp ?_ | refine zf rfl ?_ | refine zg rfl ?_ | refine zo rfl (fun hc => ?_) (fun hc => ?_) | (refine hK _ ?_; clear hK K) | with_reducible refine And.intro ?_ ?_ | omega | assumption | refine fun (hg : (_ : Bool) = (_ : Bool)) => ?_ | clear hK K)
  ·rw [zjb] at hc
   have hc : nameB c = false := by simpa using hc
   rw [zgF, hf, hc]; rfl
  ·rw [zjb] at hc
   have hc : nameB c = true := by simpa using hc
   rw [hc, Bool.true_and] at hf
   exact ⟨⟨i + 1, by omega, hf⟩, by simp only [AS.le, leT, leH, zr, AsgK, AV.le, AV.leL, AObj.le, inH, idsT, idsH, AV.ids, AV.idsL, AV.idsR, AObj.ids, lk, hget, go_sem, aeq, aeq.aeqF, simprocAttr, hwi], by simp; omega⟩
 ·have hcmp : decide ((i : Int) < (s.length : Int)) = false := decide_eq_false (by omega)
  repeat' (first | ((first | refine za noTab (zb _) (fun K hK => ?_) | refine zc noTab (zb _) ?_ | refine zh ?_ | refine zi ?_ | refine zn ?_); simp only [go_sem, aeq, aeq.aeqF, simprocAttr, hcmp, Int.toNat_natCast, Tryz.results67]) | refine zq (fun K hK => ?_) | refine zp ?_ | refine zf rfl ?_ | refine zg rfl ?_ | refine zo rfl (fun hc => ?_) (fun hc => ?_) | (refine hK _ ?_; clear hK K) | with_reducible refine And.intro ?_ ?_ | omega | assumption | refine fun (hg : (_ : Bool) = (_ : Bool)) => ?_ | clear hK K)
  rw [zgF, hf, List.drop_of_length_le (by omega), show (8 : Int) = ((8 : Nat) : Int) from rfl, ztj]
  rfl
noncomputable def zdo : Ent Tryz.prog := .ofL 67 (consL strT nilL) (fun (s, _) => s.length ≤ 9223372036854775807) (fun (s, _) => .d (.bool (zgF s))) (fun (s, _) hp => ⟨rfl, zmd s hp⟩)
attribute [go_sem] zdo
open Go Go.Proofs
theorem zoz (n : Int) (h0 : 0 ≤ n) (h1 : n ≤ 140737488355328) : ACall Tryz.prog 30 0 [.d (.str [0]), .d (.int .i64 n)] [] (fun r _ => r = .d (.str (List.replicate n.toNat 0))) := by
 obtain ⟨m, rfl⟩ : ∃ m : Nat, n = m := ⟨n.toNat, by omega⟩
 exact zqU m (by omega)
noncomputable def za7 : Ent Tryz.prog := .ofL 30 (consL (zk0 (.d (.str [0]))) (consL (intT .i64) nilL)) (fun (_, n, _) => (0 ≤ n) ∧ (n ≤ 140737488355328)) (fun (_, n, _) => .d (.str (List.replicate n.toNat 0))) (fun (_, n, _) hp => ⟨rfl, zoz n hp.1 hp.2⟩)
attribute [go_sem] za7
noncomputable def tabZ : Tab := tabOf [za7]
theorem zoA : TabOk Tryz.prog tabZ := zA _
@[go_sem] theorem zqa (args : List AV) : tabZ 30 args = (za7).e args := rfl
theorem zup (s : Txt) (n : Int) (hs : s.length ≤ 9223372036854775807) : ACall Tryz.prog 124 0 [.d (.str s), .d (.int .i64 n)] [] (fun r _ => r = .tup [.d (.str (padS s n).1), .d (.int .i64 (padS s n).2)]) := by
 refine zk Tryz.func124 rfl (zv Tryz.func124 (by kernel_rfl) rfl) Tryz.ntmps124 (by simp) (fun base => ?_)
 by_cases h : n < s.length ∨ 65536 < n
 ·have hdec : (decide (n < (s.length : Int)) || decide (65536 < n)) = true := by simpa using h
  repeat' (first | ((first | refine za noTab (zb _) (fun K hK => ?_) | refine zc noTab (zb _) ?_ | refine zh ?_ | refine zi ?_ | refine zn ?_); simp only [go_sem, aeq, aeq.aeqF, simprocAttr, hdec, Tryz.results124]) | refine zq (fun K hK => ?_) | refine zf rfl ?_ | refine zg rfl ?_ | refine zo rfl (fun hc => ?_) (fun hc => ?_) | (refine hK _ ?_; clear hK K) | with_reducible refine And.intro ?_ ?_ | omega | assumption | refine fun (hg : (_ : Bool) = (_ : Bool)) => ?_ | clear hK K)
  rw [padS, if_pos h]
 ·have hdec : (decide (n < (s.length : Int)) || decide (65536 < n)) = false := by simpa using h
  have hm : IntKind.i64.wrap (n - s.length) = n - s.length := zD (by omega) (by omega)
  repeat' (first | ((first | refine za tabZ (zoA) (fun K hK => ?_) | refine zc tabZ (zoA) ?_ | refine zh ?_ | refine zi ?_ | refine zn ?_); simp only [go_sem, aeq, aeq.aeqF, simprocAttr, hdec, hm, Tryz.results124]) | refine zq (fun K hK => ?_) | refine zf rfl ?_ | refine zg rfl ?_ | refine zo rfl (fun hc => ?_) (fun hc => ?_) | (refine hK _ ?_; clear hK K) | with_reducible refine And.intro ?_ ?_ | omega | assumption | refine fun (hg : (_ : Bool) = (_ : Bool)) => ?_ | clear hK K)
  ·rw [List.length_replicate]; omega
  ·simp only [padS, if_neg h]
noncomputable def zeC : Ent Tryz.prog := .ofL 124 (consL strT (consL (intT .i64) nilL)) (fun (s, n, _) => s.length ≤ 9223372036854775807) (fun (s, n, _) => .tup [.d (.str (padS s n).1), .d (.int .i64 (padS s n).2)]) (fun (s, n, _) hp => ⟨rfl, zup s n hp⟩)
attribute [go_sem] zeC
theorem ztk (s : Txt) (at_ : Int) (t : Txt) (hs : s.length ≤ 9223372036854775807) (ht : t.length ≤ 9223372036854775807) : ACall Tryz.prog 96 0 [.d (.str s), .d (.int .i64 at_), .d (.str t)] [] (fun r _ => r = .tup [.d (.str (overS s at_ t).1), .d (.int .i64 (overS s at_ t).2)]) := by
 refine zk Tryz.func96 rfl (zv Tryz.func96 (by kernel_rfl) rfl) Tryz.ntmps96 (by simp) (fun base => ?_)
 have hm : IntKind.i64.wrap ((s.length : Int) - t.length) = (s.length : Int) - t.length := zD (by omega) (by omega)
 by_cases h : at_ < 0 ∨ (s.length : Int) - t.length < at_
 ·have hdec : (decide (at_ < 0) || decide ((s.length : Int) - t.length < at_)) = true := by simpa using h
  repeat' (first | ((first | refine za noTab (zb _) (fun K hK => ?_) | refine zc noTab (zb _) ?_ | refine ze noTab (zb _) mx (fun K hK => ?_) | refine zj noTab (zb _) mx ?_ | refine zh ?_ | refine zi ?_ | refine zn ?_); simp only [go_sem, aeq, aeq.aeqF, simprocAttr, hm, hdec, Tryz.results96]) | refine zq (fun K hK => ?_) | refine zf rfl ?_ | refine zg rfl ?_ | refine zo rfl (fun hc => ?_) (fun hc => ?_) | (refine hK _ ?_; clear hK K) | with_reducible refine And.intro ?_ ?_ | (refine (show zt _ _ = true from ?_); kernel_rfl) | omega | assumption | refine fun (hg : (_ : Bool) = (_ : Bool)) => ?_ | clear hK K)
  rw [overS, if_pos h]
 ·have hdec : (decide (at_ < 0) || decide ((s.length : Int) - t.length < at_)) = false := by simpa using h
  have hm2 : IntKind.i64.wrap (at_ + t.length) = at_ + t.length := zD (by omega) (by omega)
  repeat' (first | ((first | refine za noTab (zb _) (fun K hK => ?_) | refine zc noTab (zb _) ?_ | refine ze noTab (zb _) mx (fun K hK => ?_) | refine zj noTab (zb _) mx ?_ | refine zh ?_ | refine zi ?_ | refine zn ?_); simp only [go_sem, aeq, aeq.aeqF, simprocAttr, hm, hdec, hm2, Tryz.results96]) | refine zq (fun K hK => ?_) | refine zf rfl ?_ | refine zg rfl ?_ | refine zo rfl (fun hc => ?_) (fun hc => ?_) | (refine hK _ ?_; clear hK K) | with_reducible refine And.intro ?_ ?_ | (refine (show zt _ _ = true from ?_); kernel_rfl) | omega | assumption | refine fun (hg : (_ : Bool) = (_ : Bool)) => ?_ | clear hK K)
  ·rw [List.length_take]; omega
  ·simp; omega
  ·simp only [overS, if_neg h]
noncomputable def zdp : Ent Tryz.prog := .ofL 96 (consL strT (consL (intT .i64) (consL strT nilL))) (fun (s, at_, t, _) => (s.length ≤ 9223372036854775807) ∧ (t.length ≤ 9223372036854775807)) (fun (s, at_, t, _) => .tup [.d (.str (overS s at_ t).1), .d (.int .i64 (overS s at_ t).2)]) (fun (s, at_, t, _) hp => ⟨rfl, ztk s at_ t hp.1 hp.2⟩)
attribute [go_sem] zdp
theorem zuq (k s : Nat) (hs : s ≤ 64) (h : k * 2 ^ s < 18446744073709551616) : ishl .u64 (k : Int) (s : Int) = ((k * 2 ^ s : Nat) : Int) := by
 unfold ishl
 rw [show min ((s : Int).toNat) IntKind.u64.bits = s by show min ((s : Int).toNat) 64 = s; omega, IntKind.wrap_u64]
 have : (k : Int) * 2 ^ s = ((k * 2 ^ s : Nat) : Int) := by norm_cast
 rw [this]
 omega
theorem zme (a b : Nat) (ha : a < 18446744073709551616) (hb : b < 18446744073709551616) : ibits .or .u64 (a : Int) (b : Int) = ((a ||| b : Nat) : Int) := by
 have hab : a ||| b < 18446744073709551616 := Nat.or_lt_two_pow (n := 64) ha hb
 unfold ibits
 simp only [show IntKind.u64.bits = 64 from rfl, BitVec.ofInt_natCast, BitVec.toNat_or, BitVec.toNat_ofNat]
 rw [Nat.mod_eq_of_lt (by omega), Nat.mod_eq_of_lt (by omega), IntKind.wrap_u64]
 omega
theorem zmf {l : Txt} {i : Nat} {c : UInt8} (hq : l[i]? = some c) (hi : i < 8) : ibits .or .u64 (ishl .u64 ((takeN (l.take i) : Nat) : Int) 8) (IntKind.u64.wrap (c.toNat : Int)) = ((takeN (l.take (i + 1)) : Nat) : Int) := by
 have h1 : takeN (l.take i) < 256 ^ 7 := zcM (by rw [List.length_take]; omega)
 have h2 := c.toNat_lt
 rw [zaH (x := (c.toNat : Int)) (by omega) (by omega), show (8 : Int) = ((8 : Nat) : Int) from rfl, zuq _ _ (by omega) (by omega), zme _ _ (by omega) (by omega), zch hq, zff, ← Nat.shiftLeft_eq, ← Nat.shiftLeft_add_eq_or_of_lt (i := 8) (by omega), Nat.shiftLeft_eq]
theorem ztl (s : Txt) (size : Int) (hs : s.length ≤ 9223372036854775807) : ACall Tryz.prog 131 0 [.d (.str s), .d (.int .i64 size)] [] (fun r _ => r = .tup [.d (.int .u64 (takeS s size).1), .d (.str (takeS s size).2.1), .d (.int .i64 (takeS s size).2.2)]) := by
 refine zz ?_
 refine zk Tryz.func131 rfl (zv Tryz.func131 (by kernel_rfl) rfl) Tryz.ntmps131 (by simp) (fun base => ?_)
 by_cases h : size < 1 ∨ 8 < size
 ·have hdec : (decide (size < 1) || decide (8 < size)) = true := by simpa using h
  repeat' (first | ((first | refine za noTab (zb _) (fun K hK => ?_) | refine zc noTab (zb _) ?_ | refine ze noTab (zb _) mx (fun K hK => ?_) | refine zj noTab (zb _) mx ?_ | refine zh ?_ | refine zi ?_ | refine zn ?_); simp only [go_sem, aeq, aeq.aeqF, simprocAttr, hdec, Tryz.results131]) | refine zq (fun K hK => ?_) | refine zp ?_ | refine zf rfl ?_ | refine zg rfl ?_ | refine zo rfl (fun hc => ?_) (fun hc => ?_) | (refine hK _ ?_; clear hK K) | with_reducible refine And.intro ?_ ?_ | (refine (show zt _ _ = true from ?_); kernel_rfl) | omega | assumption | refine fun (hg : (_ : Bool) = (_ : Bool)) => ?_ | clear hK K)
  rw [takeS, if_pos h]
 ·have hdec : (decide (size < 1) || decide (8 < size)) = false := by simpa using h
  obtain ⟨z, rfl, hz8⟩ : ∃ z : Nat, size = (z : Int) ∧ z ≤ 8 := ⟨size.toNat, by omega, by omega⟩
  repeat' (first | ((first | refine za noTab (zb _) (fun K hK => ?_) | refine zc noTab (zb _) ?_ | refine ze noTab (zb _) mx (fun K hK => ?_) | refine zj noTab (zb _) mx ?_ | refine zh ?_ | refine zi ?_ | refine zn ?_); simp only [go_sem, aeq, aeq.aeqF, simprocAttr, hdec, Int.toNat_natCast, Tryz.results131]) | refine zq (fun K hK => ?_) | refine zp ?_ | refine zf rfl ?_ | refine zg rfl ?_ | refine zo rfl (fun hc => ?_) (fun hc => ?_) | (refine hK _ ?_; clear hK K) | with_reducible refine And.intro ?_ ?_ | (refine (show zt _ _ = true from ?_); kernel_rfl) | omega | assumption | refine fun (hg : (_ : Bool) = (_ : Bool)) => ?_ | clear hK K)
  ·have hc : (s.length : Int) < z := by simpa using hc
   simp only [takeS, if_neg h, if_pos hc]
  ·have hc : ¬ (s.length : Int) < z := by simpa using hc
   omega
  ·rw [zba]
  have hc : ¬ (s.length : Int) < z := by simpa using hc
  have hlz : (s.take z).length = z := by rw [List.length_take]; omega
  simp only [hlz]
  refine zO (fun q : { i : Nat // i ≤ z } => ⟨[(0, true, .d (.str s)), (1, true, .d (.int .i64 z)), (7, true, .d (.int .u64 (takeN (s.take q.1)))), (25, true, .osl 0 1 z 0 z), (26, true, .d (.int .i64 z)), (27, true, .d (.int .i64 q.1))], [(0, .arr 1 (zy (s.take z)))], some []⟩) (fun q => z - q.1) ⟨0, Nat.zero_le _⟩ (by simp only [AS.le, leT, leH, zr, AsgK, AV.le, AV.leL, AObj.le, inH, idsT, idsH, AV.ids, AV.idsL, AV.idsR, AObj.ids, lk, hget, go_sem, aeq, aeq.aeqF, simprocAttr] <;> and_intros <;> rfl) (fun q => ?_)
  obtain ⟨i, hi⟩ := q
  simp only at hi ⊢
  rcases Nat.lt_or_ge i z with hlt | hge
  ·have hcmp : decide ((i : Int) < (z : Int)) = true := decide_eq_true (by omega)
   have hwi := zV (i := i) (by omega)
   obtain ⟨c, hq⟩ := zau (l := s) (i := i) (by omega)
   have hgd : (zy (s.take z)).getD i [] = [.int .u8 c.toNat] := by
    rw [zfP (by rw [hlz]; omega), List.getD_eq_getElem?_getD, List.getElem?_take, if_pos hlt, hq]; rfl
   have hst := zmf hq (by omega)
   have hb0 : (zy (s.take z)).length = z := by rw [zba, hlz]
   repeat' (first | ((first | refine za noTab (zb _) (fun K hK => ?_) | refine zc noTab (zb _) ?_ | refine ze noTab (zb _) mx (fun K hK => ?_) | refine zj noTab (zb _) mx ?_ | refine zh ?_ | refine zi ?_ | refine zn ?_); simp only [go_sem, aeq, aeq.aeqF, simprocAttr, hcmp, hgd, hb0, Int.toNat_natCast, Tryz.results131]) | refine zq (fun K hK => ?_) | refine zp ?_ | refine zf rfl ?_ | refine zg rfl ?_ | refine zo rfl (fun hc => ?_) (fun hc => ?_) | (refine hK _ ?_; clear hK K) | with_reducible refine And.intro ?_ ?_ | (refine (show zt _ _ = true from ?_); kernel_rfl) | omega | assumption | refine fun (hg : (_ : Bool) = (_ : Bool)) => ?_ | clear hK K)
   exact ⟨⟨i + 1, by omega⟩, by simp only [AS.le, leT, leH, zr, AsgK, AV.le, AV.leL, AObj.le, inH, idsT, idsH, AV.ids, AV.idsL, AV.idsR, AObj.ids, lk, hget, go_sem, aeq, aeq.aeqF, simprocAttr, hwi, hst], by simp; omega⟩
  ·have hcmp : decide ((i : Int) < (z : Int)) = false := decide_eq_false (by omega)
   repeat' (first | ((first | refine za noTab (zb _) (fun K hK => ?_) | refine zc noTab (zb _) ?_ | refine ze noTab (zb _) mx (fun K hK => ?_) | refine zj noTab (zb _) mx ?_ | refine zh ?_ | refine zi ?_ | refine zn ?_); simp only [go_sem, aeq, aeq.aeqF, simprocAttr, hcmp, Int.toNat_natCast, Tryz.results131]) | refine zq (fun K hK => ?_) | refine zp ?_ | refine zf rfl ?_ | refine zg rfl ?_ | refine zo rfl (fun hc => ?_) (fun hc => ?_) | (refine hK _ ?_; clear hK K) | with_reducible refine And.intro ?_ ?_ | (refine (show zt _ _ = true from ?_); kernel_rfl) | omega | assumption | refine fun (hg : (_ : Bool) = (_ : Bool)) => ?_ | clear hK K)
   have : i = z := by omega
   subst this
   simp only [takeS, if_neg h, if_neg hc, Int.toNat_natCast]
noncomputable def zbV : Ent Tryz.prog := .ofL 131 (consL strT (consL (intT .i64) nilL)) (fun (s, size, _) => s.length ≤ 9223372036854775807) (fun (s, size, _) => .tup [.d (.int .u64 (takeS s size).1), .d (.str (takeS s size).2.1), .d (.int .i64 (takeS s size).2.2)]) (fun (s, size, _) hp => ⟨rfl, ztl s size hp⟩)
attribute [go_sem] zbV
open Go Go.Proofs
open Go Go.Proofs
def zcQ (z i : Nat) : List AV := [.d (.int .i64 ((z : Int) - 1 - i)), .any]
def zaQ (z : Nat) : List (List AV) := (List.range z).map (zcQ z)
def putB (m z i : Nat) : Txt := List.replicate (z - i) 0 ++ putN m i
def putH (m z i : Nat) : AHeap := [(3, .var [.osl 1 1 z 0 z]), (2, .var [.osl 1 1 z 0 z]), (1, .arr 1 (zy (putB m z i))), (0, .var [.d (.int .u64 ((m / 256 ^ i : Nat) : Int))])]
def putF (m z i : Nat) : AS := ⟨[(1, true, .vp 3 0)], putH m z i, some []⟩
theorem zeF {m z i : Nat} (h : i ≤ z) : (putB m z i).length = z := by
 rw [putB, List.length_append, List.length_replicate, zap]; omega
theorem zil (z : Nat) : (zaQ z).length = z := by simp [zaQ]
theorem zoK {z i : Nat} (h : i < z) : (zaQ z)[i]? = some (zcQ z i) := by simp [zaQ, h]
theorem zji {z i : Nat} (h : i < z) : (zaQ z).take i ++ [zcQ z i] = (zaQ z).take (i + 1) := by
 rw [zch (zoK h)]
theorem zoL {m z : Nat} (hz : z ≤ 8) (y : Yo Tryz.prog (zaQ z)) (v0 : Value)
  (hS : ∀ g M N A w, y.G g M N A w → ∃ F, ∃ i, i ≤ z ∧ SatH F (putH m z i) w ∧ Rep w F (putH m z i) (.vp 3 0) v0) {E : Env} {w : World} (hs : SatH E [] w) (hG : y.G (some []) E.M E.N (Own E []) w) :
  Calls Tryz.prog 222 (#[] ++ #[Value.func (.yield y.yl) #[] #[]] ++ #[v0]) w (fun e w' => ∃ v E' h' g, e = .returned v ∧ ((∀ xs, g = some xs → xs = zaQ z) ∧ h' = []) ∧ SatH E' h' w' ∧ Evo 100 E [] w E' h' w' ∧ y.G g E'.M E'.N (Own E' h') w') := by
 refine ziR (fl := 100) (pre := []) (caps := [.raw v0]) (h := []) (K := fun g h' => (∀ xs, g = some xs → xs = zaQ z) ∧ h' = []) Tryz.func222 rfl Tryz.ntmps222 rfl (by simp) y (fun base => ?_) hs (by simp [Reps]) (by simp [Reps, Rep]) hG
 have hS' : ∀ t : List (Nat × (Bool × AV)), lk t 1 = some (true, .raw v0) → ∀ g M N A w, y.G g M N A w → ∃ F, ∃ b : { i : Nat // i ≤ z }, SatH F (putF m z b.1).h w ∧ ∀ k g v, lk (putF m z b.1).t k = some (g, v) → g = true ∧ ∃ u, lk t k = some (true, .raw u) ∧ Rep w F (putF m z b.1).h v u := by
  intro t ht g M N A w hg
  obtain ⟨F, i, hi, h1, h2⟩ := hS g M N A w hg
  refine ⟨F, ⟨i, hi⟩, h1, ?_⟩
  intro k g v hk
  simp only [putF, lk] at hk
  split at hk
  ·rename_i e
   subst e
   simp only [Option.some.injEq, Prod.mk.injEq] at hk
   obtain ⟨rfl, rfl⟩ := hk
   exact ⟨rfl, v0, ht, h2⟩
  ·cases hk
 have hw0 : IntKind.i64.wrap ((z : Int) - 1) = (z : Int) - 1 := zD (by omega) (by omega)
 simp only [List.nil_append, zaS]
 refine zdZ noTab (zb _) _ _ (List.take_append_drop 4 _).symm (fun b : { i : Nat // i ≤ z } => putF m z b.1) (hS' _ rfl) (fun K hK b => ?_)
 simp only [go_sem, aeq, aeq.aeqF, simprocAttr, putF, putH]
 refine ⟨by rw [zba, zeF b.2], hK _ ?_⟩
 clear hK K b
 refine zp ?_
 refine zO (fun q : { j : Nat // j ≤ z } => ⟨[(0, true, .fn (.yield y.yl) [] []), (1, true, .raw v0), (3, true, .d (.int .i64 ((z : Int) - 1 - q.1)))], [], some ((zaQ z).take q.1)⟩) (fun q => z - q.1) ⟨0, Nat.zero_le _⟩ (by simp only [AS.le, leT, leH, zr, AsgK, AV.le, AV.leL, AObj.le, inH, idsT, idsH, AV.ids, AV.idsL, AV.idsR, AObj.ids, lk, hget, go_sem, aeq, aeq.aeqF, simprocAttr, hw0] <;> simp) (fun q => ?_)
 obtain ⟨j, hj⟩ := q
 simp only at hj ⊢
 rcases Nat.lt_or_ge j z with hlt | hge
 ·have hcmp : decide ((0 : Int) ≤ (z : Int) - 1 - j) = true := decide_eq_true (by omega)
  have hwj : IntKind.i64.wrap ((z : Int) - 1 - j - 1) = (z : Int) - 1 - (j + 1 : Nat) := by rw [zD (by omega) (by omega)]; omega
  have hp : ((zaQ z).take j ++ [zcQ z j]) <+: zaQ z := by rw [zji hlt]; exact List.take_prefix _ _
  have hpt := zji hlt
  simp only [zcQ] at hp hpt
  repeat' ((fail_if_success refine hds 3 (by rfl) ?_); first | (refine zL (fun i => decide (i < 100)) (by simp only [inH, idsH, hsel, AV.ids, AV.idsL, AV.idsR, AObj.ids, hget, go_sem, aeq, aeq.aeqF, simprocAttr]) ?_; simp only [go_sem, aeq, aeq.aeqF, simprocAttr, hcmp, hsel, keepT]; refine zn ?_; simp only [go_sem, aeq, aeq.aeqF, simprocAttr, hcmp]) | ((first | refine zu noTab (zb _) (fun K hK => ?_) | refine zB noTab (zb _) ?_ | refine zh ?_ | refine zi ?_ | refine zn ?_); simp only [go_sem, aeq, aeq.aeqF, simprocAttr, hcmp]) | refine zq (fun K hK => ?_) | refine zp ?_ | refine zf rfl ?_ | refine zg rfl ?_ | refine zo rfl (fun hc => ?_) (fun hc => ?_) | (refine hK _ ?_; clear hK K) | ((first | refine (show AS.le _ _ from ?_) | refine (show leH _ _ from ?_) | refine (show inH _ _ from ?_)); simp only [AS.le, leT, leH, zr, AsgK, AV.le, AV.leL, AObj.le, inH, idsT, idsH, AV.ids, AV.idsL, AV.idsR, AObj.ids, lk, hget, go_sem, aeq, aeq.aeqF, simprocAttr, hcmp]) | refine fun (r2 : Rnd _) => ?_ | with_reducible refine And.intro ?_ ?_ | exact ‹_ <+: _› | omega | assumption | clear hK K)
  refine zdZ noTab (zb _) _ _ (List.take_append_drop 6 _).symm (fun b : { i : Nat // i ≤ z } => putF m z b.1) (hS' _ rfl) (fun K hK b => ?_)
  have h3 : ((z : Int) - 1 - j).toNat < z := by omega
  have hbl : (zy (putB m z b.1)).length = z := by rw [zba, zeF b.2]
  simp only [go_sem, aeq, aeq.aeqF, simprocAttr, putF, putH, hbl]
  refine ⟨⟨by omega, by omega⟩, h3, hp, ?_, ?_⟩
  ·refine hK _ ?_
   clear hK K
   repeat' (first | (refine zL (fun i => decide (i < 100)) (by simp only [inH, idsH, hsel, AV.ids, AV.idsL, AV.idsR, AObj.ids, hget, go_sem, aeq, aeq.aeqF, simprocAttr]) ?_; simp only [go_sem, aeq, aeq.aeqF, simprocAttr, hsel, keepT]; refine zn ?_; simp only [go_sem, aeq, aeq.aeqF, simprocAttr]) | ((first | refine zu noTab (zb _) (fun K hK => ?_) | refine zB noTab (zb _) ?_ | refine zh ?_ | refine zi ?_ | refine zn ?_); simp only [go_sem, aeq, aeq.aeqF, simprocAttr]) | refine zq (fun K hK => ?_) | refine zp ?_ | refine zf rfl ?_ | refine zg rfl ?_ | refine zo rfl (fun hc => ?_) (fun hc => ?_) | (refine hK _ ?_; clear hK K) | ((first | refine (show AS.le _ _ from ?_) | refine (show leH _ _ from ?_) | refine (show inH _ _ from ?_)); simp only [AS.le, leT, leH, zr, AsgK, AV.le, AV.leL, AObj.le, inH, idsT, idsH, AV.ids, AV.idsL, AV.idsR, AObj.ids, lk, hget, go_sem, aeq, aeq.aeqF, simprocAttr]) | refine fun (r2 : Rnd _) => ?_ | with_reducible refine And.intro ?_ ?_ | exact ‹_ <+: _› | omega | assumption | clear hK K)
   exact ⟨⟨j + 1, by omega⟩, by simp only [AS.le, leT, leH, zr, AsgK, AV.le, AV.leL, AObj.le, inH, idsT, idsH, AV.ids, AV.idsL, AV.idsR, AObj.ids, lk, hget, go_sem, aeq, aeq.aeqF, simprocAttr, hwj, hpt], by simp; omega⟩
  ·refine hK _ ?_
   clear hK K
   repeat' (first | (refine zL (fun i => decide (i < 100)) (by simp only [inH, idsH, hsel, AV.ids, AV.idsL, AV.idsR, AObj.ids, hget, go_sem, aeq, aeq.aeqF, simprocAttr]) ?_; simp only [go_sem, aeq, aeq.aeqF, simprocAttr, hsel, keepT]; refine zn ?_; simp only [go_sem, aeq, aeq.aeqF, simprocAttr]) | ((first | refine zu noTab (zb _) (fun K hK => ?_) | refine zB noTab (zb _) ?_ | refine zh ?_ | refine zi ?_ | refine zn ?_); simp only [go_sem, aeq, aeq.aeqF, simprocAttr]) | refine zq (fun K hK => ?_) | refine zp ?_ | refine zf rfl ?_ | refine zg rfl ?_ | refine zo rfl (fun hc => ?_) (fun hc => ?_) | (refine hK _ ?_; clear hK K) | ((first | refine (show AS.le _ _ from ?_) | refine (show leH _ _ from ?_) | refine (show inH _ _ from ?_)); simp only [AS.le, leT, leH, zr, AsgK, AV.le, AV.leL, AObj.le, inH, idsT, idsH, AV.ids, AV.idsL, AV.idsR, AObj.ids, lk, hget, go_sem, aeq, aeq.aeqF, simprocAttr]) | refine fun (r2 : Rnd _) => ?_ | with_reducible refine And.intro ?_ ?_ | exact ‹_ <+: _› | omega | assumption | clear hK K)
 ·have hcmp : decide ((0 : Int) ≤ (z : Int) - 1 - j) = false := decide_eq_false (by omega)
  repeat' (first | (refine zL (fun i => decide (i < 100)) (by simp only [inH, idsH, hsel, AV.ids, AV.idsL, AV.idsR, AObj.ids, hget, go_sem, aeq, aeq.aeqF, simprocAttr]) ?_; simp only [go_sem, aeq, aeq.aeqF, simprocAttr, hcmp, hsel, keepT]; refine zn ?_; simp only [go_sem, aeq, aeq.aeqF, simprocAttr, hcmp]) | ((first | refine zu noTab (zb _) (fun K hK => ?_) | refine zB noTab (zb _) ?_ | refine zh ?_ | refine zi ?_ | refine zn ?_); simp only [go_sem, aeq, aeq.aeqF, simprocAttr, hcmp]) | refine zq (fun K hK => ?_) | refine zp ?_ | refine zf rfl ?_ | refine zg rfl ?_ | refine zo rfl (fun hc => ?_) (fun hc => ?_) | (refine hK _ ?_; clear hK K) | ((first | refine (show AS.le _ _ from ?_) | refine (show leH _ _ from ?_) | refine (show inH _ _ from ?_)); simp only [AS.le, leT, leH, zr, AsgK, AV.le, AV.leL, AObj.le, inH, idsT, idsH, AV.ids, AV.idsL, AV.idsR, AObj.ids, lk, hget, go_sem, aeq, aeq.aeqF, simprocAttr, hcmp]) | refine fun (r2 : Rnd _) => ?_ | with_reducible refine And.intro ?_ ?_ | exact ‹_ <+: _› | omega | assumption | clear hK K)
  rintro xs rfl
  exact List.take_of_length_le (by rw [zil]; omega)
theorem zjj (m z : Nat) : putH m z 0 = [(3, .var [.osl 1 1 z 0 z]), (2, .var [.osl 1 1 z 0 z]), (1, .arr 1 (List.replicate z [D.int .u8 0])), (0, .var [.d (.int .u64 (m : Int))])] := by
 rw [putH, putB, zdO]; simp [putN]
theorem zri (m z : Nat) : ACall Tryz.prog 208 3 [.osl 1 1 z 0 z] [(2, .var [.osl 1 1 z 0 z]), (1, .arr 1 (List.replicate z [D.int .u8 0])), (0, .var [.d (.int .u64 (m : Int))])] (fun r h' => r = .fn (.func 222) [] [.vp 3 0] ∧ h' = putH m z 0) := by
 refine zk Tryz.func208 rfl (zv Tryz.func208 (by kernel_rfl) rfl) Tryz.ntmps208 (by simp) (fun base => ?_)
 repeat' (first | ((first | refine za noTab (zb _) (fun K hK => ?_) | refine zc noTab (zb _) ?_ | refine zh ?_ | refine zi ?_ | refine zn ?_); simp only [go_sem, aeq, aeq.aeqF, simprocAttr, Tryz.results208]) | refine zq (fun K hK => ?_) | (refine hK _ ?_; clear hK K) | refine fun (nb : Bool) (hnb : nb = true → _) => ?_ | with_reducible refine And.intro ?_ ?_ | omega | assumption | clear hK K)
 rw [zjj]
theorem zus (n : Int) (size : Int) (h0 : 0 ≤ n) (h1 : n < 18446744073709551616) : ACall Tryz.prog 184 0 [.d (.int .u64 n), .d (.int .i64 size)] [] (fun r _ => r = .d (.str (putS8 n size))) := by
 refine zz ?_
 refine zk Tryz.func184 rfl (zv Tryz.func184 (by kernel_rfl) rfl) Tryz.ntmps184 (by simp) (fun base => ?_)
 by_cases h : size < 1 ∨ 8 < size
 ·have hdec : (decide (size < 1) || decide (8 < size)) = true := by simpa using h
  repeat' (first | ((first | refine za noTab (zb _) (fun K hK => ?_) | refine zc noTab (zb _) ?_ | refine zh ?_ | refine zi ?_ | refine zn ?_); simp only [go_sem, aeq, aeq.aeqF, simprocAttr, hdec, Tryz.results184]) | refine zq (fun K hK => ?_) | refine zp ?_ | refine zf rfl ?_ | refine zg rfl ?_ | refine zo rfl (fun hc => ?_) (fun hc => ?_) | (refine hK _ ?_; clear hK K) | ((first | refine (show AS.le _ _ from ?_) | refine (show leH _ _ from ?_) | refine (show inH _ _ from ?_)); simp only [AS.le, leT, leH, zr, AsgK, AV.le, AV.leL, AObj.le, inH, idsT, idsH, AV.ids, AV.idsL, AV.idsR, AObj.ids, lk, hget, go_sem, aeq, aeq.aeqF, simprocAttr, hdec]) | refine fun (r2 : Rnd _) => ?_ | with_reducible refine And.intro ?_ ?_ | exact ‹_ <+: _› | omega | assumption | refine fun (hg : (_ : Bool) = (_ : Bool)) => ?_ | clear hK K)
  rw [putS8, if_pos h]
 ·have hdec : (decide (size < 1) || decide (8 < size)) = false := by simpa using h
  obtain ⟨z, rfl, hz8⟩ : ∃ z : Nat, size = (z : Int) ∧ z ≤ 8 := ⟨size.toNat, by omega, by omega⟩
  repeat' (first | ((first | refine za noTab (zb _) (fun K hK => ?_) | refine zc noTab (zb _) ?_ | refine zh ?_ | refine zi ?_ | refine zn ?_); simp only [go_sem, aeq, aeq.aeqF, simprocAttr, hdec, Int.toNat_natCast, Tryz.results184]) | refine zq (fun K hK => ?_) | refine zp ?_ | refine zf rfl ?_ | refine zg rfl ?_ | refine zo rfl (fun hc => ?_) (fun hc => ?_) | (refine hK _ ?_; clear hK K) | ((first | refine (show AS.le _ _ from ?_) | refine (show leH _ _ from ?_) | refine (show inH _ _ from ?_)); simp only [AS.le, leT, leH, zr, AsgK, AV.le, AV.leL, AObj.le, inH, idsT, idsH, AV.ids, AV.idsL, AV.idsR, AObj.ids, lk, hget, go_sem, aeq, aeq.aeqF, simprocAttr, hdec, Int.toNat_natCast]) | refine fun (r2 : Rnd _) => ?_ | with_reducible refine And.intro ?_ ?_ | exact ‹_ <+: _› | omega | assumption | refine fun (hg : (_ : Bool) = (_ : Bool)) => ?_ | clear hK K)
  obtain ⟨m, rfl⟩ : ∃ m : Nat, n = m := ⟨n.toNat, by omega⟩
  refine ((zri m z).whole (zS rfl) (Nat.zero_le _) (by rintro r h' ⟨_, rfl⟩ i hi; rw [zjj]; simp only [hget] at hi ⊢; repeat' split <;> simp_all)).mono ?_
  rintro r h' ⟨rfl, rfl⟩
  refine hK _ ?_
  clear hK K
  refine zp ?_
  rw [zjj]
  refine aw_le ⟨[(16, true, .fn (.func 222) [] [.vp 3 0]), (5, true, .vp 2 0), (2, true, .vp 0 0)], [(3, .var [.osl 1 1 z 0 z]), (2, .var [.osl 1 1 z 0 z]), (1, .arr 1 (List.replicate z [D.int .u8 0])), (0, .var [.d (.int .u64 (m : Int))])], some []⟩ (by simp only [AS.le, leT, leH, zr, AsgK, AV.le, AV.leL, AObj.le, inH, idsT, idsH, AV.ids, AV.idsL, AV.idsR, AObj.ids, lk, hget, go_sem, aeq, aeq.aeqF, simprocAttr]) ?_
  obtain ⟨I, hI⟩ : ∃ I : List (List AV) → AHeap × Option (List (List AV)), I = fun xs => (putH m z (min xs.length z), some []) := ⟨_, rfl⟩
  refine zmk (q := 3) (items := zaQ z) 100 I rfl rfl (zv Tryz.func222 (by kernel_rfl) rfl) ?_ ?_ (by simp [cxOf]) ?_ ?_ ?_ ?_ ?_ ?_ ?_ ?_ ?_
  ·intro y v0 hy E w hs hG
   refine zoL (m := m) hz8 y v0 (fun g M N A w hg => ?_) hs hG
   obtain ⟨F, xs, q1, q2⟩ := hy g M N A w hg
   rw [hI] at q1 q2
   exact ⟨F, _, Nat.min_le_right _ _, q1, q2⟩
  ·exact zS rfl
  ·exact ⟨_, rfl⟩
  ·intro xs
   rw [hI]
   exact ⟨_, rfl⟩
  ·rw [hI]
   simp only [List.length_nil, Nat.zero_min, zjj]
   simp only [AS.le, leT, leH, zr, AsgK, AV.le, AV.leL, AObj.le, inH, idsT, idsH, AV.ids, AV.idsL, AV.idsR, AObj.ids, lk, hget, go_sem, aeq, aeq.aeqF, simprocAttr]
  ·rw [hI]
   simp only [List.length_nil, Nat.zero_min, zjj]
   simp only [AS.le, leT, leH, zr, AsgK, AV.le, AV.leL, AObj.le, inH, idsT, idsH, AV.ids, AV.idsL, AV.idsR, AObj.ids, lk, hget, go_sem, aeq, aeq.aeqF, simprocAttr]
  ·rw [hI]
  ·intro x hx
   obtain ⟨i, _, rfl⟩ := List.mem_map.1 hx
   rfl
  ·intro t ht
   simp at ht
   rcases ht with rfl | rfl <;> simp [cxOf]
  ·intro xs x hpre l1 r1
   have hlt : xs.length < z := by
    have := hpre.length_le
    rw [List.length_append, zil] at this
    simp only [List.length_singleton] at this
    omega
   have hx : x = zcQ z xs.length := by
    obtain ⟨r, hr⟩ := hpre
    have := congrArg (fun l => l[xs.length]?) hr
    simp only [zoK hlt] at this
    simpa using this
   subst hx
   have hmin : min xs.length z = xs.length := by omega
   have hmin' : min (xs.length + 1) z = xs.length + 1 := by omega
   rw [hI]
   simp only [hmin, List.length_append, List.length_singleton, hmin', zcQ]
   generalize xs.length = i at hlt
   clear hmin hmin' hpre hI
   have hbl : (zy (putB m z i)).length = z := by rw [zba, zeF (by omega)]
   have hto : ((z : Int) - 1 - i).toNat = z - 1 - i := by omega
   have hlt2 : decide ((z : Int) - 1 - i < z) = true := decide_eq_true (by omega)
   have hle2 : decide (0 ≤ (z : Int) - 1 - i) = true := decide_eq_true (by omega)
   have hby : IntKind.u8.wrap ((m / 256 ^ i : Nat) : Int) = ((UInt8.ofNat (m / 256 ^ i)).toNat : Int) := u8_of _
   have hsh : ishr .u64 ((m / 256 ^ i : Nat) : Int) 8 = ((m / 256 ^ (i + 1) : Nat) : Int) := by
    rw [show (8 : Int) = ((8 : Nat) : Int) from rfl, zsJ _ _ (by omega), Nat.div_div_eq_div_mul, Nat.pow_succ 256 i]
   have hset : (zy (putB m z i)).set (z - 1 - i) (((zy (putB m z i)).getD (z - 1 - i) []).set 0 (D.int .u8 (IntKind.u8.wrap ((m / 256 ^ i : Nat) : Int)))) = zy (putB m z (i + 1)) := by
    rw [zi9 (by rw [zeF (by omega)]; omega) _ hby]
    congr 1
    have e1 : z - i = (z - 1 - i) + 1 := by omega
    have e2 : z - (i + 1) = z - 1 - i := by omega
    rw [putB, putB, e1, e2, zja, List.replicate_succ', List.append_assoc, List.set_append, if_neg (by simp)]
    simp
   refine aw_le ⟨[(17, true, .d (.int .i64 ((z : Int) - 1 - i))), (5, true, .vp 2 0), (2, true, .vp 0 0)], [(3, .var [.osl 1 1 z 0 z]), (2, .var [.osl 1 1 z 0 z]), (1, .arr 1 (zy (putB m z i))), (0, .var [.d (.int .u64 ((m / 256 ^ i : Nat) : Int))])], some []⟩ (by rw [putH]; simp only [AS.le, leT, leH, zr, AsgK, AV.le, AV.leL, AObj.le, inH, idsT, idsH, AV.ids, AV.idsL, AV.idsR, AObj.ids, lk, hget, go_sem, aeq, aeq.aeqF, simprocAttr]) ?_
   repeat' (first | ((first | refine za noTab (zb _) (fun K hK => ?_) | refine zc noTab (zb _) ?_ | refine zh ?_ | refine zi ?_ | refine zn ?_); simp only [go_sem, aeq, aeq.aeqF, simprocAttr, hbl, hto, hset, hsh, Tryz.results184]) | refine zq (fun K hK => ?_) | refine zp ?_ | refine zf rfl ?_ | refine zg rfl ?_ | refine zo rfl (fun hc => ?_) (fun hc => ?_) | (refine hK _ ?_; clear hK K) | ((first | refine (show AS.le _ _ from ?_) | refine (show leH _ _ from ?_) | refine (show inH _ _ from ?_)); simp only [AS.le, leT, leH, zr, AsgK, AV.le, AV.leL, AObj.le, inH, idsT, idsH, AV.ids, AV.idsL, AV.idsR, AObj.ids, lk, hget, go_sem, aeq, aeq.aeqF, simprocAttr, hbl, hto, hset, hsh]) | refine fun (r2 : Rnd _) => ?_ | with_reducible refine And.intro ?_ ?_ | exact ‹_ <+: _› | omega | assumption | refine fun (hg : (_ : Bool) = (_ : Bool)) => ?_ | clear hK K)
   ·rw [putH]; simp only [AS.le, leT, leH, zr, AsgK, AV.le, AV.leL, AObj.le, inH, idsT, idsH, AV.ids, AV.idsL, AV.idsR, AObj.ids, lk, hget, go_sem, aeq, aeq.aeqF, simprocAttr]
   ·rw [putH]; simp only [AS.le, leT, leH, zr, AsgK, AV.le, AV.leL, AObj.le, inH, idsT, idsH, AV.ids, AV.idsL, AV.idsR, AObj.ids, lk, hget, go_sem, aeq, aeq.aeqF, simprocAttr]
  ·have hmin : min (zaQ z).length z = z := by rw [zil]; omega
   rw [hI]
   simp only [hmin]
   have hbl : (zy (putB m z z)).length = z := by rw [zba, zeF (by omega)]
   have hput : putB m z z = putN m z := by rw [putB, Nat.sub_self]; rfl
   have hbl2 : (z = (zy (putB m z z)).length) = True := eq_true hbl.symm
   have hbl3 : List.take z (zy (putB m z z)) = zy (putB m z z) := List.take_of_length_le (by omega)
   repeat' (first | ((first | refine za noTab (zb _) (fun K hK => ?_) | refine zc noTab (zb _) ?_ | refine zh ?_ | refine zi ?_ | refine zn ?_); simp only [go_sem, aeq, aeq.aeqF, simprocAttr, putH, hbl, Tryz.results184]) | refine zq (fun K hK => ?_) | refine zp ?_ | refine zf rfl ?_ | refine zg rfl ?_ | refine zo rfl (fun hc => ?_) (fun hc => ?_) | (refine hK _ ?_; clear hK K) | ((first | refine (show AS.le _ _ from ?_) | refine (show leH _ _ from ?_) | refine (show inH _ _ from ?_)); simp only [AS.le, leT, leH, zr, AsgK, AV.le, AV.leL, AObj.le, inH, idsT, idsH, AV.ids, AV.idsL, AV.idsR, AObj.ids, lk, hget, go_sem, aeq, aeq.aeqF, simprocAttr, putH, hbl]) | refine fun (r2 : Rnd _) => ?_ | with_reducible refine And.intro ?_ ?_ | exact ‹_ <+: _› | omega | assumption | refine fun (hg : (_ : Bool) = (_ : Bool)) => ?_ | clear hK K)
   ·rw [hbl3]; exact zbg _
   ·have hn : (z : Int) - 1 = z - 1 := rfl
    rw [hbl3, zar, hput, putS8, if_neg h]
    rfl
noncomputable def zbK : Ent Tryz.prog := .ofL 184 (consL (intT .u64) (consL (intT .i64) nilL)) (fun (n, size, _) => (0 ≤ n) ∧ (n < 18446744073709551616)) (fun (n, size, _) => .d (.str (putS8 n size))) (fun (n, size, _) hp => ⟨rfl, zus n size hp.1 hp.2⟩)
attribute [go_sem] zbK
open Go Go.Proofs
def zdY (g h : Int) : Bool := decide (1 ≤ g) && decide (g ≤ 64) && decide (8 ≤ h) && decide (h ≤ 256)
def zgG (g h : Int) : Int := if zdY g h then 96 + 2 * h else 0
theorem geo_iff {g h : Int} : zdY g h = true ↔ 1 ≤ g ∧ g ≤ 64 ∧ 8 ≤ h ∧ h ≤ 256 := by
 simp [zdY, and_assoc]
theorem at_ok (k : Int) (h0 : 0 ≤ k) (h1 : k ≤ 1000000) : ACall Tryz.prog 88 0 [.d (.int .i64 k)] [] (fun r _ => r = .d (.int .i64 (96 + 2 * k))) := by
 refine zk Tryz.func88 rfl (zv Tryz.func88 (by kernel_rfl) rfl) Tryz.ntmps88 (by simp) (fun base => ?_)
 have hm : IntKind.i64.wrap (2 * k) = 2 * k := zD (by omega) (by omega)
 have hm2 : IntKind.i64.wrap (96 + 2 * k) = 96 + 2 * k := zD (by omega) (by omega)
 repeat' (first | ((first | refine za noTab (zb _) (fun K hK => ?_) | refine zc noTab (zb _) ?_ | refine zh ?_ | refine zi ?_ | refine zn ?_); simp only [go_sem, aeq, aeq.aeqF, simprocAttr, hm, hm2, Tryz.results88]) | refine zq (fun K hK => ?_) | (refine hK _ ?_; clear hK K) | with_reducible refine And.intro ?_ ?_ | omega | assumption | clear hK K)
noncomputable def zcN : Ent Tryz.prog := .ofL 88 (consL (intT .i64) nilL) (fun (k, _) => (0 ≤ k) ∧ (k ≤ 1000000)) (fun (k, _) => .d (.int .i64 (96 + 2 * k))) (fun (k, _) hp => ⟨rfl, at_ok k hp.1 hp.2⟩)
attribute [go_sem] zcN
theorem zq9 (k : Int) (h0 : 0 ≤ k) (h1 : k ≤ 1000000) : ACall Tryz.prog 100 0 [.d (.int .i64 k)] [] (fun r _ => r = .tup [.d (.int .i64 (87 + k / 32)), .d (.int .i64 (2 * (k % 32)))]) := by
 refine zk Tryz.func100 rfl (zv Tryz.func100 (by kernel_rfl) rfl) Tryz.ntmps100 (by simp) (fun base => ?_)
 have hm : IntKind.i64.wrap (k.tdiv 32) = k / 32 := by rw [Int.tdiv_eq_ediv_of_nonneg h0, zD (by omega) (by omega)]
 have hm2 : IntKind.i64.wrap (87 + k / 32) = 87 + k / 32 := zD (by omega) (by omega)
 have hm3 : k.tmod 32 = k % 32 := Int.tmod_eq_emod_of_nonneg h0
 have hm4 : IntKind.i64.wrap (2 * (k % 32)) = 2 * (k % 32) := zD (by omega) (by omega)
 repeat' (first | ((first | refine za noTab (zb _) (fun K hK => ?_) | refine zc noTab (zb _) ?_ | refine zh ?_ | refine zi ?_ | refine zn ?_); simp only [go_sem, aeq, aeq.aeqF, simprocAttr, hm, hm2, hm3, hm4, Tryz.results100]) | refine zq (fun K hK => ?_) | (refine hK _ ?_; clear hK K) | with_reducible refine And.intro ?_ ?_ | omega | assumption | clear hK K)
noncomputable def zct : Ent Tryz.prog := .ofL 100 (consL (intT .i64) nilL) (fun (k, _) => (0 ≤ k) ∧ (k ≤ 1000000)) (fun (k, _) => .tup [.d (.int .i64 (87 + k / 32)), .d (.int .i64 (2 * (k % 32)))]) (fun (k, _) hp => ⟨rfl, zq9 k hp.1 hp.2⟩)
attribute [go_sem] zct
theorem ztm {k : Int} (h0 : 0 ≤ k) : ishr .i64 k 5 = k / 32 := by
 unfold ishr
 rw [show min ((5 : Int).toNat) IntKind.i64.bits = 5 from rfl, Int.fdiv_eq_ediv_of_nonneg _ (by decide)]
 rfl
theorem ztn {k : Int} (h0 : 0 ≤ k) (h1 : k ≤ 1000000) : ibits .and .i64 k 31 = k % 32 := by
 obtain ⟨m, rfl⟩ : ∃ m : Nat, k = m := ⟨k.toNat, by omega⟩
 show IntKind.i64.wrap ((BitVec.ofInt 64 (m : Int) &&& BitVec.ofInt 64 31).toNat : Int) = _
 rw [BitVec.ofInt_natCast, show BitVec.ofInt 64 31 = BitVec.ofNat 64 31 from rfl, BitVec.toNat_and, BitVec.toNat_ofNat, BitVec.toNat_ofNat, Nat.mod_eq_of_lt (by omega), Nat.mod_eq_of_lt (by omega), show (31 : Nat) = 2 ^ 5 - 1 from rfl, Nat.and_two_pow_sub_one_eq_mod, zD (by omega) (by omega)]
 omega
theorem zur (k : Int) (h0 : 0 ≤ k) (h1 : k ≤ 1000000) : ACall Tryz.prog 158 0 [.d (.int .i64 k)] [] (fun r _ => r = .tup [.d (.int .i64 (87 + k / 32)), .d (.int .i64 (2 * (k % 32)))]) := by
 refine zk Tryz.func158 rfl (zv Tryz.func158 (by kernel_rfl) rfl) Tryz.ntmps158 (by simp) (fun base => ?_)
 have hm := ztm h0
 have hm2 : IntKind.i64.wrap (87 + k / 32) = 87 + k / 32 := zD (by omega) (by omega)
 have hm3 := ztn h0 h1
 have hm4 : IntKind.i64.wrap (k % 32 * 2) = 2 * (k % 32) := by rw [zD (by omega) (by omega)]; omega
 repeat' (first | ((first | refine za noTab (zb _) (fun K hK => ?_) | refine zc noTab (zb _) ?_ | refine zh ?_ | refine zi ?_ | refine zn ?_); simp only [go_sem, aeq, aeq.aeqF, simprocAttr, hm, hm2, hm3, hm4, Tryz.results158]) | refine zq (fun K hK => ?_) | (refine hK _ ?_; clear hK K) | with_reducible refine And.intro ?_ ?_ | omega | assumption | clear hK K)
noncomputable def zeD : Ent Tryz.prog := .ofL 158 (consL (intT .i64) nilL) (fun (k, _) => (0 ≤ k) ∧ (k ≤ 1000000)) (fun (k, _) => .tup [.d (.int .i64 (87 + k / 32)), .d (.int .i64 (2 * (k % 32)))]) (fun (k, _) hp => ⟨rfl, zur k hp.1 hp.2⟩)
attribute [go_sem] zeD
theorem zra (g : Int) (m : Int) : ACall Tryz.prog 62 0 [.agg [.d (.int .i64 g), .d (.int .i64 m)]] [] (fun r _ => r = .d (.bool (zdY g m))) := by
 refine zk Tryz.func62 rfl (zv Tryz.func62 (by kernel_rfl) rfl) Tryz.ntmps62 (by simp) (fun base => ?_)
 repeat' (first | ((first | refine za noTab (zb _) (fun K hK => ?_) | refine zc noTab (zb _) ?_ | refine zh ?_ | refine zi ?_ | refine zn ?_); simp only [go_sem, aeq, aeq.aeqF, simprocAttr, Tryz.results62]) | refine zq (fun K hK => ?_) | (refine hK _ ?_; clear hK K) | with_reducible refine And.intro ?_ ?_ | omega | assumption | refine fun (hg : (_ : Bool) = (_ : Bool)) => ?_ | clear hK K)
 rfl
noncomputable def zcu : Ent Tryz.prog := .ofL 62 (consL (aggT (consL (intT .i64) (consL (intT .i64) nilL)) (fun p => p) (fun p => p) (fun _ => rfl)) nilL) (fun ((g, m, _), _) => True) (fun ((g, m, _), _) => .d (.bool (zdY g m))) (fun ((g, m, _), _) hp => ⟨rfl, zra g m⟩)
attribute [go_sem] zcu
noncomputable def tabR4 : Tab := tabOf [zcu]
theorem zlg : TabOk Tryz.prog tabR4 := zA _
@[go_sem] theorem zqb (args : List AV) : tabR4 62 args = (zcu).e args := rfl
theorem zrb (g : Int) (m : Int) : ACall Tryz.prog 65 0 [.agg [.d (.int .i64 g), .d (.int .i64 m)]] [] (fun r _ => r = .d (.int .i64 (zgG g m))) := by
 refine zk Tryz.func65 rfl (zv Tryz.func65 (by kernel_rfl) rfl) Tryz.ntmps65 (by simp) (fun base => ?_)
 repeat' (first | ((first | refine za tabR4 (zlg) (fun K hK => ?_) | refine zc tabR4 (zlg) ?_ | refine zh ?_ | refine zi ?_ | refine zn ?_); simp only [go_sem, aeq, aeq.aeqF, simprocAttr, Tryz.results65]) | refine zq (fun K hK => ?_) | refine zf rfl ?_ | refine zg rfl ?_ | refine zo rfl (fun hc => ?_) (fun hc => ?_) | (refine hK _ ?_; clear hK K) | with_reducible refine And.intro ?_ ?_ | omega | assumption | clear hK K)
 ·have hc : zdY g m = false := by simpa using hc
  rw [zgG, if_neg (by rw [hc]; exact Bool.false_ne_true)]
 ·have hc : zdY g m = true := by simpa using hc
  have hg := geo_iff.1 hc
  rw [zgG, if_pos hc, zD (n := 2 * m) (by omega) (by omega), zD (by omega) (by omega)]
noncomputable def zfh : Ent Tryz.prog := .ofL 65 (consL (aggT (consL (intT .i64) (consL (intT .i64) nilL)) (fun p => p) (fun p => p) (fun _ => rfl)) nilL) (fun ((g, m, _), _) => True) (fun ((g, m, _), _) => .d (.int .i64 (zgG g m))) (fun ((g, m, _), _) hp => ⟨rfl, zrb g m⟩)
attribute [go_sem] zfh
open Go Go.Proofs
structure Plan where
 targets : List Int
 texts : List Txt
 deriving DecidableEq
def planA (p : Plan) : AV := .agg [.d (.sl 1 (p.targets.map intD)), .d (.sl 1 (p.texts.map strD))]
def planC (p : Plan) : List AV := [.d (.sl 1 (p.targets.map intD)), .d (.sl 1 (p.texts.map strD))]
attribute [go_sem] planA planC
theorem zrc (p : Plan) : Plan.mk p.targets p.texts = p := rfl
noncomputable def zT : PT Plan := aggT (consL (slT 1 intD zbJ) (consL (slT 1 strD zeA) nilL)) (fun p => ⟨p.1, p.2.1⟩) (fun x => (x.targets, x.texts, ())) (fun _ => rfl)
attribute [go_sem] zT
noncomputable def zoB : PT Plan := dpT (consL (slT 1 intD zbJ) (consL (slT 1 strD zeA) nilL)) (fun p => ⟨p.1, p.2.1⟩) (fun x => (x.targets, x.texts, ())) (fun _ => rfl)
attribute [go_sem] zoB
attribute [go_sem] zrc
structure PlanOk (p : Plan) : Prop where
 targets : p.targets.length ≤ 9223372036854775807
 texts : p.texts.length ≤ 9223372036854775807
def secOk (at_ : Int) : Bool := decide (0 ≤ at_) && decide (at_ < 1024)
def pfind (l : List Int) (at_ : Int) : Int := idxP (fun x => x == at_) l 0
def pfitL : List Int → List Int → List Txt → Bool
 | _, [], _ => true
 | seen, t :: r, s :: q => secOk t && !seen.contains t && ((s.length : Int) == 64) && pfitL (seen ++ [t]) r q
 | _, _ :: _, [] => true
def pfit (p : Plan) : Bool := decide (p.targets.length = p.texts.length) && decide (p.targets.length ≤ 24) && pfitL [] p.targets p.texts
def plook (d : Disk) (p : Plan) (at_ : Int) : Txt × Int :=
 if 0 ≤ pfind p.targets at_ then (p.texts.getD (pfind p.targets at_).toNat [], 0) else dread d at_
def pset (p : Plan) (at_ : Int) (s : Txt) : Plan × Int :=
 if !secOk at_ then (p, 10) else if (s.length : Int) ≠ 64 then (p, 11)
 else if 0 ≤ pfind p.targets at_ then (⟨p.targets, p.texts.set (pfind p.targets at_).toNat s⟩, 0)
 else if 24 ≤ (p.targets.length : Int) then (p, 16) else (⟨p.targets ++ [at_], p.texts ++ [s]⟩, 0)
def zb8 (d : Disk) (p : Plan) (at_ : Int) (off : Int) (s : Txt) : Plan × Int :=
 if (plook d p at_).2 ≠ 0 then (p, (plook d p at_).2)
 else if (overS (plook d p at_).1 off s).2 ≠ 0 then (p, (overS (plook d p at_).1 off s).2)
 else pset p at_ (overS (plook d p at_).1 off s).1
def layL (d : Disk) : List (Int × Txt) → Disk × Int
 | [] => (d, 0)
 | q :: r => if (zP d q.1 q.2).2 ≠ 0 then zP d q.1 q.2 else layL (zP d q.1 q.2).1 r
def play (d : Disk) (p : Plan) : Disk × Int := layL d (p.targets.zip p.texts)
theorem zgH {d : Disk} (h : DiskOk d) (at_ : Int) (s : Txt) : DiskOk (zP d at_ s).1 := by
 unfold zP
 repeat' split
 all_goals first | exact h | skip
 ·exact ⟨h.data, h.cache, h.bad, h.fuse0, h.fuse1⟩
 ·rename_i h6
  exact zk2 ⟨h.data, by simp only [List.length_append, List.length_singleton]; omega, h.bad, h.fuse0, h.fuse1⟩
theorem zlh {d : Disk} {at_ : Int} (hf : d.cache.all (putOk d) = true) (ht : there d at_ = true) : (sees d at_).length = 64 := by
 obtain ⟨h0, h1⟩ := there_iff.1 ht
 unfold sees
 split
 ·rename_i q hq
  have hm := List.mem_of_find?_eq_some hq
  have := List.all_eq_true.1 hf q (List.mem_reverse.1 hm)
  rw [putOk, Bool.and_eq_true] at this
  have := eq_of_beq this.2
  omega
 ·rw [List.length_take, List.length_drop]; omega
theorem zeE {d : Disk} {at_ : Int} (hf : d.cache.all (putOk d) = true) : (dread d at_).1.length ≤ 64 := by
 unfold dread
 repeat' split
 all_goals first | (simp; done) | skip
 rw [zlh hf (by simp_all)]
 omega
theorem zjc : ∀ (t : List Int) (s : List Txt) (seen : List Int), pfitL seen t s = true → t.length = s.length → ∀ x ∈ s, x.length = 64
 | [], s, seen, _, hl => by
  have : s = [] := List.length_eq_zero_iff.1 hl.symm
  subst this
  simp
 | t :: r, [], seen, _, hl => by simp at hl
 | t :: r, s :: q, seen, h, hl => by
  rw [pfitL] at h
  simp only [Bool.and_eq_true] at h
  intro x hx
  rcases List.mem_cons.1 hx with rfl | hx
  ·have := eq_of_beq h.1.2; omega
  ·exact zjc r q _ h.2 (by simpa using hl) x hx
theorem zaI {p : Plan} (h : pfit p = true) : p.targets.length = p.texts.length ∧ p.targets.length ≤ 24 ∧ ∀ x ∈ p.texts, x.length = 64 := by
 simp only [pfit, Bool.and_eq_true, decide_eq_true_eq] at h
 exact ⟨h.1.1, h.1.2, zjc _ _ _ h.2 h.1.1⟩
theorem zrd {l : List Txt} {n k : Nat} (h : ∀ x ∈ l, x.length = n) : (l.getD k []).length ≤ n := by
 rw [List.getD_eq_getElem?_getD]
 rcases hk : l[k]? with _ | x
 ·simp
 ·rw [Option.getD_some, h x (List.mem_of_getElem? hk)]
  exact Nat.le_refl _
theorem zjd {d : Disk} {p : Plan} {at_ : Int} (hf : d.cache.all (putOk d) = true) (hp : pfit p = true) : (plook d p at_).1.length ≤ 64 := by
 unfold plook
 split
 ·exact zrd (zaI hp).2.2
 ·exact zeE hf
theorem zje {α : Type} (p : α → Bool) : ∀ (l : List α) (k : Nat), idxP p l k = -1 ∨ ((k : Int) ≤ idxP p l k ∧ idxP p l k < ((k + l.length : Nat) : Int))
 | [], k => .inl rfl
 | q :: l, k => by
  rw [idxP]
  split
  ·exact .inr ⟨Int.le_refl _, by simp; omega⟩
  ·rcases zje p l (k + 1) with h | ⟨h1, h2⟩
   ·exact .inl h
   ·exact .inr ⟨by omega, by simp only [List.length_cons]; omega⟩
theorem zbs (l : List Int) (at_ : Int) : pfind l at_ = -1 ∨ ∃ k : Nat, pfind l at_ = k ∧ k < l.length := by
 rcases zje (fun x => x == at_) l 0 with h | ⟨h1, h2⟩
 ·exact .inl h
 ·exact .inr ⟨(pfind l at_).toNat, by unfold pfind; omega, by unfold pfind; omega⟩
theorem zkb (at_ : Int) : ACall Tryz.prog 26 0 [.d (.int .i64 at_)] [] (fun r _ => r = .d (.bool (secOk at_))) := by
 refine zk Tryz.func26 rfl (zv Tryz.func26 (by kernel_rfl) rfl) Tryz.ntmps26 (by simp) (fun base => ?_)
 repeat' (first | ((first | refine za noTab (zb _) (fun K hK => ?_) | refine zc noTab (zb _) ?_ | refine zh ?_ | refine zi ?_ | refine zn ?_); simp only [go_sem, aeq, aeq.aeqF, simprocAttr, Tryz.results26]) | refine zq (fun K hK => ?_) | (refine hK _ ?_; clear hK K) | with_reducible refine And.intro ?_ ?_ | omega | assumption | refine fun (hg : (_ : Bool) = (_ : Bool)) => ?_ | clear hK K)
 rfl
noncomputable def zcO : Ent Tryz.prog := .ofL 26 (consL (intT .i64) nilL) (fun (at_, _) => True) (fun (at_, _) => .d (.bool (secOk at_))) (fun (at_, _) hp => ⟨rfl, zkb at_⟩)
attribute [go_sem] zcO
theorem zoC (p : Plan) (at_ : Int) (hp : PlanOk p) : ACall Tryz.prog 27 0 [planA p, .d (.int .i64 at_)] [] (fun r _ => r = .d (.int .i64 (pfind p.targets at_))) := by
 refine zk Tryz.func27 rfl (zv Tryz.func27 (by kernel_rfl) rfl) Tryz.ntmps27 (by simp) (fun base => ?_)
 repeat' (first | ((first | refine za noTab (zb _) (fun K hK => ?_) | refine zc noTab (zb _) ?_ | refine zh ?_ | refine zi ?_ | refine zn ?_); simp only [go_sem, aeq, aeq.aeqF, simprocAttr, Tryz.results27]) | refine zq (fun K hK => ?_) | refine zp ?_ | refine zf rfl ?_ | refine zg rfl ?_ | refine zo rfl (fun hc => ?_) (fun hc => ?_) | (refine hK _ ?_; clear hK K) | with_reducible refine And.intro ?_ ?_ | omega | assumption | clear hK K)
 have ht := hp.targets
 refine zO (fun q : Idst (fun x => x == at_) p.targets => ⟨[(1, true, .d (.int .i64 at_)), (2, true, .vp 0 0), (5, true, .d (.int .i64 q.1))], [(0, .var [.d (.sl 1 (p.targets.map intD)), .d (.sl 1 (p.texts.map strD))])], some []⟩) (fun q => p.targets.length - q.1) ⟨0, Nat.zero_le _, rfl⟩ (by simp only [AS.le, leT, leH, zr, AsgK, AV.le, AV.leL, AObj.le, inH, idsT, idsH, AV.ids, AV.idsL, AV.idsR, AObj.ids, lk, hget, go_sem, aeq, aeq.aeqF, simprocAttr] <;> and_intros <;> rfl) (fun q => ?_)
 obtain ⟨i, hi, hf⟩ := q
 simp only at hi hf ⊢
 rcases zaw intD p.targets i hi with ⟨m, hq, hlt, hcmp, hrow, hdr, htk⟩ | ⟨hend, hcmp⟩
 ·simp only [intD] at hrow
  have hwi := zV (i := i) (by omega)
  repeat' (first | ((first | refine za noTab (zb _) (fun K hK => ?_) | refine zc noTab (zb _) ?_ | refine zh ?_ | refine zi ?_ | refine zn ?_); simp only [go_sem, aeq, aeq.aeqF, simprocAttr, hcmp, hrow, Tryz.results27]) | refine zq (fun K hK => ?_) | refine zp ?_ | refine zf rfl ?_ | refine zg rfl ?_ | refine zo rfl (fun hc => ?_) (fun hc => ?_) | (refine hK _ ?_; clear hK K) | with_reducible refine And.intro ?_ ?_ | omega | assumption | clear hK K)
  ·rw [pfind, hf, hdr, idxP, if_pos hc]
  ·exact ⟨⟨i + 1, by omega, by rw [hf, hdr, idxP, if_neg (by rw [hc]; exact Bool.false_ne_true)]⟩, by simp only [AS.le, leT, leH, zr, AsgK, AV.le, AV.leL, AObj.le, inH, idsT, idsH, AV.ids, AV.idsL, AV.idsR, AObj.ids, lk, hget, go_sem, aeq, aeq.aeqF, simprocAttr, hwi], by simp; omega⟩
 ·repeat' (first | ((first | refine za noTab (zb _) (fun K hK => ?_) | refine zc noTab (zb _) ?_ | refine zh ?_ | refine zi ?_ | refine zn ?_); simp only [go_sem, aeq, aeq.aeqF, simprocAttr, hcmp, Tryz.results27]) | refine zq (fun K hK => ?_) | refine zp ?_ | refine zf rfl ?_ | refine zg rfl ?_ | refine zo rfl (fun hc => ?_) (fun hc => ?_) | (refine hK _ ?_; clear hK K) | with_reducible refine And.intro ?_ ?_ | omega | assumption | clear hK K)
  rw [pfind, hf, hend, List.drop_length]
  rfl
noncomputable def zbW : Ent Tryz.prog := .ofL 27 (consL zT (consL (intT .i64) nilL)) (fun (p, at_, _) => PlanOk p) (fun (p, at_, _) => .d (.int .i64 (pfind p.targets at_))) (fun (p, at_, _) hp => ⟨rfl, zoC p at_ hp⟩)
attribute [go_sem] zbW
noncomputable def tab5a : Tab := tabOf [zcO, zbW]
theorem zf6 : TabOk Tryz.prog tab5a := zA _
@[go_sem] theorem zmg (args : List AV) : tab5a 26 args = (zcO).e args := rfl
@[go_sem] theorem zoD (args : List AV) : tab5a 27 args = (zbW).e args := rfl
noncomputable def tab5b : Tab := tabOf [zbW, zd8]
theorem zf7 : TabOk Tryz.prog tab5b := zA _
@[go_sem] theorem zoE (args : List AV) : tab5b 27 args = (zbW).e args := rfl
@[go_sem] theorem zoF (args : List AV) : tab5b 93 args = (zd8).e args := rfl
theorem zoG (d : Disk) (p : Plan) (at_ : Int) (hd : DiskOk d) (hp : PlanOk p) (hl : p.targets.length = p.texts.length) : ACall Tryz.prog 54 0 [diskA d, planA p, .d (.int .i64 at_)] [] (fun r _ => r = .tup [.d (.str (plook d p at_).1), .d (.int .i64 (plook d p at_).2)]) := by
 refine zk Tryz.func54 rfl (zv Tryz.func54 (by kernel_rfl) rfl) Tryz.ntmps54 (by simp) (fun base => ?_)
 rcases zbs p.targets at_ with hk | ⟨k, hk, hkl⟩
 ·repeat' (first | ((first | refine za tab5b (zf7) (fun K hK => ?_) | refine zc tab5b (zf7) ?_ | refine zh ?_ | refine zi ?_ | refine zn ?_); simp only [go_sem, aeq, aeq.aeqF, simprocAttr, hk, Tryz.results54]) | refine zq (fun K hK => ?_) | refine zf rfl ?_ | refine zg rfl ?_ | refine zo rfl (fun hc => ?_) (fun hc => ?_) | (refine hK _ ?_; clear hK K) | with_reducible refine And.intro ?_ ?_ | omega | assumption | refine fun (hg : (_ : Bool) = (_ : Bool)) => ?_ | clear hK K)
  rw [plook, hk, if_neg (by omega)]
 ·obtain ⟨s, hq⟩ := zau (l := p.texts) (i := k) (by omega)
  have hrow := zbT (g := strD) hq
  simp only [strD] at hrow
  have h1 : decide ((0 : Int) ≤ (k : Int)) = true := decide_eq_true (by omega)
  have h2 : decide ((k : Int) < (p.texts.length : Int)) = true := decide_eq_true (by omega)
  repeat' (first | ((first | refine za tab5b (zf7) (fun K hK => ?_) | refine zc tab5b (zf7) ?_ | refine zh ?_ | refine zi ?_ | refine zn ?_); simp only [go_sem, aeq, aeq.aeqF, simprocAttr, hk, hrow, Int.toNat_natCast, h1, h2, Tryz.results54]) | refine zq (fun K hK => ?_) | refine zf rfl ?_ | refine zg rfl ?_ | refine zo rfl (fun hc => ?_) (fun hc => ?_) | (refine hK _ ?_; clear hK K) | with_reducible refine And.intro ?_ ?_ | omega | assumption | refine fun (hg : (_ : Bool) = (_ : Bool)) => ?_ | clear hK K)
  rw [plook, hk, if_pos (by omega), Int.toNat_natCast, List.getD_eq_getElem?_getD, hq]
  rfl
noncomputable def zbX : Ent Tryz.prog := .ofL 54 (consL zN (consL zT (consL (intT .i64) nilL))) (fun (d, p, at_, _) => (DiskOk d) ∧ (PlanOk p) ∧ (p.targets.length = p.texts.length)) (fun (d, p, at_, _) => .tup [.d (.str (plook d p at_).1), .d (.int .i64 (plook d p at_).2)]) (fun (d, p, at_, _) hp => ⟨rfl, zoG d p at_ hp.1 hp.2.1 hp.2.2⟩)
attribute [go_sem] zbX
theorem zdP {α : Type} (g : α → List D) (l : List α) (x : α) (r : List D) (hr : r = g x) {k : Nat} : (if l.length + 1 = (l.map g ++ [r]).length then AV.d (D.sl k (List.take (l.length + 1) (l.map g ++ [r]))) else AV.any) = AV.d (.sl k ((l ++ [x]).map g)) := by
 have h1 : l.length + 1 = (l.map g ++ [r]).length := by simp
 rw [if_pos h1, List.take_of_length_le (Nat.le_of_eq h1.symm), hr, List.map_append]
 rfl
theorem zli {k n : Nat} {X : List (List D)} (h : X.length = n) : (if n = X.length then AV.d (D.sl k (List.take n X)) else AV.any) = AV.d (.sl k X) := by
 rw [if_pos h.symm, List.take_of_length_le (Nat.le_of_eq h)]
theorem zoH {l : List Txt} {k : Nat} {s : Txt} (hk : k < l.length) : (l.map strD).set k (((l.map strD).getD k []).set 0 (D.str s)) = (l.set k s).map strD := by
 obtain ⟨x, hq⟩ := zau hk
 rw [zbT (g := strD) hq, List.map_set]
 rfl
theorem zre (p : Plan) (at_ : Int) (s : Txt) (hp : PlanOk p) (hl : p.targets.length = p.texts.length) (h24 : p.targets.length ≤ 24) : ACall Tryz.prog 127 0 [planA p, .d (.int .i64 at_), .d (.str s)] [] (fun r _ => r = .tup [planA (pset p at_ s).1, .d (.int .i64 (pset p at_ s).2)]) := by
 refine zz ?_
 refine zk Tryz.func127 rfl (zv Tryz.func127 (by kernel_rfl) rfl) Tryz.ntmps127 (by simp) (fun base => ?_)
 rcases zbs p.targets at_ with hk | ⟨k, hk, hkl⟩
 ·repeat' (first | ((first | refine za tab5a (zf6) (fun K hK => ?_) | refine zc tab5a (zf6) ?_ | refine zh ?_ | refine zi ?_ | refine zn ?_); simp only [go_sem, aeq, aeq.aeqF, simprocAttr, hk, Tryz.results127]) | refine zq (fun K hK => ?_) | refine zf rfl ?_ | refine zg rfl ?_ | refine zo rfl (fun hc => ?_) (fun hc => ?_) | (refine hK _ ?_; clear hK K) | refine fun (nb : Bool) (hnb : nb = true → _) => ?_ | with_reducible refine And.intro ?_ ?_ | omega | assumption | clear hK K)
  all_goals first | (simp_all [pset]; done) | skip
  rw [zdP intD p.targets at_ [D.int .i64 at_] rfl, zdP strD p.texts s [D.str s] rfl]
  by_cases h6 : 24 ≤ (p.targets.length : Int)
  ·exfalso; simp_all; omega
  ·simp_all [pset]
   simp only [if_neg (show ¬ (24 : Int) ≤ p.texts.length by omega)]
   simp
 ·have h1 : decide ((0 : Int) ≤ (k : Int)) = true := decide_eq_true (by omega)
  repeat' (first | ((first | refine za tab5a (zf6) (fun K hK => ?_) | refine zc tab5a (zf6) ?_ | refine zh ?_ | refine zi ?_ | refine zn ?_); simp only [go_sem, aeq, aeq.aeqF, simprocAttr, hk, Int.toNat_natCast, h1, Tryz.results127]) | refine zq (fun K hK => ?_) | refine zf rfl ?_ | refine zg rfl ?_ | refine zo rfl (fun hc => ?_) (fun hc => ?_) | (refine hK _ ?_; clear hK K) | refine fun (nb : Bool) (hnb : nb = true → _) => ?_ | with_reducible refine And.intro ?_ ?_ | omega | assumption | clear hK K)
  all_goals first | (simp_all [pset]; done) | skip
  rw [zoH (by omega), zli (by simp)]
  simp_all [pset]
noncomputable def zcv : Ent Tryz.prog := .ofL 127 (consL zT (consL (intT .i64) (consL strT nilL))) (fun (p, at_, s, _) => (PlanOk p) ∧ (p.targets.length = p.texts.length) ∧ (p.targets.length ≤ 24)) (fun (p, at_, s, _) => .tup [planA (pset p at_ s).1, .d (.int .i64 (pset p at_ s).2)]) (fun (p, at_, s, _) hp => ⟨rfl, zre p at_ s hp.1 hp.2.1 hp.2.2⟩)
attribute [go_sem] zcv
noncomputable def tab5c : Tab := tabOf [zbX, zeb, zcv]
theorem zlj : TabOk Tryz.prog tab5c := zA _
@[go_sem] theorem zoI (args : List AV) : tab5c 54 args = (zbX).e args := rfl
@[go_sem] theorem zoJ (args : List AV) : tab5c 23 args = (zeb).e args := rfl
@[go_sem] theorem zqc (args : List AV) : tab5c 127 args = (zcv).e args := rfl
theorem zmh (d : Disk) (p : Plan) (at_ : Int) (off : Int) (s : Txt) (hd : DiskOk d) (hf : d.cache.all (putOk d) = true) (hp : pfit p = true) (hs : s.length ≤ 9223372036854775807) : ACall Tryz.prog 128 0 [diskA d, planA p, .d (.int .i64 at_), .d (.int .i64 off), .d (.str s)] [] (fun r _ => r = .tup [planA (zb8 d p at_ off s).1, .d (.int .i64 (zb8 d p at_ off s).2)]) := by
 refine zz ?_
 refine zk Tryz.func128 rfl (zv Tryz.func128 (by kernel_rfl) rfl) Tryz.ntmps128 (by simp) (fun base => ?_)
 obtain ⟨hl, h24, h64⟩ := zaI hp
 have hpo : PlanOk p := ⟨by omega, by omega⟩
 have hb := zjd (at_ := at_) hf hp
 repeat' (first | ((first | refine za tab5c (zlj) (fun K hK => ?_) | refine zc tab5c (zlj) ?_ | refine zh ?_ | refine zi ?_ | refine zn ?_); simp only [go_sem, aeq, aeq.aeqF, simprocAttr, Tryz.results128]) | refine zq (fun K hK => ?_) | refine zf rfl ?_ | refine zg rfl ?_ | refine zo rfl (fun hc => ?_) (fun hc => ?_) | (refine hK _ ?_; clear hK K) | with_reducible refine And.intro ?_ ?_ | omega | assumption | clear hK K)
 all_goals first | (simp_all [zb8]; done) | skip
noncomputable def zdq : Ent Tryz.prog := .ofL 128 (consL zN (consL zT (consL (intT .i64) (consL (intT .i64) (consL strT nilL))))) (fun (d, p, at_, off, s, _) => (DiskOk d) ∧ (d.cache.all (putOk d) = true) ∧ (pfit p = true) ∧ (s.length ≤ 9223372036854775807)) (fun (d, p, at_, off, s, _) => .tup [planA (zb8 d p at_ off s).1, .d (.int .i64 (zb8 d p at_ off s).2)]) (fun (d, p, at_, off, s, _) hp => ⟨rfl, zmh d p at_ off s hp.1 hp.2.1 hp.2.2.1 hp.2.2.2⟩)
attribute [go_sem] zdq
end Go.Aw
