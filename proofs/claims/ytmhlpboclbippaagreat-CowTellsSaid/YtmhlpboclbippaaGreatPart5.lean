/-
  Parts of the proof: BldB, BldC, BldD, DevP, DevA, DevB, DevC, DevD, DevE, DevF, Num, PackA, PackB, PackC (short names; the readable texts lie in the repo, under wip).
-/
import Derived.Test.YtmhlpboclbippaaGreatPart4
import Derived.Lib.AppendStr
import Derived.Lib.Strings
import Derived.Lib.Slices
import Derived.RegionCalls
import Derived.Lib.MakeNoZero
import Derived.RegionTactic
import Derived.Test.YtmhlpboclbippaaGreatPart3
import Derived.Laws.RangeString
import Derived.Laws.RangeAny
set_option maxRecDepth 100000
set_option maxHeartbeats 2000000
set_option linter.unusedSimpArgs false
set_option linter.unusedVariables false
namespace Go.Proofs.YtmhlpboclbippaaGreat
open Go
section
variable {P : Program}
open Go.Lib
theorem zhp (w : World) (base : Nat) (t u ty e : TypeId) (i : TypeInfo) (ht : P.underlying t = some (.slice e)) (hu : P.underlying u = some .string) (hi : P.info? e = some i) (hz : i.zero = some (.int .u8 0))
  (hsize : i.size = 1) (hby : i.bytes = 1)
  (v : Value) (n : Nat) (xs : List Value) (hown : w.ownsRow base e 1 v n xs) (s : ByteArray)
  (h63 : n + s.size ≤ maxLen) (hbytes : n + s.size ≤ 140737488355328) (hbase : base ≤ w.heap.size) :
  ∃ v' w', (Builtin.append_ #[t, u] ty #[v, .string s]).run P w = .ok v' w' ∧ w'.ownsRow base e 1 v' (n + s.size) (xs ++ strCells s) ∧ w.grownBy w' v.ownBlock ∧
   ((∀ g, v'.ownBlock = some g → v.ownBlock = some g ∨ (w.heap.size ≤ g ∧ g < w'.heap.size)) ∧ (s.size = 0 → v' = v)) := by
 have hsmall : n + s.size ≤ 9223372036854775807 := by simp only [maxLen] at h63; omega
 have hxl : xs.length = n := by simpa using hown.1
 have hlen : (xs ++ strCells s).length = (n + s.size) * 1 := by rw [List.length_append, hxl, strCells_length, Nat.mul_one]
 have grown : ∀ (old : Nat), old < n + s.size → ∀ (row : Option Nat),
   (w.drew.alloc (.cells (xs.toArray ++ (strCells s).toArray ++ Builtin.zeroCells (Value.int .u8 0).cells (grownCap w (n + s.size) old e - (n + s.size))) e)).ownsRow base e 1
    (.slice (some ⟨w.heap.size, 0, none⟩) (n + s.size) (grownCap w (n + s.size) old e)) (n + s.size) (xs ++ strCells s) ∧
   w.grownBy (w.drew.alloc (.cells (xs.toArray ++ (strCells s).toArray ++ Builtin.zeroCells (Value.int .u8 0).cells (grownCap w (n + s.size) old e - (n + s.size))) e)) row := by
  intro old ho row
  have hge := grownCap_ge w (n + s.size) old e
  have hcm : grownCap w (n + s.size) old e ≤ maxLen := grownCap_le_maxLen w (n + s.size) old e h63
  refine ⟨⟨hlen, .inr ⟨w.heap.size, _, _, rfl, hbase, Go.heap_alloc_new w.drew _, hge, hcm, ?_, ?_⟩⟩, ⟨rfl, rfl, rfl, by simp, fun k hk _ => Go.heap_alloc_old w.drew _ hk⟩⟩
  ·have hz1 : (Value.int IntKind.u8 0).cells.size = 1 := rfl
   simp only [Array.size_append, List.size_toArray, size_zeroCells, hz1, hxl, strCells_length]
   omega
  ·simp only [Array.toList_append, List.append_assoc]
   rw [← List.append_assoc, ← hlen]
   exact List.take_left
 rcases hown.2 with ⟨rfl, rfl⟩ | ⟨g, cap, cur, rfl, hbg, hg, hnc, hcm, hcs, htake⟩
 ·have hx : xs = [] := List.eq_nil_of_length_eq_zero hxl
  subst hx
  by_cases hm : s.size = 0
  ·have hn : strCells s = [] := List.eq_nil_of_length_eq_zero (by rw [strCells_length]; exact hm)
   refine ⟨.slice none 0 0, w, ?_, by rw [hm, hn]; exact World.ownsRow_nil w base e 1, ⟨rfl, rfl, rfl, Nat.le_refl _, fun _ _ _ => rfl⟩, fun g hg => .inl hg, fun _ => rfl⟩
   have hf := run_firstCells_string (P := P) w 1 s
   rw [hm] at hf
   simp [Builtin.append_, run_underlying ht, run_underlying hu, sizeOf, typeInfo, hi, hsize, Builtin.lenOf, hm, hf]
  ·have hr := run_append_nil_string (P := P) w t u ty e i (.int .u8 0) ht hu hi hz s (by omega) (by omega) (by rw [hby]; omega)
   have hgr := grown 0 (by omega) (Value.ownBlock (.slice none 0 0))
   simp only [Nat.zero_add, List.nil_append, Array.empty_append] at hgr ⊢
   have e1 : (s.data.map fun b => Value.int .u8 b.toNat) = (strCells s).toArray := by
    apply Array.ext'
    simp [strCells]
   rw [e1] at hr
   exact ⟨_, _, hr, hgr.1, hgr.2, fun g hg => .inr (by simp [Value.ownBlock] at hg; subst hg; simp), fun e => absurd e hm⟩
 ·by_cases hroom : n + s.size ≤ cap
  ·have hcs' : cur.size = cap := by simpa using hcs
   have hr := run_append_room_string (P := P) w t u ty e i ht hu hi hsize g n cap cur hg s hroom (by omega)
   refine ⟨_, _, hr, ⟨hlen, .inr ⟨g, cap, _, rfl, hbg, setRow_heap w g cur _ e _ hg, hroom, hcm, ?_, ?_⟩⟩, ⟨rfl, rfl, rfl, by simp, fun k _ hk => setRow_other w g k _ (fun e => hk (by simp [Value.ownBlock, e]))⟩, fun g hg => .inl hg, fun e => by rw [e]; rfl⟩
   ·simp only [List.size_toArray, List.length_append, List.length_take, List.length_drop, Array.length_toList, strCells_length]
    omega
   ·have ht' : cur.toList.take n = xs := by simpa using htake
    rw [ht', ← hlen]
    exact List.take_left
  ·have holds : ∀ j u, xs[j]? = some u → w.cell? ((⟨g, 0, none⟩ : Addr).add j) = some u := hown.cells (g := g) rfl
   have hr := run_append_grow_string (P := P) w t u ty e i (.int .u8 0) ht hu hi hz ⟨g, 0, none⟩ n cap xs (by rw [hsize]; simpa using hxl) holds s (by omega) (by omega) (by rw [hby]; exact growslice_fits (by omega) (by omega))
   have hgr := grown cap (by omega) (Value.ownBlock (.slice (some ⟨g, 0, none⟩) n cap))
   exact ⟨_, _, hr, hgr.1, hgr.2, fun g hg => .inr (by simp [Value.ownBlock] at hg; subst hg; simp), fun e => by omega⟩
theorem zfb (w : World) {ops : Array Oper} {rest : List Oper} {o : Oper} {a : Act} {Q : Exit → Act → World → Prop} (hgd : o.guard = none) (sl x : Operand) (t u : TypeId)
  (ho : o.op = .call { callee := .builtin .append, args := #[sl, x], argTypes := #[t, u] })
  (base : Nat) (e : TypeId) (i : TypeInfo) (ht : P.underlying t = some (.slice e)) (hu : P.underlying u = some .string) (hi : P.info? e = some i) (hz : i.zero = some (.int .u8 0))
  (hsize : i.size = 1) (hby : i.bytes = 1)
  (v : Value) (n : Nat) (xs : List Value) (hs : a.eval sl = v) (hown : w.ownsRow base e 1 v n xs) (s : ByteArray) (hx : a.eval x = .string s)
  (h63 : n + s.size ≤ maxLen) (hbytes : n + s.size ≤ 140737488355328) (hbase : base ≤ w.heap.size)
  (h : ∀ v' w', w'.ownsRow base e 1 v' (n + s.size) (xs ++ strCells s) → w.grownBy w' v.ownBlock → ((∀ g, v'.ownBlock = some g → v.ownBlock = some g ∨ (w.heap.size ≤ g ∧ g < w'.heap.size)) ∧ (s.size = 0 → v' = v)) → wpList P ops Q rest (a.put o.dst v') w') : wpList P ops Q (o :: rest) a w := by
 refine wpList_plain hgd fun K hK => ?_
 obtain ⟨v', w', hr, h2, h3, h4⟩ := zhp (P := P) w base t u o.type e i ht hu hi hz hsize hby v n xs hown s h63 hbytes hbase
 unfold Oper.wp execOp
 simp only [ho, resolve, invoke, builtin, Sem.run_bind, Sem.run_pure, Result.andThen_ok, List.map_toArray, List.map_cons, List.map_nil, hs, hx, hr]
 exact hK _ _ (h v' w' h2 h3 h4)
end
open Go.RowKit
theorem zhK {w : World} {b o o' : Nat} {v : Value} (h : o ≠ o') : (w.setCell ⟨b, o, none⟩ v).cell? ⟨b, o', none⟩ = w.cell? ⟨b, o', none⟩ := by
 unfold World.setCell World.cell?
 simp only [Array.getElem?_modify, if_true]
 cases w.heap[b]? with
 | none => rfl
 | some ob =>
  cases ob <;> simp [Array.getElem?_setIfInBounds_ne h]
theorem zgj {w : World} {b o o' : Nat} {v : Value} : (w.setCell ⟨b, o, none⟩ v).frozen? ⟨b, o', none⟩ = w.frozen? ⟨b, o', none⟩ := by
 unfold World.setCell World.frozen?
 simp only [Array.getElem?_modify, if_true]
 cases w.heap[b]? with
 | none => rfl
 | some ob =>
  cases ob <;> simp
theorem zkS {w : World} {e : TypeId} {v : Value} {k : Nat} {bs : List Value} {b o : Nat} {x : Value} (h : w.ownsRow 0 e 1 v k bs) (hne : v.ownBlock ≠ some b) : (w.setCell ⟨b, o, none⟩ x).ownsRow 0 e 1 v k bs := by
 refine ⟨h.1, ?_⟩
 rcases h.2 with hn | ⟨g, cap, cur, rfl, hb, hgg, rest⟩
 ·exact .inl hn
 ·refine .inr ⟨g, cap, cur, rfl, hb, ?_, rest⟩
  have : b ≠ g := fun e => hne (by simp [Value.ownBlock, e])
  unfold World.setCell
  rw [Array.getElem?_modify, if_neg this]
  exact hgg
theorem znr (b o n : Nat) (T : TypeId) (w : World) (h0 : w.cell? ⟨b, o, none⟩ = some (.pointer none) ∨ w.cell? ⟨b, o, none⟩ = some (.pointer (some ⟨b, o, none⟩))) (hsh : w.shape? b = some (T, n)) (hlt : o < n) (hl : liesAt Tryz.prog Tryz.prog.depth T (n / Tryz.prog.cellsOf T) o 133 1 = true) (hfz : w.frozen? ⟨b, o, none⟩ = false) :
  Calls Tryz.prog 136 #[.pointer (some ⟨b, o, none⟩)] w fun e w' => e = .returned (.tuple #[]) ∧ ((w' = w ∧ w.cell? ⟨b, o, none⟩ = some (.pointer (some ⟨b, o, none⟩))) ∨ w' = w.setCell ⟨b, o, none⟩ (.pointer (some ⟨b, o, none⟩))) := by
 rcases h0 with h0 | h0
 ·refine (znq b o n T w h0 hsh hlt hl hfz).mono ?_
  rintro e w' ⟨rfl, rfl⟩
  exact ⟨rfl, .inr rfl⟩
 ·refine (zqe b o w h0).mono ?_
  rintro e w' ⟨rfl, rfl⟩
  exact ⟨rfl, .inl ⟨rfl, h0⟩⟩
theorem zkT (b o n : Nat) (T : TypeId) (w : World) (v : Value) (k : Nat) (bs : List Value) (s : ByteArray) (h0 : w.cell? ⟨b, o, none⟩ = some (.pointer none) ∨ w.cell? ⟨b, o, none⟩ = some (.pointer (some ⟨b, o, none⟩))) (h1 : w.cell? ⟨b, o + 1, none⟩ = some v)
  (hsh : w.shape? b = some (T, n)) (hlt : o < n) (hl : liesAt Tryz.prog Tryz.prog.depth T (n / Tryz.prog.cellsOf T) o 133 1 = true) (hfz : w.frozen? ⟨b, o, none⟩ = false) (hfz1 : w.frozen? ⟨b, o + 1, none⟩ = false)
  (hown : w.ownsRow 0 5 1 v k bs) (hne : v.ownBlock ≠ some b) (hlen : k + s.size ≤ 140737488355328) :
  Calls Tryz.prog 84 #[.pointer (some ⟨b, o, none⟩), .string s] w fun e w' => e = .returned (.tuple #[.int .i64 s.size, .nilIface]) ∧
   ∃ w1 v' w2, ((w1 = w ∧ w.cell? ⟨b, o, none⟩ = some (.pointer (some ⟨b, o, none⟩))) ∨ w1 = w.setCell ⟨b, o, none⟩ (.pointer (some ⟨b, o, none⟩))) ∧ w2.ownsRow 0 5 1 v' (k + s.size) (bs ++ Lib.strCells s) ∧ w1.grownBy w2 v.ownBlock ∧ ((∀ g, v'.ownBlock = some g → v.ownBlock = some g ∨ (w1.heap.size ≤ g ∧ g < w2.heap.size)) ∧ (s.size = 0 → v' = v)) ∧ w' = w2.setCell ⟨b, o + 1, none⟩ v' := by
 obtain ⟨i0, hi, hz0⟩ := Option.map_eq_some_iff.1 (show (Tryz.prog.info? 5).map (fun i => (i.zero, i.size, i.bytes)) = some (some (.int .u8 0), 1, 1) by kernel_rfl)
 simp only [Prod.mk.injEq] at hz0
 obtain ⟨hz0, hz1, hz2⟩ := hz0
 go_enter Tryz.func84, Tryz.ntmps84
 go_wp2_with (go_at_call 136; refine (znr b o n T _ h0 hsh hlt hl hfz).mono ?_)
 rintro e w1 ⟨rfl, hw1⟩
 have c1 : w1.cell? ⟨b, o + 1, none⟩ = some v := by
  rcases hw1 with ⟨rfl, _⟩ | rfl
  ·exact h1
  ·rw [zhK (by omega)]; exact h1
 have f1 : w1.frozen? ⟨b, o + 1, none⟩ = false := by
  rcases hw1 with ⟨rfl, _⟩ | rfl
  ·exact hfz1
  ·rw [zgj]; exact hfz1
 have hown1 : w1.ownsRow 0 5 1 v k bs := by
  rcases hw1 with ⟨rfl, _⟩ | rfl
  ·exact hown
  ·exact zkS hown hne
 go_wp2_with (at_builtin; refine zfb _ rfl _ _ 83 9 rfl 0 5 i0 Tryz.underlying83 Tryz.underlying9 hi hz0 hz1 hz2 _ _ _ rfl hown1 s rfl ?c3 ?c4 ?c5 ?_)
 case c3 => unfold maxLen; omega
 case c4 => omega
 case c5 => omega
 intro v' w2 hown' hgrow hnew hnew2
 have hlt1 : b < w1.heap.size := by
  rcases Nat.lt_or_ge b w1.heap.size with h' | h'
  ·exact h'
  ·simp [World.cell?, Array.getElem?_eq_none h'] at c1
 have hb2 : w2.heap[b]? = w1.heap[b]? := hgrow.block b hlt1 (fun e => hne e.symm)
 have d1 : w2.cell? ⟨b, o + 1, none⟩ = some v := by
  rw [← c1]; simp only [World.cell?, hb2]
 have f2 : w2.frozen? ⟨b, o + 1, none⟩ = false := by
  rw [← f1]; simp only [World.frozen?, hb2]
 obtain ⟨ao, n', cap, rfl⟩ : ∃ ao n' cap, v' = .slice ao n' cap := by
  rcases hown'.2 with ⟨hv, _⟩ | ⟨g, cap, cur, hv, _⟩
  ·exact ⟨_, _, _, hv⟩
  ·exact ⟨_, _, _, hv⟩
 go_wp2
 go_ret2
 exact ⟨rfl, w1, _, w2, hw1, hown', hgrow, ⟨hnew, fun e => hnew2 (by simpa using e)⟩, rfl⟩
end Go.Proofs.YtmhlpboclbippaaGreat
namespace Go.Proofs.YtmhlpboclbippaaGreat
open Go Go.RowKit
theorem zdN (W : World) (q : Option Addr) : (Builtin.unsafeString_ #[200, 3] 9 #[.pointer q, .int .i64 0]).run Tryz.prog W = .ok (.string .empty) W :=
 Lib.run_unsafeString_none W _ _ _ q
theorem zdO (w : World) (row : Option Nat) : w.grownBy w.drew row := ⟨rfl, rfl, rfl, Nat.le_refl _, fun _ _ _ => rfl⟩
theorem zhL (w : World) (g n : Nat) : w.grownBy (w.drew.freeze ⟨g, 0, none⟩ n) (some g) := by
 unfold World.freeze
 split
 ·exact zdO w _
 ·refine ⟨rfl, rfl, rfl, by simp, fun k hk hne => ?_⟩
  simp only [Array.getElem?_modify]
  rw [if_neg (fun e => hne (by rw [e]))]
  rfl
theorem zns (b o : Nat) (w : World) (h1 : w.cell? ⟨b, o + 1, none⟩ = some (.slice none 0 0)) :
  Calls Tryz.prog 86 #[.pointer (some ⟨b, o, none⟩)] w fun e w' => e = .returned (.string ⟨#[]⟩) ∧ w.grownBy w' none := by
 have hUS := zdN
 have c1 : w.drew.cell? ⟨b, o + 1, none⟩ = some (.slice none 0 0) := h1
 have hSD : (Builtin.unsafeSliceData_ #[83] 200 #[.slice none 0 0]).run Tryz.prog w.drew = .ok (.pointer none) w.drew := rfl
 go_enter Tryz.func86, Tryz.ntmps86
 go_wp2
 go_region
 all_goals (go_wp2; go_ret; exact ⟨rfl, zdO w none⟩)
theorem zkU (b o g cap : Nat) (w : World) (hc0 : cap ≠ 0) (h1 : w.cell? ⟨b, o + 1, none⟩ = some (.slice (some ⟨g, 0, none⟩) 0 cap)) :
  Calls Tryz.prog 86 #[.pointer (some ⟨b, o, none⟩)] w fun e w' => e = .returned (.string ⟨#[]⟩) ∧ w.grownBy w' (some g) := by
 have hUS := zdN
 have c1 : w.drew.cell? ⟨b, o + 1, none⟩ = some (.slice (some ⟨g, 0, none⟩) 0 cap) := h1
 have hSD : (Builtin.unsafeSliceData_ #[83] 200 #[.slice (some ⟨g, 0, none⟩) 0 cap]).run Tryz.prog w.drew = .ok (.pointer (some ⟨g, 0, none⟩)) w.drew :=
  Lib.run_unsafeSliceData_row _ _ _ _ _ _ hc0
 clear hc0
 go_enter Tryz.func86, Tryz.ntmps86
 go_wp2
 go_region
 all_goals (go_wp2; go_ret; exact ⟨rfl, zdO w _⟩)
theorem ziW (b o g : Nat) (cur : Array Value) (w : World) (h1 : w.cell? ⟨b, o + 1, none⟩ = some (.slice (some ⟨g, 0, none⟩) 0 0)) (hg : w.heap[g]? = some (.cells cur 5 (0, 0))) :
  Calls Tryz.prog 86 #[.pointer (some ⟨b, o, none⟩)] w fun e w' => e = .returned (.string ⟨#[]⟩) ∧ w.grownBy w' (some g) := by
 have hUS := zdN
 have hlt : b < w.heap.size := by
  rcases Nat.lt_or_ge b w.heap.size with h' | h'
  ·exact h'
  ·simp [World.cell?, Array.getElem?_eq_none h'] at h1
 have c1 : w.drew.cell? ⟨b, o + 1, none⟩ = some (.slice (some ⟨g, 0, none⟩) 0 0) := h1
 have hSD : (Builtin.unsafeSliceData_ #[83] 200 #[.slice (some ⟨g, 0, none⟩) 0 0]).run Tryz.prog w.drew = .ok (.pointer (some ⟨w.drew.heap.size, 0, none⟩)) (w.drew.alloc (.view ⟨g, 0, none⟩ 5)) :=
  Lib.run_unsafeSliceData_zero w.drew _ _ 5 Tryz.underlying200 ⟨g, 0, none⟩ 0 (5, cur.size) (by have hg' : w.drew.heap[g]? = some (.cells cur 5 (0, 0)) := hg; simp [World.shape?, hg'])
 have c2 : (w.drew.alloc (.view ⟨g, 0, none⟩ 5)).cell? ⟨b, o + 1, none⟩ = some (.slice (some ⟨g, 0, none⟩) 0 0) := by
  rw [← c1]
  simp only [World.cell?]
  rw [Lib.alloc_old w.drew _ b hlt]
 have c3 : (w.alloc (.view ⟨g, 0, none⟩ 5)).drew.cell? ⟨b, o + 1, none⟩ = some (.slice (some ⟨g, 0, none⟩) 0 0) := c2
 go_enter Tryz.func86, Tryz.ntmps86
 go_wp2
 go_region
 all_goals (go_wp2; go_ret; exact ⟨rfl, ⟨rfl, rfl, rfl, by simp, fun k hk _ => Lib.alloc_old w.drew _ k hk⟩⟩)
theorem zkV (b o g cap : Nat) (cur : Array Value) (l : List UInt8) (w : World) (h0 : l ≠ []) (h1 : w.cell? ⟨b, o + 1, none⟩ = some (.slice (some ⟨g, 0, none⟩) l.length cap))
  (hown : w.ownsRow 0 5 1 (.slice (some ⟨g, 0, none⟩) l.length cap) l.length (Lib.byteCells l)) :
  Calls Tryz.prog 86 #[.pointer (some ⟨b, o, none⟩)] w fun e w' => e = .returned (.string ⟨l.toArray⟩) ∧ w.grownBy w' (some g) := by
 have hl0 : l.length ≠ 0 := by simpa using h0
 obtain ⟨cur, hg, hnc, hcm, hcs, htake⟩ : ∃ cur, w.heap[g]? = some (.cells cur 5 (0, 0)) ∧ l.length ≤ cap ∧ cap ≤ maxLen ∧ cur.size = cap * 1 ∧ cur.toList.take (l.length * 1) = Lib.byteCells l := by
  rcases hown.2 with ⟨_, hz⟩ | ⟨g', cap', cur, hv, r0, r⟩
  ·exact absurd hz hl0
  ·cases hv
   exact ⟨cur, r⟩
 have c1 : w.drew.cell? ⟨b, o + 1, none⟩ = some (.slice (some ⟨g, 0, none⟩) l.length cap) := h1
 have hSD : (Builtin.unsafeSliceData_ #[83] 200 #[.slice (some ⟨g, 0, none⟩) l.length cap]).run Tryz.prog w.drew = .ok (.pointer (some ⟨g, 0, none⟩)) w.drew :=
  Lib.run_unsafeSliceData_row _ _ _ _ _ _ (by omega)
 have hUS : (Builtin.unsafeString_ #[200, 3] 9 #[.pointer (some ⟨g, 0, none⟩), .int .i64 l.length]).run Tryz.prog w.drew = .ok (.string ⟨l.toArray⟩) (w.drew.freeze ⟨g, 0, none⟩ l.length) := by
  refine Lib.run_unsafeString_row w.drew 200 3 9 5 Tryz.underlying200 (by kernel_rfl) g cur.size (by have hg' : w.drew.heap[g]? = some (.cells cur 5 (0, 0)) := hg; simp [World.shape?, hg']) l h0 (by omega) (by unfold maxLen at hcm; omega) ?_
  intro j x hx
  have := hown.cells (g := g) rfl j (.int .u8 x.toNat) (by simp [Lib.byteCells, hx])
  exact this
 clear h0 hown
 go_enter Tryz.func86, Tryz.ntmps86
 go_wp2
 go_region
 all_goals (go_wp2; go_ret; exact ⟨rfl, zhL w g _⟩)
theorem zj4 (b o : Nat) (w : World) (v : Value) (l : List UInt8) (h1 : w.cell? ⟨b, o + 1, none⟩ = some v) (hown : w.ownsRow 0 5 1 v l.length (Lib.byteCells l)) :
  Calls Tryz.prog 86 #[.pointer (some ⟨b, o, none⟩)] w fun e w' => e = .returned (.string ⟨l.toArray⟩) ∧ w.grownBy w' v.ownBlock := by
 rcases hown.2 with ⟨rfl, hz⟩ | ⟨g, cap, cur, rfl, _, hg, hnc, hcm, hcs, htake⟩
 ·have : l = [] := List.length_eq_zero_iff.1 hz
  subst this
  exact zns b o w h1
 ·by_cases hl : l = []
  ·subst hl
   by_cases hc : cap = 0
   ·subst hc
    exact ziW b o g cur w h1 hg
   ·exact zkU b o g cap w hc h1
  ·exact zkV b o g cap cur l w hl h1 hown
end Go.Proofs.YtmhlpboclbippaaGreat
namespace Go.Aw
open Go Go.Proofs Go.Proofs.YtmhlpboclbippaaGreat
section
variable {P : Program} {w w' w'' : World} {E E' E'' : Env} {h h' h'' : AHeap} {fl i j : Nat}
theorem EvoC.trans (a : EvoC fl E h w E' h' w') (b : EvoC fl E' h' w' E'' h'' w'') : EvoC fl E h w E'' h'' w'' where
 os := b.os.trans a.os
 tape := b.tape.trans a.tape
 output := b.output.trans a.output
 size := Nat.le_trans a.size b.size
 keep := fun k hk ho => (b.keep k (Nat.lt_of_lt_of_le hk a.size) (fun h => (a.own k h).elim ho (fun h => by omega))).trans (a.keep k hk ho)
 own := fun k h => (b.own k h).elim (fun h => a.own k h) (fun h => .inr (Nat.le_trans a.size h))
 m := b.m.trans a.m
 n := b.n.trans a.n
 go := fun i hi hl => by
  obtain ⟨h1, h2⟩ := b.go i hi hl
  obtain ⟨h3, h4⟩ := a.go i hi h1
  exact ⟨h3, h4.trans h2⟩
theorem Chg.evoC (c : Chg E h w E' h' w' i) (hf : (hget h i).isSome ∨ fl ≤ i) : EvoC fl E h w E' h' w' :=
 have e := c.evo (fl := fl) hf
 ⟨e.os, e.tape, e.output, e.size, fun b hb ho => c.blk b hb (fun ⟨h1, h2⟩ => ho ⟨i, h1, h2⟩), e.own, c.M, c.N, e.go⟩
theorem zme {b : Nat} {c : Array Value} {T : TypeId} {fz : Nat × Nat} (g2 : w.heap[b]? = some (.cells c T fz)) : World.row w b (.cells c T fz) = w := by
 obtain ⟨hlt, hb'⟩ := Array.getElem?_eq_some_iff.1 g2
 unfold World.row
 rw [← hb', Array.setIfInBounds_def, dif_pos hlt, Array.set_getElem_self]
theorem zj5 {b o : Nat} {c : Array Value} {T : TypeId} {fz : Nat × Nat} {v : Value} (g2 : w.heap[b]? = some (.cells c T fz)) (hc : c[o]? = some v) : w.setCell ⟨b, o, none⟩ v = w := by
 rw [zcO g2]
 have : c.setIfInBounds o v = c := by
  obtain ⟨hlt, he⟩ := Array.getElem?_eq_some_iff.1 hc
  rw [Array.setIfInBounds_def, dif_pos hlt, ← he, Array.set_getElem_self]
 rw [this]
 exact zme g2
theorem zfS : ∀ (h : AHeap) (i : Nat) (a b : AObj), hset (hset h i a) i b = hset h i b
  | [], _, _, _ => rfl
  | (k, o) :: r, i, a, b => by
    by_cases hk : k = i
    · simp [hset, hk]
    · simp [hset, hk, zfS r]
theorem pokeT (hs : SatH E h w) {o b : Nat} {t : TypeId} {cs : List AV} (hi : hget h i = some (.tvar t cs)) (hb : E.O i = some b) {x : AV} {v : Value} (hr : Rep w E h x v) :
  Chg E h w E (hset h i (.tvar t (cs.set o x))) (w.setCell ⟨b, o, none⟩ v) i ∧ SatH E (hset h i (.tvar t (cs.set o x))) (w.setCell ⟨b, o, none⟩ v) := by
 have hob := hs.heap i _ hi
 simp only [RepObj] at hob
 obtain ⟨b', c, T, fz, g1, g2, g3, g4, g5⟩ := hob
 rw [hb] at g1; cases g1
 rw [zcO g2]
 have ch := zil hs hi (cs' := cs.set o x) (by simp) hb (.cells (c.setIfInBounds o v) T fz)
 refine ⟨ch, ch.satH hs (fun ob hob => ?_)⟩
 rw [zw hi] at hob
 cases hob
 simp only [RepObj]
 refine ⟨b, _, T, fz, hb, zcm (Array.getElem?_eq_some_iff.1 g2).1, ?_, by simpa using g4, g5⟩
 rw [Array.toList_setIfInBounds]
 exact ch.reps (g3.set hr)
theorem zqi (hs : SatH E h w) {t : TypeId} {xs : List UInt8} {n : Nat} {v : Value} (hj : hget h j = some (.buf t xs)) (hv : Rep w E h (.bsl j n) v) (hn : n = xs.length) :
  w.ownsRow 0 t 1 v xs.length (Lib.byteCells xs) ∧ (∀ g, v.ownBlock = some g → E.O j = some g) ∧ (v = .slice none 0 0 ∧ E.O j = none ∨ ∃ g, v = .slice (some ⟨g, 0, none⟩) xs.length (E.C j) ∧ E.O j = some g) := by
 simp only [Rep] at hv
 obtain ⟨_, t', xs', h1, _, h3⟩ := hv
 rw [hj] at h1; cases h1
 have hob := hs.heap j _ hj
 simp only [RepObj] at hob
 rcases h3 hn.symm with ⟨⟨h4, h5⟩, rfl⟩ | ⟨g, h4, rfl⟩
 ·have : xs = [] := List.length_eq_zero_iff.1 (by omega)
  subst this
  exact ⟨World.ownsRow_nil _ _ _ _, fun g hg => by simp [Value.ownBlock] at hg, .inl ⟨rfl, h4⟩⟩
 ·rcases hob with ⟨q1, _⟩ | ⟨b', c, T, fz, q1, q2, q3, q4, q5, rfl, rfl, q7⟩
  ·rw [h4] at q1; cases q1
  ·rw [h4] at q1; cases q1
   refine ⟨⟨by simp [Lib.byteCells], .inr ⟨g, E.C j, c, by rw [hn], Nat.zero_le _, q2, q4, by unfold maxLen; omega, q3, by rw [Nat.mul_one]; exact q5⟩⟩, fun g' hg => ?_, .inr ⟨g, by rw [hn], h4⟩⟩
   simp [Value.ownBlock] at hg
   rw [h4, hg]
theorem zqj {t : TypeId} {xs xs' : List UInt8} (hj : hget h j = some (.buf t xs)) (g' : Option Nat) (cap' : Nat) {row : Option Nat} (hgrow : w.grownBy w' row) (hrow : ∀ g, row = some g → E.O j = some g) (hlen : xs.length ≤ xs'.length) (hsame : xs'.length = xs.length → g' = E.O j ∧ cap' = E.C j)
  (hnew : ∀ g, g' = some g → E.O j = some g ∨ (w.heap.size ≤ g ∧ g < w'.heap.size)) : Chg E h w (E.set j g' cap') (hset h j (.buf t xs')) w' j where
 os := hgrow.os
 tape := hgrow.tape
 output := hgrow.output
 size := hgrow.size
 envO := fun k e => by simp [Env.set, e]
 envC := fun k e => by simp [Env.set, e]
 M := rfl
 N := rfl
 hh := fun k e => zH e
 gi := by
  unfold GoesOn
  rw [hj]
  exact ⟨xs', zw hj, hlen, fun e => by simpa [Env.set] using hsame e⟩
 blk := fun b hb hn => hgrow.block b hb (fun e => hn ⟨by simp [hj], hrow b e.symm⟩)
 new := fun b _ hb => by
  simp only [Env.set, if_true] at hb
  rcases hnew b hb with h1 | h1
  ·exact .inl ⟨by simp [hj], h1⟩
  ·exact .inr h1
theorem zhM (l : List UInt8) : Lib.strCells ⟨l.toArray⟩ = Lib.byteCells l := by simp [Lib.strCells, Lib.byteCells]
theorem zs3 {o : Nat} {T : TypeId} {cs : List AV} {xs l : List UInt8} {n : Nat} (hi : hget h i = some (.tvar T cs)) (c0 : cs[o]? = some (.d .nilp) ∨ cs[o]? = some (.tp i o)) (c1 : cs[o + 1]? = some (.bsl j n)) (hj : hget h j = some (.buf 5 xs)) (hn : n = xs.length)
  (hl : liesAt Tryz.prog Tryz.prog.depth T (cs.length / Tryz.prog.cellsOf T) o 133 1 = true) (hlen : xs.length + l.length ≤ 140737488355328) :
  ACallAt Tryz.prog fl 84 [.tp i o, .d (.str l)] h (fun r h' => r = .tup [.d (.int .i64 l.length), .d .nilif] ∧ h' = hset (hset h j (.buf 5 (xs ++ l))) i (.tvar T ((cs.set o (.tp i o)).set (o + 1) (.bsl j (xs.length + l.length))))) := by
 refine ⟨zu Tryz.func84 (by kernel_rfl) rfl, fun E w vs hs hr => ?_⟩
 simp only [Reps] at hr
 obtain ⟨v0, r0, e0, q0, v1, r1, rfl, q1, rfl⟩ := hr
 have q0' := q0
 simp only [Rep, RepD] at q0 q1
 obtain ⟨b, T', cs', hi', hb, rfl⟩ := q0
 rw [hi] at hi'; cases hi'
 subst q1
 have hvs : vs = #[.pointer (some ⟨b, o, none⟩), .string ⟨l.toArray⟩] := by cases vs; simpa using e0
 subst hvs
 have hij : i ≠ j := fun e => by rw [e, hj] at hi; cases hi
 have hob := hs.heap i _ hi
 simp only [RepObj] at hob
 obtain ⟨b', c, T0, fz, g1, g2, g3, g4, rfl⟩ := hob
 rw [hb] at g1; cases g1
 have hcl : c.size = cs.length := by have := Reps.length g3; simpa using this
 obtain ⟨v, hv0, hv⟩ := Reps.get g3 c1
 have hv1 : c[o + 1]? = some v := by simpa using hv0
 have hlt1 : o + 1 < c.size := (Array.getElem?_eq_some_iff.1 hv1).1
 obtain ⟨o1, o2, o3⟩ := zqi hs hj hv hn
 have hne : v.ownBlock ≠ some b := fun e => hij (hs.inj i j b (by simp [hi]) (by simp [hj]) hb (o2 b e))
 have hfz : ∀ k, k < c.size → w.frozen? ⟨b, k, none⟩ = false := fun k hk => by
  rw [zbS g2]
  have := g4 k hk
  simpa using this
 have hptr : Rep w E h (.tp i o) (.pointer (some ⟨b, o, none⟩)) := q0'
 have hc0 : c[o]? = some (.pointer none) ∨ c[o]? = some (.pointer (some ⟨b, o, none⟩)) := by
  rcases c0 with c0 | c0
  ·obtain ⟨u, hu, hur⟩ := Reps.get g3 c0
   simp only [Rep, RepD] at hur
   subst hur
   exact .inl (by simpa using hu)
  ·obtain ⟨u, hu, hur⟩ := Reps.get g3 c0
   simp only [Rep] at hur
   obtain ⟨b2, _, _, _, hb2, rfl⟩ := hur
   rw [hb] at hb2; cases hb2
   exact .inr (by simpa using hu)
 refine (zkT b o c.size T0 w v xs.length (Lib.byteCells xs) ⟨l.toArray⟩ (by rw [zY g2]; exact hc0) (by rw [zY g2]; exact hv1) (by simp [World.shape?, g2]) (by omega) (by rw [hcl]; exact hl) (hfz o (by omega)) (hfz (o + 1) hlt1) o1 hne (by simpa [ByteArray.size] using hlen)).mono ?_
 rintro e w3 ⟨rfl, w1, v', w2, hw1, hown', hgrow, ⟨hnew, hempty⟩, rfl⟩
 have hw1' : w1 = w.setCell ⟨b, o, none⟩ (.pointer (some ⟨b, o, none⟩)) := by
  rcases hw1 with ⟨rfl, hc⟩ | h
  ·rw [zY g2] at hc
   exact (zj5 g2 hc).symm
  ·exact h
 subst hw1'
 obtain ⟨ch1, hs1⟩ := pokeT hs hi hb (o := o) hptr
 have hj1 : hget (hset h i (.tvar T0 (cs.set o (.tp i o)))) j = some (.buf 5 xs) := by rw [zH (Ne.symm hij)]; exact hj
 rw [zhM] at hown'
 have hsz : (⟨l.toArray⟩ : ByteArray).size = l.length := by simp [ByteArray.size]
 rw [hsz] at hown' hempty
 obtain ⟨g', cap', hv', hg'⟩ : ∃ (g' : Option Nat) (cap' : Nat), v'.ownBlock = g' ∧ ((v' = .slice none 0 0 ∧ g' = none ∧ xs ++ l = []) ∨ ∃ g cur, g' = some g ∧ v' = .slice (some ⟨g, 0, none⟩) (xs.length + l.length) cap' ∧ w2.heap[g]? = some (.cells cur 5 (0, 0)) ∧ xs.length + l.length ≤ cap' ∧ cap' ≤ maxLen ∧ cur.size = cap' * 1 ∧ cur.toList.take ((xs.length + l.length) * 1) = Lib.byteCells xs ++ Lib.byteCells l) ∧ (l = [] → g' = E.O j ∧ cap' = E.C j) := by
  rcases hown'.2 with ⟨rfl, hz⟩ | ⟨g, cap', cur, rfl, _, hx⟩
  ·refine ⟨none, E.C j, rfl, .inl ⟨rfl, rfl, ?_⟩, fun hl0 => ⟨?_, rfl⟩⟩
   ·have h1 : xs = [] := List.length_eq_zero_iff.1 (by omega)
    have h2 : l = [] := List.length_eq_zero_iff.1 (by omega)
    simp [h1, h2]
   ·have hve := hempty (by simp [hl0])
    rcases o3 with ⟨_, h1⟩ | ⟨g, h1, _⟩
    ·exact h1.symm
    ·rw [h1] at hve; cases hve
  ·refine ⟨some g, cap', rfl, .inr ⟨g, cur, rfl, rfl, hx⟩, fun hl0 => ?_⟩
   have hve := hempty (by simp [hl0])
   rcases o3 with ⟨h1, _⟩ | ⟨g2, h1, h2⟩
   ·rw [h1] at hve; cases hve
   ·rw [h1] at hve
    simp only [Value.slice.injEq, Option.some.injEq, Addr.mk.injEq] at hve
    obtain ⟨⟨rfl, _⟩, _, rfl⟩ := hve
    exact ⟨h2.symm, rfl⟩
 obtain ⟨hg', hsame⟩ := hg'
 have ch2 : Chg E (hset h i (.tvar T0 (cs.set o (.tp i o)))) (w.setCell ⟨b, o, none⟩ (.pointer (some ⟨b, o, none⟩))) (E.set j g' cap') (hset (hset h i (.tvar T0 (cs.set o (.tp i o)))) j (.buf 5 (xs ++ l))) w2 j :=
  zqj hj1 g' cap' hgrow (fun g hg => o2 g hg) (by simp) (fun e => hsame (by simpa using e)) (fun g hg => by
   rcases hnew g (by rw [hv', hg]) with h1 | h1
   ·exact .inl (o2 g h1)
   ·exact .inr h1)
 have hs2 := ch2.satH hs1 (fun ob hob => by
  rw [zw hj1] at hob
  cases hob
  simp only [RepObj, Env.set, if_true]
  rcases hg' with ⟨_, h1, h2⟩ | ⟨g, cur, h1, h2, h3, h4, h5, h6, h7⟩
  ·exact .inl ⟨h1, .inl h2⟩
  ·refine .inr ⟨g, cur, 5, (0, 0), h1, h3, h6, by simpa using h4, ?_, rfl, rfl, by unfold maxLen at h5; omega⟩
   rw [Nat.mul_one] at h7
   rw [List.length_append, h7]
   simp [Lib.byteCells])
 have hi2 : hget (hset (hset h i (.tvar T0 (cs.set o (.tp i o)))) j (.buf 5 (xs ++ l))) i = some (.tvar T0 (cs.set o (.tp i o))) := by rw [zH hij]; exact zw hi
 have hb2 : (E.set j g' cap').O i = some b := by simp [Env.set, hij, hb]
 have hrv' : Rep w2 (E.set j g' cap') (hset (hset h i (.tvar T0 (cs.set o (.tp i o)))) j (.buf 5 (xs ++ l))) (.bsl j (xs.length + l.length)) v' := by
  simp only [Rep]
  rcases hg' with ⟨h0, h1, h2⟩ | ⟨g, cur, h1, h2, h3, h4, h5, h6, h7⟩
  ·have h3 : xs.length + l.length = 0 := by have := congrArg List.length h2; simpa using this
   exact ⟨⟨_, _, _, h0⟩, _, _, zw hj1, by simp, fun _ => .inl ⟨⟨by simp [Env.set, h1], h3⟩, h0⟩⟩
  ·exact ⟨⟨_, _, _, h2⟩, _, _, zw hj1, by simp, fun _ => .inr ⟨g, by simp [Env.set, h1], by simp [Env.set, h2]⟩⟩
 obtain ⟨ch3, hs3⟩ := pokeT hs2 hi2 hb2 (o := o + 1) hrv'
 have eh : hset (hset (hset h i (.tvar T0 (cs.set o (.tp i o)))) j (.buf 5 (xs ++ l))) i (.tvar T0 ((cs.set o (.tp i o)).set (o + 1) (.bsl j (xs.length + l.length)))) = hset (hset h j (.buf 5 (xs ++ l))) i (.tvar T0 ((cs.set o (.tp i o)).set (o + 1) (.bsl j (xs.length + l.length)))) := by
  rw [zgV h hij, zfS]
 refine ⟨_, _, _, _, rfl, ⟨rfl, rfl⟩, eh ▸ hs3, ?_, eh ▸ ((ch1.evoC (.inl (by simp [hi]))).trans ((ch2.evoC (.inl (by simp [hj1]))).trans (ch3.evoC (.inl (by simp [hi2]))))), fun x y hxy => eh ▸ ch3.rep (ch2.rep (ch1.rep hxy))⟩
 simp only [Rep, Reps, RepD]
 refine ⟨_, rfl, _, _, rfl, ?_, _, _, rfl, rfl, rfl⟩
 rw [hsz]
noncomputable def gone : List UInt8 := List.replicate zgH 0
theorem zkX : gone.length = zgH := by unfold gone; exact List.length_replicate ..
attribute [irreducible] gone
theorem zqk {o : Nat} {T : TypeId} {cs : List AV} {xs : List UInt8} {n : Nat} (hi : hget h i = some (.tvar T cs)) (c1 : cs[o + 1]? = some (.bsl j n)) (hj : hget h j = some (.buf 5 xs)) (hn : n = xs.length) (hlen : xs.length ≤ 140737488355328) :
  ACallAt Tryz.prog fl 86 [.tp i o] h (fun r h' => r = .d (.str xs) ∧ h' = hset h j (.buf 5 gone)) := by
 refine ⟨zu Tryz.func86 (by kernel_rfl) rfl, fun E w vs hs hr => ?_⟩
 simp only [Reps] at hr
 obtain ⟨v0, r0, e0, q0, rfl⟩ := hr
 have q0' := q0
 simp only [Rep] at q0
 obtain ⟨b, T', cs', hi', hb, rfl⟩ := q0
 rw [hi] at hi'; cases hi'
 have hvs : vs = #[.pointer (some ⟨b, o, none⟩)] := by cases vs; simpa using e0
 subst hvs
 have hob := hs.heap i _ hi
 simp only [RepObj] at hob
 obtain ⟨b', c, T0, fz, g1, g2, g3, g4, rfl⟩ := hob
 rw [hb] at g1; cases g1
 obtain ⟨v, hv0, hv⟩ := Reps.get g3 c1
 have hv1 : c[o + 1]? = some v := by simpa using hv0
 obtain ⟨o1, o2, o3⟩ := zqi hs hj hv hn
 refine (zj4 b o w v xs (by rw [zY g2]; exact hv1) o1).mono ?_
 rintro e w3 ⟨rfl, hgrow⟩
 have hgl := zkX
 have hdl : zgH = 9223372036854775808 := rfl
 have ch : Chg E h w (E.set j none 0) (hset h j (.buf 5 gone)) w3 j :=
  zqj hj none 0 hgrow (fun g hg => o2 g hg) (by omega) (fun e => by omega) (fun g hg => by cases hg)
 have hs2 := ch.satH hs (fun ob hob => by
  rw [zw hj] at hob
  cases hob
  simp only [RepObj, Env.set, if_true]
  exact .inl ⟨trivial, .inr hgl⟩)
 exact ⟨_, _, _, _, rfl, ⟨rfl, rfl⟩, hs2, by simp only [Rep, RepD], ch.evoC (.inl (by simp [hj])), fun x y hxy => ch.rep hxy⟩
theorem zql {cx : Cx} {c : Code} {Q : Exit → AS → Prop} {s : AS} (i o : Nat) {T : TypeId} {cs : List AV} (hi : hget s.h i = some (.tvar T cs)) (ho : cs[o]? = some (.nils 1))
    (h : AW cx c Q { s with h := (fresh cx.fl s.h, .buf 5 []) :: hset s.h i (.tvar T (cs.set o (.bsl (fresh cx.fl s.h) 0))) }) : AW cx c Q s := fun E a w hs => by
  have hne : fresh cx.fl s.h ≠ i := fun e => by
    have := zcw cx.fl s.h
    rw [e, hi] at this; cases this
  have cc : Chg E s.h w (E.set (fresh cx.fl s.h) none 0) ((fresh cx.fl s.h, .buf 5 []) :: s.h) w (fresh cx.fl s.h) :=
    { os := rfl, tape := rfl, output := rfl, size := Nat.le_refl _, envO := fun j e => by simp [Env.set, e], envC := fun j e => by simp [Env.set, e], M := rfl, N := rfl, hh := fun j e => by simp [hget, Ne.symm e],
      gi := by simp [GoesOn, zcw]
      blk := fun b hb _ => rfl
      new := fun b _ hb => by simp [Env.set] at hb }
  have hs1 := cc.sat (t := s.t) (g := s.g) hs (fun o ho => by
    simp [hget] at ho
    subst ho
    simp only [RepObj]
    exact .inl ⟨by simp [Env.set], .inl trivial⟩)
  have hi1 : hget ((fresh cx.fl s.h, .buf 5 []) :: s.h) i = some (.tvar T cs) := by simp [hget, hne, hi]
  have e1 : (fresh cx.fl s.h, AObj.buf 5 []) :: hset s.h i (.tvar T (cs.set o (.bsl (fresh cx.fl s.h) 0))) = hset ((fresh cx.fl s.h, .buf 5 []) :: s.h) i (.tvar T (cs.set o (.bsl (fresh cx.fl s.h) 0))) := by
    simp [hset, hne]
  obtain ⟨E1, hE1⟩ : ∃ E1, E1 = E.set (fresh cx.fl s.h) none 0 := ⟨_, rfl⟩
  rw [← hE1] at hs1 cc
  obtain ⟨b, c', T', fz, g1, g2, g3, g4, g5⟩ := hs1.hp.tvar hi1
  have ch := zil (w := w) hs1.hp hi1 (cs' := cs.set o (.bsl (fresh cx.fl s.h) 0)) (by simp) g1 (.cells c' T' fz)
  rw [zme g2] at ch
  have hs2 := ch.sat (t := s.t) (g := s.g) hs1 (fun ob hob => by
    rw [zw hi1] at hob
    cases hob
    simp only [RepObj]
    refine ⟨b, c', T', fz, g1, g2, ?_, g4, g5⟩
    obtain ⟨v, hv, hvr⟩ := Reps.get g3 ho
    simp only [Rep] at hvr
    subst hvr
    have := g3.set (i := o) (a := .bsl (fresh cx.fl s.h) 0) (v := .slice none 0 0) (by
      simp only [Rep]
      refine ⟨⟨_, _, _, rfl⟩, 5, [], by simp [hget], by simp, fun _ => .inl ⟨⟨by simp [hE1, Env.set], trivial⟩, trivial⟩⟩)
    have e2 : c'.toList.set o (.slice none 0 0) = c'.toList := by
      obtain ⟨hlt, he⟩ := List.getElem?_eq_some_iff.1 hv
      rw [← he, List.set_getElem_self]
    rw [e2] at this
    exact ch.reps this)
  rw [← e1] at hs2
  refine wpIn_mono (h _ a w hs2) (fun _ _ _ hr => hr.trans (Evo.trans (cc.evo (.inr (zaD _ _))) ?_))
  rw [e1]
  exact ch.evo (.inl (by simp [hi1]))
end
open Go Go.Proofs
abbrev Txt := List UInt8
abbrev PutR := Int × Txt
def putD (q : PutR) : List D := [.int .i64 q.1, .str q.2]
theorem zcT : ∀ a b, putD a = putD b → a = b := by
 rintro ⟨a, b⟩ ⟨a', b'⟩ h
 simpa [putD] using h
structure Disk where
 data : Txt
 cache : List PutR
 fuse : Int
 off : Bool
 bad : List Int
 deriving DecidableEq
def diskA (d : Disk) : AV := .agg [.d (.str d.data), .d (.sl 2 (d.cache.map putD)), .d (.int .i64 d.fuse), .d (.bool d.off), .d (.sl 1 (d.bad.map intD))]
attribute [go_sem] diskA
def diskC (d : Disk) : List AV := [.d (.str d.data), .d (.sl 2 (d.cache.map putD)), .d (.int .i64 d.fuse), .d (.bool d.off), .d (.sl 1 (d.bad.map intD))]
attribute [go_sem] diskC
theorem zeW (d : Disk) : Disk.mk d.data d.cache d.fuse d.off d.bad = d := rfl
noncomputable def zM : PT Disk := aggT (consL strT (consL (slT 2 putD zcT) (consL (intT .i64) (consL boolT (consL (slT 1 intD zbj) nilL))))) (fun p => ⟨p.1, p.2.1, p.2.2.1, p.2.2.2.1, p.2.2.2.2.1⟩) (fun x => (x.data, x.cache, x.fuse, x.off, x.bad, ())) (fun _ => rfl)
attribute [go_sem] zM
noncomputable def zgZ : PT Disk := dpT (consL strT (consL (slT 2 putD zcT) (consL (intT .i64) (consL boolT (consL (slT 1 intD zbj) nilL))))) (fun p => ⟨p.1, p.2.1, p.2.2.1, p.2.2.2.1, p.2.2.2.2.1⟩) (fun x => (x.data, x.cache, x.fuse, x.off, x.bad, ())) (fun _ => rfl)
attribute [go_sem] zgZ
attribute [go_sem] zeW
structure DiskOk (d : Disk) : Prop where
 data : d.data.length ≤ 9223372036854775807
 cache : d.cache.length ≤ 9223372036854775807
 bad : d.bad.length ≤ 9223372036854775807
 fuse0 : -9223372036854775808 ≤ d.fuse
 fuse1 : d.fuse ≤ 9223372036854775807
def dsize (d : Disk) : Nat := d.data.length / 64
def there (d : Disk) (at_ : Int) : Bool := decide (0 ≤ at_) && decide (at_ < (dsize d : Int))
theorem there_iff {d : Disk} {at_ : Int} : there d at_ = true ↔ 0 ≤ at_ ∧ at_ < ((d.data.length / 64 : Nat) : Int) := by
 rw [there, Bool.and_eq_true]
 exact and_congr decide_eq_true_iff decide_eq_true_iff
def zaW (d : Disk) : List Int → Option Int → Bool
 | [], _ => true
 | a :: l, p => there d a && (match p with | none => true | some b => decide (b < a)) && zaW d l (some a)
def putOk (d : Disk) (q : PutR) : Bool := there d q.1 && ((q.2.length : Int) == 64)
def dfit (d : Disk) : Bool :=
 decide (1 ≤ dsize d) && decide (dsize d ≤ 1024) && (d.data.length % 64 == 0) && decide (d.cache.length ≤ 4096) && d.cache.all (putOk d) && zaW d d.bad none
def isPut (at_ : Int) (q : PutR) : Bool := q.1 == at_
def sees (d : Disk) (at_ : Int) : Txt :=
 match d.cache.reverse.find? (isPut at_) with
 | some q => q.2
 | none => (d.data.drop (at_ * 64).toNat).take 64
def dread (d : Disk) (at_ : Int) : Txt × Int :=
 if d.off then ([], 12) else if !there d at_ then ([], 10) else if d.bad.contains at_ then ([], 13) else (sees d at_, 0)
def burnt (d : Disk) : Disk := if 0 < d.fuse then { d with fuse := d.fuse - 1 } else d
def zQ (d : Disk) (at_ : Int) (s : Txt) : Disk × Int :=
 if d.off then (d, 12) else if !there d at_ then (d, 10) else if (s.length : Int) ≠ 64 then (d, 11)
 else if d.fuse = 0 then ({ d with off := true }, 12) else if d.bad.contains at_ then (d, 13) else if 4096 ≤ (d.cache.length : Int) then (d, 16)
 else (burnt { d with cache := d.cache ++ [(at_, s)] }, 0)
def lay (b : Txt) (at_ : Nat) (s : Txt) : Txt := b.take at_ ++ s ++ b.drop (at_ + s.length)
def zee (b : Txt) (l : List PutR) : Txt := l.foldl (fun b q => lay b (q.1 * 64).toNat q.2) b
def dflush (d : Disk) : Disk × Int :=
 if d.off then (d, 12) else if d.fuse = 0 then ({ d with off := true }, 12)
 else (burnt { d with data := zee d.data d.cache, cache := [] }, 0)
def dnew (n : Int) : Disk × Int := if n < 1 ∨ 1024 < n then (⟨[], [], 0, false, []⟩, 11) else (⟨List.replicate (n * 64).toNat 0, [], -1, false, []⟩, 0)
theorem ztQ {n : Nat} (h : n ≤ 9223372036854775807) : IntKind.i64.wrap ((n : Int).tdiv 64) = ((n / 64 : Nat) : Int) := by
 rw [Int.tdiv_eq_ediv_of_nonneg (by omega), IntKind.wrap_i64]; omega
theorem zlw {d : Disk} (h : DiskOk d) : DiskOk (burnt d) := by
 obtain ⟨h1, h2, h3, h4, h5⟩ := h
 unfold burnt
 split
 ·exact ⟨h1, h2, h3, by simp only; omega, by simp only; omega⟩
 ·exact ⟨h1, h2, h3, h4, h5⟩
open Go Go.Proofs
theorem zoY (d : Disk) (hd : DiskOk d) : ACall Tryz.prog 64 0 [diskA d] [] (fun r _ => r = .d (.int .i64 (dsize d))) := by
 refine zk Tryz.func64 rfl (zu Tryz.func64 (by kernel_rfl) rfl) Tryz.ntmps64 (by simp) (fun base => ?_)
 repeat' (first | ((first | refine za noTab (zb _) (fun K hK => ?_) | refine zc noTab (zb _) ?_ | refine zh ?_ | refine zi ?_ | refine zn ?_); simp only [go_sem, aeq, aeq.aeqF, simprocAttr, ztQ hd.data, Tryz.results64]) | refine zq (fun K hK => ?_) | (refine hK _ ?_; clear hK K) | with_reducible refine And.intro ?_ ?_ | omega | assumption | clear hK K)
 rfl
noncomputable def za8 : Ent Tryz.prog := .ofL 64 (consL zM nilL) (fun (d, _) => DiskOk d) (fun (d, _) => .d (.int .i64 (dsize d))) (fun (d, _) hp => ⟨rfl, zoY d hp⟩)
attribute [go_sem] za8
noncomputable def tab1a : Tab := tabOf [za8]
theorem zlx : TabOk Tryz.prog tab1a := zz _
@[go_sem] theorem zoZ (args : List AV) : tab1a 64 args = (za8).e args := rfl
theorem zmB (d : Disk) (at_ : Int) (hd : DiskOk d) : ACall Tryz.prog 102 0 [diskA d, .d (.int .i64 at_)] [] (fun r _ => r = .d (.bool (there d at_))) := by
 refine zk Tryz.func102 rfl (zu Tryz.func102 (by kernel_rfl) rfl) Tryz.ntmps102 (by simp) (fun base => ?_)
 repeat' (first | ((first | refine za tab1a (zlx) (fun K hK => ?_) | refine zc tab1a (zlx) ?_ | refine zh ?_ | refine zi ?_ | refine zn ?_); simp only [go_sem, aeq, aeq.aeqF, simprocAttr, Tryz.results102]) | refine zq (fun K hK => ?_) | (refine hK _ ?_; clear hK K) | with_reducible refine And.intro ?_ ?_ | omega | assumption | refine fun (hg : (_ : Bool) = (_ : Bool)) => ?_ | clear hK K)
 rfl
noncomputable def zbC : Ent Tryz.prog := .ofL 102 (consL zM (consL (intT .i64) nilL)) (fun (d, at_, _) => DiskOk d) (fun (d, at_, _) => .d (.bool (there d at_))) (fun (d, at_, _) hp => ⟨rfl, zmB d at_ hp⟩)
attribute [go_sem] zbC
theorem zrY (d : Disk) (at_ : Int) (hd : DiskOk d) : ACall Tryz.prog 103 0 [diskA d, .d (.int .i64 at_)] [] (fun r _ => r = .d (.bool (d.bad.contains at_))) := by
 refine zk Tryz.func103 rfl (zu Tryz.func103 (by kernel_rfl) rfl) Tryz.ntmps103 (by simp) (fun base => ?_)
 repeat' (first | ((first | refine za noTab (zb _) (fun K hK => ?_) | refine zc noTab (zb _) ?_ | refine zh ?_ | refine zi ?_ | refine zn ?_); simp only [go_sem, aeq, aeq.aeqF, simprocAttr, Tryz.results103]) | refine zq (fun K hK => ?_) | refine zo ?_ | refine zf rfl ?_ | refine zg rfl ?_ | refine zp rfl (fun hc => ?_) (fun hc => ?_) | (refine hK _ ?_; clear hK K) | with_reducible refine And.intro ?_ ?_ | omega | assumption | clear hK K)
 have hb := hd.bad
 refine zL (fun q : { i : Nat // i ≤ d.bad.length ∧ d.bad.contains at_ = (d.bad.drop i).contains at_ } => ⟨[(1, true, .d (.int .i64 at_)), (2, true, .vp 0 0), (5, true, .d (.int .i64 q.1))], [(0, .var [.d (.str d.data), .d (.sl 2 (d.cache.map putD)), .d (.int .i64 d.fuse), .d (.bool d.off), .d (.sl 1 (d.bad.map intD))])], some []⟩) (fun q => d.bad.length - q.1) ⟨0, Nat.zero_le _, rfl⟩ (by simp only [AS.le, leT, leH, zr, AsgK, AV.le, AV.leL, AObj.le, inH, idsT, idsH, AV.ids, AV.idsL, AV.idsR, AObj.ids, lk, hget, go_sem, aeq, aeq.aeqF, simprocAttr] <;> and_intros <;> rfl) (fun q => ?_)
 obtain ⟨i, hi, hf⟩ := q
 simp only at hi hf ⊢
 rcases zad intD d.bad i hi with ⟨m, hq, hlt, hcmp, hrow, hdr, htk⟩ | ⟨hend, hcmp⟩
 ·simp only [intD] at hrow
  have hwi := zP (i := i) (by omega)
  rw [hdr, List.contains_cons] at hf
  repeat' (first | ((first | refine za noTab (zb _) (fun K hK => ?_) | refine zc noTab (zb _) ?_ | refine zh ?_ | refine zi ?_ | refine zn ?_); simp only [go_sem, aeq, aeq.aeqF, simprocAttr, hcmp, hrow, Tryz.results103]) | refine zq (fun K hK => ?_) | refine zo ?_ | refine zf rfl ?_ | refine zg rfl ?_ | refine zp rfl (fun hc => ?_) (fun hc => ?_) | (refine hK _ ?_; clear hK K) | with_reducible refine And.intro ?_ ?_ | omega | assumption | clear hK K)
  ·rw [hf, BEq.comm, hc]; rfl
  ·rw [BEq.comm, hc, Bool.false_or] at hf
   exact ⟨⟨i + 1, by omega, hf⟩, by simp only [AS.le, leT, leH, zr, AsgK, AV.le, AV.leL, AObj.le, inH, idsT, idsH, AV.ids, AV.idsL, AV.idsR, AObj.ids, lk, hget, go_sem, aeq, aeq.aeqF, simprocAttr, hwi], by simp; omega⟩
 ·repeat' (first | ((first | refine za noTab (zb _) (fun K hK => ?_) | refine zc noTab (zb _) ?_ | refine zh ?_ | refine zi ?_ | refine zn ?_); simp only [go_sem, aeq, aeq.aeqF, simprocAttr, hcmp, Tryz.results103]) | refine zq (fun K hK => ?_) | refine zo ?_ | refine zf rfl ?_ | refine zg rfl ?_ | refine zp rfl (fun hc => ?_) (fun hc => ?_) | (refine hK _ ?_; clear hK K) | with_reducible refine And.intro ?_ ?_ | omega | assumption | clear hK K)
  rw [hf, hend, List.drop_length]
  rfl
noncomputable def zfw : Ent Tryz.prog := .ofL 103 (consL zM (consL (intT .i64) nilL)) (fun (d, at_, _) => DiskOk d) (fun (d, at_, _) => .d (.bool (d.bad.contains at_))) (fun (d, at_, _) hp => ⟨rfl, zrY d at_ hp⟩)
attribute [go_sem] zfw
theorem zmC (d : Disk) (hd : DiskOk d) : ACall Tryz.prog 104 0 [diskA d] [] (fun r _ => r = diskA (burnt d)) := by
 refine zA ?_
 refine zk Tryz.func104 rfl (zu Tryz.func104 (by kernel_rfl) rfl) Tryz.ntmps104 (by simp) (fun base => ?_)
 have h1 := hd.fuse1
 repeat' (first | ((first | refine za noTab (zb _) (fun K hK => ?_) | refine zc noTab (zb _) ?_ | refine zh ?_ | refine zi ?_ | refine zn ?_); simp only [go_sem, aeq, aeq.aeqF, simprocAttr, Tryz.results104]) | refine zq (fun K hK => ?_) | refine zf rfl ?_ | refine zg rfl ?_ | refine zp rfl (fun hc => ?_) (fun hc => ?_) | (refine hK _ ?_; clear hK K) | with_reducible refine And.intro ?_ ?_ | omega | assumption | clear hK K)
 ·have h0 : 0 < d.fuse := by simpa using hc
  rw [burnt, if_pos h0, zD (by omega) (by omega)]
 ·have h0 : ¬ 0 < d.fuse := by simpa using hc
  rw [burnt, if_neg h0]
noncomputable def zds : Ent Tryz.prog := .ofL 104 (consL zM nilL) (fun (d, _) => DiskOk d) (fun (d, _) => diskA (burnt d)) (fun (d, _) hp => ⟨rfl, zmC d hp⟩)
attribute [go_sem] zds
theorem zrZ {l : List PutR} {i : Nat} {q : PutR} {at_ : Int} (hq : l[i]? = some q) : (l.take (i + 1)).reverse.find? (isPut at_) = if q.1 = at_ then some q else (l.take i).reverse.find? (isPut at_) := by
 rw [zcn hq, List.reverse_append, List.reverse_singleton, List.singleton_append, List.find?_cons]
 by_cases h : q.1 = at_
 ·simp [isPut, h]
 ·have : isPut at_ q = false := by simp [isPut, h]
  rw [this, if_neg h]
theorem zo0 (d : Disk) (at_ : Int) (hd : DiskOk d) (ht : there d at_ = true) : ACall Tryz.prog 145 0 [diskA d, .d (.int .i64 at_)] [] (fun r _ => r = .d (.str (sees d at_))) := by
 refine zk Tryz.func145 rfl (zu Tryz.func145 (by kernel_rfl) rfl) Tryz.ntmps145 (by simp) (fun base => ?_)
 repeat' (first | ((first | refine za noTab (zb _) (fun K hK => ?_) | refine zc noTab (zb _) ?_ | refine zh ?_ | refine zi ?_ | refine zn ?_); simp only [go_sem, aeq, aeq.aeqF, simprocAttr, Tryz.results145]) | refine zq (fun K hK => ?_) | refine zo ?_ | refine zf rfl ?_ | refine zg rfl ?_ | refine zp rfl (fun hc => ?_) (fun hc => ?_) | (refine hK _ ?_; clear hK K) | with_reducible refine And.intro ?_ ?_ | omega | assumption | clear hK K)
 have hcl := hd.cache
 have hdl := hd.data
 have hw0 : IntKind.i64.wrap ((d.cache.length : Int) - 1) = (d.cache.length : Int) - 1 := zD (by omega) (by omega)
 refine zL (fun q : { i : Nat // i ≤ d.cache.length ∧ d.cache.reverse.find? (isPut at_) = (d.cache.take i).reverse.find? (isPut at_) } => ⟨[(1, true, .d (.int .i64 at_)), (2, true, .vp 0 0), (5, true, .d (.int .i64 ((q.1 : Int) - 1)))], [(0, .var [.d (.str d.data), .d (.sl 2 (d.cache.map putD)), .d (.int .i64 d.fuse), .d (.bool d.off), .d (.sl 1 (d.bad.map intD))])], some []⟩) (fun q => q.1) ⟨d.cache.length, Nat.le_refl _, by rw [zd0]⟩ (by simp only [AS.le, leT, leH, zr, AsgK, AV.le, AV.leL, AObj.le, inH, idsT, idsH, AV.ids, AV.idsL, AV.idsR, AObj.ids, lk, hget, go_sem, aeq, aeq.aeqF, simprocAttr, hw0]) (fun q => ?_)
 obtain ⟨i, hi, hf⟩ := q
 simp only at hi hf ⊢
 cases i with
 | zero =>
  have hz : decide ((0 : Int) ≤ ((0 : Nat) : Int) - 1) = false := by decide
  obtain ⟨ht0, ht1⟩ := there_iff.mp ht
  have hm : IntKind.i64.wrap (at_ * 64) = at_ * 64 := zD (by omega) (by omega)
  have hm1 : IntKind.i64.wrap (at_ + 1) = at_ + 1 := zD (by omega) (by omega)
  have hm2 : IntKind.i64.wrap ((at_ + 1) * 64) = (at_ + 1) * 64 := zD (by omega) (by omega)
  have hs : (d.data.take ((at_ + 1) * 64).toNat).drop (at_ * 64).toNat = sees d at_ := by
   rw [sees, hf, List.take_zero, List.reverse_nil, List.find?_nil, List.drop_take]
   congr 1; omega
  repeat' (first | ((first | refine za noTab (zb _) (fun K hK => ?_) | refine zc noTab (zb _) ?_ | refine zh ?_ | refine zi ?_ | refine zn ?_); simp only [go_sem, aeq, aeq.aeqF, simprocAttr, hz, hm, hm1, hm2, hs, Tryz.results145]) | refine zq (fun K hK => ?_) | refine zo ?_ | refine zf rfl ?_ | refine zg rfl ?_ | refine zp rfl (fun hc => ?_) (fun hc => ?_) | (refine hK _ ?_; clear hK K) | with_reducible refine And.intro ?_ ?_ | omega | assumption | clear hK K)
 | succ i =>
  have hz : decide ((0 : Int) ≤ ((i + 1 : Nat) : Int) - 1) = true := decide_eq_true (by omega)
  have hi1 : (((i + 1 : Nat) : Int) - 1) = (i : Int) := by omega
  have hwi : IntKind.i64.wrap ((i : Int) - 1) = (i : Int) - 1 := zD (by omega) (by omega)
  obtain ⟨⟨n, s⟩, hq⟩ := zae (l := d.cache) (i := i) (by omega)
  have hrow := zbi (g := putD) hq
  simp only [putD] at hrow
  rw [zrZ hq] at hf
  repeat' (first | ((first | refine za noTab (zb _) (fun K hK => ?_) | refine zc noTab (zb _) ?_ | refine zh ?_ | refine zi ?_ | refine zn ?_); simp only [go_sem, aeq, aeq.aeqF, simprocAttr, hz, hi1, hrow, Int.toNat_natCast, Tryz.results145]) | refine zq (fun K hK => ?_) | refine zo ?_ | refine zf rfl ?_ | refine zg rfl ?_ | refine zp rfl (fun hc => ?_) (fun hc => ?_) | (refine hK _ ?_; clear hK K) | with_reducible refine And.intro ?_ ?_ | omega | assumption | clear hK K)
  ·have hn : n = at_ := by simpa using hc
   rw [sees, hf, if_pos hn]
  ·have hn : ¬ n = at_ := by simpa using hc
   rw [if_neg hn] at hf
   exact ⟨⟨i, by omega, hf⟩, by simp only [AS.le, leT, leH, zr, AsgK, AV.le, AV.leL, AObj.le, inH, idsT, idsH, AV.ids, AV.idsL, AV.idsR, AObj.ids, lk, hget, go_sem, aeq, aeq.aeqF, simprocAttr, hwi], by simp⟩
noncomputable def zen : Ent Tryz.prog := .ofL 145 (consL zM (consL (intT .i64) nilL)) (fun (d, at_, _) => (DiskOk d) ∧ (there d at_ = true)) (fun (d, at_, _) => .d (.str (sees d at_))) (fun (d, at_, _) hp => ⟨rfl, zo0 d at_ hp.1 hp.2⟩)
attribute [go_sem] zen
open Go Go.Proofs
noncomputable def tab1b : Tab := tabOf [zbC, zfw, zds, zen]
theorem zd2 : TabOk Tryz.prog tab1b := zz _
@[go_sem] theorem znQ (args : List AV) : tab1b 102 args = (zbC).e args := rfl
@[go_sem] theorem zq5 (args : List AV) : tab1b 103 args = (zfw).e args := rfl
@[go_sem] theorem znR (args : List AV) : tab1b 104 args = (zds).e args := rfl
@[go_sem] theorem zo1 (args : List AV) : tab1b 145 args = (zen).e args := rfl
theorem zo2 (d : Disk) (at_ : Int) (hd : DiskOk d) : ACall Tryz.prog 93 0 [diskA d, .d (.int .i64 at_)] [] (fun r _ => r = .tup [.d (.str (dread d at_).1), .d (.int .i64 (dread d at_).2)]) := by
 refine zk Tryz.func93 rfl (zu Tryz.func93 (by kernel_rfl) rfl) Tryz.ntmps93 (by simp) (fun base => ?_)
 repeat' (first | ((first | refine za tab1b (zd2) (fun K hK => ?_) | refine zc tab1b (zd2) ?_ | refine zh ?_ | refine zi ?_ | refine zn ?_); simp only [go_sem, aeq, aeq.aeqF, simprocAttr, Tryz.results93]) | refine zq (fun K hK => ?_) | refine zf rfl ?_ | refine zg rfl ?_ | refine zp rfl (fun hc => ?_) (fun hc => ?_) | (refine hK _ ?_; clear hK K) | with_reducible refine And.intro ?_ ?_ | omega | assumption | clear hK K)
 all_goals simp_all [dread]
noncomputable def zeo : Ent Tryz.prog := .ofL 93 (consL zM (consL (intT .i64) nilL)) (fun (d, at_, _) => DiskOk d) (fun (d, at_, _) => .tup [.d (.str (dread d at_).1), .d (.int .i64 (dread d at_).2)]) (fun (d, at_, _) hp => ⟨rfl, zo2 d at_ hp⟩)
attribute [go_sem] zeo
theorem zbk (l : List UInt8) : (zy l).all zi9 = true := by
 simp [zy, zdl, zi9, List.all_map]
theorem zat (l : List UInt8) : bytesOf (zy l) = l := by
 unfold bytesOf zy
 rw [List.map_map]
 have : ((fun r => UInt8.ofNat (numOf r).toNat) ∘ zdl) = id := by
  funext b; simp [zdl, numOf]
 rw [this, List.map_id]
theorem zd3 (m : Nat) : List.replicate m [D.int .u8 0] = zy (List.replicate m 0) := by
 rw [zy, List.map_replicate]; rfl
theorem zjs (m : Nat) : List.take m (zy (List.replicate m 0)) = zy (List.replicate m 0) := by
 exact List.take_of_length_le (by simp [zy])
theorem zly (m : Nat) : (m = (zy (List.replicate m 0)).length) = True := by
 simp [zy]
theorem zr0 (n : Int) : ACall Tryz.prog 76 0 [.d (.int .i64 n)] [] (fun r _ => r = .tup [diskA (dnew n).1, .d (.int .i64 (dnew n).2)]) := by
 refine zA ?_
 refine zk Tryz.func76 rfl (zu Tryz.func76 (by kernel_rfl) rfl) Tryz.ntmps76 (by simp) (fun base => ?_)
 by_cases h : n < 1 ∨ 1024 < n
 ·have hdec : (decide (n < 1) || decide (1024 < n)) = true := by simpa using h
  repeat' (first | ((first | refine za noTab (zb _) (fun K hK => ?_) | refine zc noTab (zb _) ?_ | refine zh ?_ | refine zi ?_ | refine zn ?_); simp only [go_sem, aeq, aeq.aeqF, simprocAttr, hdec, Tryz.results76]) | refine zq (fun K hK => ?_) | refine zf rfl ?_ | refine zg rfl ?_ | refine zp rfl (fun hc => ?_) (fun hc => ?_) | (refine hK _ ?_; clear hK K) | with_reducible refine And.intro ?_ ?_ | omega | assumption | refine fun (hg : (_ : Bool) = (_ : Bool)) => ?_ | clear hK K)
  rw [dnew, if_pos h]; rfl
 ·have hdec : (decide (n < 1) || decide (1024 < n)) = false := by simpa using h
  have hm : IntKind.i64.wrap (n * 64) = n * 64 := zD (by omega) (by omega)
  repeat' (first | ((first | refine za noTab (zb _) (fun K hK => ?_) | refine zc noTab (zb _) ?_ | refine zh ?_ | refine zi ?_ | refine zn ?_); simp only [go_sem, aeq, aeq.aeqF, simprocAttr, hdec, hm, zd3, zjs, zly, if_true, Tryz.results76]) | refine zq (fun K hK => ?_) | refine zf rfl ?_ | refine zg rfl ?_ | refine zp rfl (fun hc => ?_) (fun hc => ?_) | (refine hK _ ?_; clear hK K) | with_reducible refine And.intro ?_ ?_ | omega | assumption | refine fun (hg : (_ : Bool) = (_ : Bool)) => ?_ | clear hK K)
  ·exact zbk _
  ·rw [dnew, if_neg h, zat]; rfl
noncomputable def zfx : Ent Tryz.prog := .ofL 76 (consL (intT .i64) nilL) (fun (n, _) => True) (fun (n, _) => .tup [diskA (dnew n).1, .d (.int .i64 (dnew n).2)]) (fun (n, _) hp => ⟨rfl, zr0 n⟩)
attribute [go_sem] zfx
theorem zmD (d : Disk) (at_ : Int) (s : Txt) (hd : DiskOk d) : ACall Tryz.prog 46 0 [diskA d, .d (.int .i64 at_), .d (.str s)] [] (fun r _ => r = .tup [diskA (zQ d at_ s).1, .d (.int .i64 (zQ d at_ s).2)]) := by
 refine zA ?_
 refine zk Tryz.func46 rfl (zu Tryz.func46 (by kernel_rfl) rfl) Tryz.ntmps46 (by simp) (fun base => ?_)
 repeat' ((fail_if_success refine hds 17 (by rfl) ?_); first | ((first | refine za tab1b (zd2) (fun K hK => ?_) | refine zc tab1b (zd2) ?_ | refine zh ?_ | refine zi ?_ | refine zn ?_); simp only [go_sem, aeq, aeq.aeqF, simprocAttr, Tryz.results46]) | refine zq (fun K hK => ?_) | refine zf rfl ?_ | refine zg rfl ?_ | refine zp rfl (fun hc => ?_) (fun hc => ?_) | (refine hK _ ?_; clear hK K) | refine fun (nb : Bool) (hnb : nb = true → _) => ?_ | with_reducible refine And.intro ?_ ?_ | omega | assumption | clear hK K)
 all_goals first | (simp_all [zQ]; done) | (simp_all; omega) | skip
 have hk : DiskOk { d with cache := d.cache ++ [(at_, s)] } := ⟨hd.data, by simp_all; omega, hd.bad, hd.fuse0, hd.fuse1⟩
 have hr : d.cache.map putD ++ [[.int .i64 at_, .str s]] = (d.cache ++ [(at_, s)]).map putD := by simp [putD]
 have hl : (d.cache.length + 1 = (d.cache ++ [(at_, s)]).length) = True := by simp
 have htk : List.take (d.cache.length + 1) ((d.cache ++ [(at_, s)]).map putD) = (d.cache ++ [(at_, s)]).map putD := List.take_of_length_le (by simp)
 refine zoM 2 rfl ?_; simp only [go_sem, aeq, aeq.aeqF, simprocAttr,  hr, hl, htk]
 repeat' (first | ((first | refine za tab1b (zd2) (fun K hK => ?_) | refine zc tab1b (zd2) ?_ | refine zh ?_ | refine zi ?_ | refine zn ?_); simp only [go_sem, aeq, aeq.aeqF, simprocAttr, Tryz.results46]) | refine zq (fun K hK => ?_) | refine zf rfl ?_ | refine zg rfl ?_ | refine zp rfl (fun hc => ?_) (fun hc => ?_) | (refine hK _ ?_; clear hK K) | refine fun (nb : Bool) (hnb : nb = true → _) => ?_ | with_reducible refine And.intro ?_ ?_ | omega | assumption | clear hK K)
 clear hr hl htk hk
 by_cases h6 : 4096 ≤ (d.cache.length : Int)
 ·exfalso; simp_all
 ·simp only [zQ, if_neg h6]; simp_all
noncomputable def zdt : Ent Tryz.prog := .ofL 46 (consL zM (consL (intT .i64) (consL strT nilL))) (fun (d, at_, s, _) => DiskOk d) (fun (d, at_, s, _) => .tup [diskA (zQ d at_ s).1, .d (.int .i64 (zQ d at_ s).2)]) (fun (d, at_, s, _) hp => ⟨rfl, zmD d at_ s hp⟩)
attribute [go_sem] zdt
theorem zr1 (b : Txt) (k : Nat) (s : Txt) : rput (zy b) k (zy s) = zy (lay b k s) := by
 simp [rput, lay, zy, List.map_append, List.map_take, List.map_drop]
theorem zo3 {b : Txt} {k : Nat} {s : Txt} (h : k + s.length ≤ b.length) : (lay b k s).length = b.length := by
 simp [lay]; omega
theorem zo4 {b : Txt} {l : List PutR} {i : Nat} {q : PutR} (hq : l[i]? = some q) : zee b (l.take (i + 1)) = lay (zee b (l.take i)) (q.1 * 64).toNat q.2 := by
 simp [zee, zcn hq, List.foldl_append]
theorem zvy {d : Disk} {i : Nat} {q : PutR} (hf : d.cache.all (putOk d) = true) (hq : d.cache[i]? = some q) : 0 ≤ q.1 ∧ q.1 < ((d.data.length / 64 : Nat) : Int) ∧ q.2.length = 64 := by
 have := List.all_eq_true.1 hf q (List.mem_of_getElem? hq)
 rw [putOk, Bool.and_eq_true] at this
 obtain ⟨h1, h2⟩ := this
 exact ⟨(there_iff.1 h1).1, (there_iff.1 h1).2, by have := eq_of_beq h2; omega⟩
theorem zg1 {d : Disk} : ∀ (l : List PutR) (b : Txt), b.length = d.data.length → l.all (putOk d) = true → (zee b l).length = b.length
 | [], _, _, _ => rfl
 | q :: l, b, hb, h => by
  rw [List.all_cons, Bool.and_eq_true] at h
  obtain ⟨h1, h2⟩ := h
  rw [putOk, Bool.and_eq_true] at h1
  have h3 := there_iff.1 h1.1
  have h4 : q.2.length = 64 := by have := eq_of_beq h1.2; omega
  have h5 : (lay b (q.1 * 64).toNat q.2).length = b.length := zo3 (by omega)
  rw [zee, List.foldl_cons]
  exact (zg1 l _ (h5.trans hb) h2).trans h5
theorem zmE {d : Disk} (h : d.cache.all (putOk d) = true) : (zee d.data d.cache).length = d.data.length := zg1 (d := d) _ _ rfl h
open Go Go.Proofs
theorem eq_ne {α : Type} {a b : List α} {i : Nat} {q q' : α} (hq : a[i]? = some q) (hq' : b[i]? = some q') (h : q ≠ q') : a ≠ b := by
 rintro rfl
 rw [hq] at hq'
 exact h (Option.some.inj hq')
theorem ziF {α : Type} {a b : List α} {i : Nat} {q q' : α} (hq : a[i]? = some q) (hq' : b[i]? = some q') (h : q = q') (hf : a.take i = b.take i) : a.take (i + 1) = b.take (i + 1) := by
 rw [zcn hq, zcn hq', hf, h]
theorem zlz {α : Type} {a b : List α} {i : Nat} (hi : i = a.length) (hl : a.length = b.length) (hf : a.take i = b.take i) : a = b := by
 subst hi
 rwa [zd0, hl, zd0] at hf
abbrev Eqst {α : Type} (a b : List α) := { i : Nat // i ≤ a.length ∧ a.take i = b.take i }
theorem zo5 (a : Disk) (b : Disk) (ha : DiskOk a) (hb : DiskOk b) : ACall Tryz.prog 51 0 [diskA a, diskA b] [] (fun r _ => r = .d (.bool (decide (a = b)))) := by
 refine zk Tryz.func51 rfl (zu Tryz.func51 (by kernel_rfl) rfl) Tryz.ntmps51 (by simp) (fun base => ?_)
 repeat' (first | ((first | refine za noTab (zb _) (fun K hK => ?_) | refine zc noTab (zb _) ?_ | refine ze noTab (zb _) mx (fun K hK => ?_) | refine zj noTab (zb _) mx ?_ | refine zh ?_ | refine zi ?_ | refine zn ?_); simp only [go_sem, aeq, aeq.aeqF, simprocAttr, Tryz.results51]) | refine zq (fun K hK => ?_) | refine zo ?_ | refine zf rfl ?_ | refine zg rfl ?_ | refine zp rfl (fun hc => ?_) (fun hc => ?_) | (refine hK _ ?_; clear hK K) | with_reducible refine And.intro ?_ ?_ | (refine (show zt _ _ = true from ?_); kernel_rfl) | omega | assumption | refine fun (hg : (_ : Bool) = (_ : Bool)) => ?_ | clear hK K)
 ·have : a ≠ b := by rintro rfl; simp at hc
  rw [decide_eq_false this]
 have hac := ha.cache
 have hab := ha.bad
 obtain ⟨h1, h2, h3, h4, h5⟩ : a.data = b.data ∧ a.cache.length = b.cache.length ∧ a.fuse = b.fuse ∧ a.off = b.off ∧ a.bad.length = b.bad.length := by
  simp only [Bool.or_eq_false_iff, bne_eq_false_iff_eq, Int.natCast_inj] at hc
  exact ⟨hc.1.1.1.1, hc.1.1.1.2, hc.1.1.2, hc.1.2, hc.2⟩
 refine zL (fun q : Eqst a.cache b.cache => ⟨[(2, true, .vp 0 0), (3, true, .vp 1 0), (5, true, .d (.int .i64 q.1))], [(1, (.var [.d (.str b.data), .d (.sl 2 (b.cache.map putD)), .d (.int .i64 b.fuse), .d (.bool b.off), .d (.sl 1 (b.bad.map intD))])), (0, (.var [.d (.str a.data), .d (.sl 2 (a.cache.map putD)), .d (.int .i64 a.fuse), .d (.bool a.off), .d (.sl 1 (a.bad.map intD))]))], some []⟩) (fun q => a.cache.length - q.1) ⟨0, Nat.zero_le _, rfl⟩ (by simp only [AS.le, leT, leH, zr, AsgK, AV.le, AV.leL, AObj.le, inH, idsT, idsH, AV.ids, AV.idsL, AV.idsR, AObj.ids, lk, hget, go_sem, aeq, aeq.aeqF, simprocAttr] <;> and_intros <;> rfl) (fun q => ?_)
 obtain ⟨i, hi, hf⟩ := q
 simp only at hi hf ⊢
 rcases zad putD a.cache i hi with ⟨⟨m, s⟩, hq, hlt, hcmp, hrow, hdr, htk⟩ | ⟨hend, hcmp⟩
 ·obtain ⟨⟨m', s'⟩, hq'⟩ := zae (l := b.cache) (i := i) (by omega)
  have hrow' := zbi (g := putD) hq'
  simp only [putD] at hrow hrow'
  have hwi := zP (i := i) (by omega)
  repeat' (first | ((first | refine za noTab (zb _) (fun K hK => ?_) | refine zc noTab (zb _) ?_ | refine ze noTab (zb _) mx (fun K hK => ?_) | refine zj noTab (zb _) mx ?_ | refine zh ?_ | refine zi ?_ | refine zn ?_); simp only [go_sem, aeq, aeq.aeqF, simprocAttr, hcmp, hrow, hrow', Tryz.results51]) | refine zq (fun K hK => ?_) | refine zo ?_ | refine zf rfl ?_ | refine zg rfl ?_ | refine zp rfl (fun hc => ?_) (fun hc => ?_) | (refine hK _ ?_; clear hK K) | with_reducible refine And.intro ?_ ?_ | (refine (show zt _ _ = true from ?_); kernel_rfl) | omega | assumption | refine fun (hg : (_ : Bool) = (_ : Bool)) => ?_ | clear hK K)
  ·have : a ≠ b := by
    rintro rfl
    refine eq_ne hq hq' ?_ rfl
    intro h
    cases h
    simp at hc
   rw [decide_eq_false this]
  ·have hc : m = m' ∧ s = s' := by simpa using hc
   exact ⟨⟨i + 1, by omega, ziF hq hq' (by rw [hc.1, hc.2]) hf⟩, by simp only [AS.le, leT, leH, zr, AsgK, AV.le, AV.leL, AObj.le, inH, idsT, idsH, AV.ids, AV.idsL, AV.idsR, AObj.ids, lk, hget, go_sem, aeq, aeq.aeqF, simprocAttr, hwi], by simp; omega⟩
 ·have hce := zlz hend h2 hf
  repeat' (first | ((first | refine za noTab (zb _) (fun K hK => ?_) | refine zc noTab (zb _) ?_ | refine ze noTab (zb _) mx (fun K hK => ?_) | refine zj noTab (zb _) mx ?_ | refine zh ?_ | refine zi ?_ | refine zn ?_); simp only [go_sem, aeq, aeq.aeqF, simprocAttr, hcmp, Tryz.results51]) | refine zq (fun K hK => ?_) | refine zo ?_ | refine zf rfl ?_ | refine zg rfl ?_ | refine zp rfl (fun hc => ?_) (fun hc => ?_) | (refine hK _ ?_; clear hK K) | with_reducible refine And.intro ?_ ?_ | (refine (show zt _ _ = true from ?_); kernel_rfl) | omega | assumption | refine fun (hg : (_ : Bool) = (_ : Bool)) => ?_ | clear hK K)
  refine zL (fun q : Eqst a.bad b.bad => ⟨[(2, true, .vp 0 0), (3, true, .vp 1 0), (6, true, .d (.int .i64 q.1))], [(1, (.var [.d (.str b.data), .d (.sl 2 (b.cache.map putD)), .d (.int .i64 b.fuse), .d (.bool b.off), .d (.sl 1 (b.bad.map intD))])), (0, (.var [.d (.str a.data), .d (.sl 2 (a.cache.map putD)), .d (.int .i64 a.fuse), .d (.bool a.off), .d (.sl 1 (a.bad.map intD))]))], some []⟩) (fun q => a.bad.length - q.1) ⟨0, Nat.zero_le _, rfl⟩ (by simp only [AS.le, leT, leH, zr, AsgK, AV.le, AV.leL, AObj.le, inH, idsT, idsH, AV.ids, AV.idsL, AV.idsR, AObj.ids, lk, hget, go_sem, aeq, aeq.aeqF, simprocAttr] <;> and_intros <;> rfl) (fun q => ?_)
  obtain ⟨j, hj, hg⟩ := q
  simp only at hj hg ⊢
  rcases zad intD a.bad j hj with ⟨m, hq, hlt, hcmp, hrow, hdr, htk⟩ | ⟨hend, hcmp⟩
  ·obtain ⟨m', hq'⟩ := zae (l := b.bad) (i := j) (by omega)
   have hrow' := zbi (g := intD) hq'
   simp only [intD] at hrow hrow'
   have hwi := zP (i := j) (by omega)
   repeat' (first | ((first | refine za noTab (zb _) (fun K hK => ?_) | refine zc noTab (zb _) ?_ | refine ze noTab (zb _) mx (fun K hK => ?_) | refine zj noTab (zb _) mx ?_ | refine zh ?_ | refine zi ?_ | refine zn ?_); simp only [go_sem, aeq, aeq.aeqF, simprocAttr, hcmp, hrow, hrow', Tryz.results51]) | refine zq (fun K hK => ?_) | refine zo ?_ | refine zf rfl ?_ | refine zg rfl ?_ | refine zp rfl (fun hc => ?_) (fun hc => ?_) | (refine hK _ ?_; clear hK K) | with_reducible refine And.intro ?_ ?_ | (refine (show zt _ _ = true from ?_); kernel_rfl) | omega | assumption | refine fun (hg : (_ : Bool) = (_ : Bool)) => ?_ | clear hK K)
   ·have : a ≠ b := by
     rintro rfl
     refine eq_ne hq hq' ?_ rfl
     intro h
     cases h
     simp at hc
    rw [decide_eq_false this]
   ·have hmm : m = m' := by simpa using hc
    exact ⟨⟨j + 1, by omega, ziF hq hq' hmm hg⟩, by simp only [AS.le, leT, leH, zr, AsgK, AV.le, AV.leL, AObj.le, inH, idsT, idsH, AV.ids, AV.idsL, AV.idsR, AObj.ids, lk, hget, go_sem, aeq, aeq.aeqF, simprocAttr, hwi], by simp; omega⟩
  ·have hbe := zlz hend h5 hg
   repeat' (first | ((first | refine za noTab (zb _) (fun K hK => ?_) | refine zc noTab (zb _) ?_ | refine ze noTab (zb _) mx (fun K hK => ?_) | refine zj noTab (zb _) mx ?_ | refine zh ?_ | refine zi ?_ | refine zn ?_); simp only [go_sem, aeq, aeq.aeqF, simprocAttr, hcmp, Tryz.results51]) | refine zq (fun K hK => ?_) | refine zo ?_ | refine zf rfl ?_ | refine zg rfl ?_ | refine zp rfl (fun hc => ?_) (fun hc => ?_) | (refine hK _ ?_; clear hK K) | with_reducible refine And.intro ?_ ?_ | (refine (show zt _ _ = true from ?_); kernel_rfl) | omega | assumption | refine fun (hg : (_ : Bool) = (_ : Bool)) => ?_ | clear hK K)
   have : a = b := by
    rw [← zeW a, ← zeW b, h1, hce, h3, h4, hbe]
   rw [decide_eq_true this]
noncomputable def zep : Ent Tryz.prog := .ofL 51 (consL zM (consL zM nilL)) (fun (a, b, _) => (DiskOk a) ∧ (DiskOk b)) (fun (a, b, _) => .d (.bool (decide (a = b)))) (fun (a, b, _) hp => ⟨rfl, zo5 a b hp.1 hp.2⟩)
attribute [go_sem] zep
theorem zo6 {n : Nat} : ((n : Int).tmod 64 != 0) = !(n % 64 == 0) := by
 rw [Int.tmod_eq_emod_of_nonneg (by omega)]
 by_cases h : n % 64 = 0
 ·have : (n : Int) % 64 = 0 := by omega
  simp [h, this]
 ·have : ¬ (n : Int) % 64 = 0 := by omega
  rw [bne, beq_eq_false_iff_ne.mpr this, beq_eq_false_iff_ne.mpr h]
theorem zo7 {x : Bool} {n m : Int} : (!x || (n != m)) = !(x && (n == m)) := by
 rw [Bool.not_and]; rfl
theorem or_le {x : Bool} {n m : Int} : (!x || decide (n ≤ m)) = !(x && decide (m < n)) := by
 rw [Bool.not_and]
 congr 1
 by_cases h : m < n
 ·rw [decide_eq_true h, decide_eq_false (by omega)]; rfl
 ·rw [decide_eq_false h, decide_eq_true (by omega)]; rfl
noncomputable def tab1e : Tab := tabOf [za8, zbC]
theorem zax : TabOk Tryz.prog tab1e := zz _
@[go_sem] theorem zo8 (args : List AV) : tab1e 64 args = (za8).e args := rfl
@[go_sem] theorem znS (args : List AV) : tab1e 102 args = (zbC).e args := rfl
theorem zr2 (d : Disk) (hd : DiskOk d) : ACall Tryz.prog 63 0 [diskA d] [] (fun r _ => r = .d (.bool (dfit d))) := by
 refine zk Tryz.func63 rfl (zu Tryz.func63 (by kernel_rfl) rfl) Tryz.ntmps63 (by simp) (fun base => ?_)
 repeat' (first | ((first | refine za tab1e (zax) (fun K hK => ?_) | refine zc tab1e (zax) ?_ | refine ze tab1e (zax) mx (fun K hK => ?_) | refine zj tab1e (zax) mx ?_ | refine zh ?_ | refine zi ?_ | refine zn ?_); simp only [go_sem, aeq, aeq.aeqF, simprocAttr, Tryz.results63]) | refine zq (fun K hK => ?_) | refine zo ?_ | refine zf rfl ?_ | refine zg rfl ?_ | refine zp rfl (fun hc => ?_) (fun hc => ?_) | (refine hK _ ?_; clear hK K) | with_reducible refine And.intro ?_ ?_ | (refine (show zt _ _ = true from ?_); kernel_rfl) | omega | assumption | refine fun (hg : (_ : Bool) = (_ : Bool)) => ?_ | clear hK K)
 ·rw [zo6] at hc
  rw [dfit]
  simp only [Bool.or_eq_true, decide_eq_true_eq, Bool.not_eq_true'] at hc
  congr 2
  rcases hc with ((hc | hc) | hc) | hc
  ·rw [decide_eq_false (p := 1 ≤ dsize d) (by omega)]; simp
  ·rw [decide_eq_false (p := dsize d ≤ 1024) (by omega)]; simp
  ·rw [hc]; simp
  ·rw [decide_eq_false (p := d.cache.length ≤ 4096) (by omega)]; simp
 have hcl := hd.cache
 have hbl := hd.bad
 rw [zo6] at hc
 simp only [Bool.or_eq_false_iff, decide_eq_false_iff_not, Bool.not_eq_false'] at hc
 have hfit : dfit d = (d.cache.all (putOk d) && zaW d d.bad none) := by
  rw [dfit, hc.1.2, decide_eq_true (p := 1 ≤ dsize d) (by omega), decide_eq_true (p := dsize d ≤ 1024) (by omega), decide_eq_true (p := d.cache.length ≤ 4096) (by omega)]
  simp
 refine zL (fun q : { i : Nat // i ≤ d.cache.length ∧ d.cache.all (putOk d) = (d.cache.drop i).all (putOk d) } => ⟨[(1, true, .vp 0 0), (4, true, .d (.int .i64 q.1))], [(0, (.var [.d (.str d.data), .d (.sl 2 (d.cache.map putD)), .d (.int .i64 d.fuse), .d (.bool d.off), .d (.sl 1 (d.bad.map intD))]))], some []⟩) (fun q => d.cache.length - q.1) ⟨0, Nat.zero_le _, rfl⟩ (by simp only [AS.le, leT, leH, zr, AsgK, AV.le, AV.leL, AObj.le, inH, idsT, idsH, AV.ids, AV.idsL, AV.idsR, AObj.ids, lk, hget, go_sem, aeq, aeq.aeqF, simprocAttr] <;> and_intros <;> rfl) (fun q => ?_)
 obtain ⟨i, hi, hf⟩ := q
 simp only at hi hf ⊢
 rcases zad putD d.cache i hi with ⟨⟨m, s⟩, hq, hlt, hcmp, hrow, hdr, htk⟩ | ⟨hend, hcmp⟩
 ·simp only [putD] at hrow
  have hwi := zP (i := i) (by omega)
  rw [hdr, List.all_cons, putOk] at hf
  repeat' (first | ((first | refine za tab1e (zax) (fun K hK => ?_) | refine zc tab1e (zax) ?_ | refine ze tab1e (zax) mx (fun K hK => ?_) | refine zj tab1e (zax) mx ?_ | refine zh ?_ | refine zi ?_ | refine zn ?_); simp only [go_sem, aeq, aeq.aeqF, simprocAttr, hcmp, hrow, Tryz.results63]) | refine zq (fun K hK => ?_) | refine zo ?_ | refine zf rfl ?_ | refine zg rfl ?_ | refine zp rfl (fun hc => ?_) (fun hc => ?_) | (refine hK _ ?_; clear hK K) | with_reducible refine And.intro ?_ ?_ | (refine (show zt _ _ = true from ?_); kernel_rfl) | omega | assumption | refine fun (hg : (_ : Bool) = (_ : Bool)) => ?_ | clear hK K)
  ·have hc : (there d m && ((s.length : Int) == 64)) = false := by rw [zo7] at hc; simp only [Bool.not_eq_true', Bool.not_eq_false'] at hc; exact hc
   rw [hfit, hf]
   simp only [hc, Bool.false_and]
  ·have hc : (there d m && ((s.length : Int) == 64)) = true := by rw [zo7] at hc; simp only [Bool.not_eq_true', Bool.not_eq_false'] at hc; exact hc
   exact ⟨⟨i + 1, by omega, by rw [hf]; simp only [hc, Bool.true_and]⟩, by simp only [AS.le, leT, leH, zr, AsgK, AV.le, AV.leL, AObj.le, inH, idsT, idsH, AV.ids, AV.idsL, AV.idsR, AObj.ids, lk, hget, go_sem, aeq, aeq.aeqF, simprocAttr, hwi], by simp; omega⟩
 ·rw [hend, List.drop_length] at hf
  repeat' (first | ((first | refine za noTab (zb _) (fun K hK => ?_) | refine zc noTab (zb _) ?_ | refine ze noTab (zb _) mx (fun K hK => ?_) | refine zj noTab (zb _) mx ?_ | refine zh ?_ | refine zi ?_ | refine zn ?_); simp only [go_sem, aeq, aeq.aeqF, simprocAttr, hcmp, Tryz.results63]) | refine zq (fun K hK => ?_) | refine zo ?_ | refine zf rfl ?_ | refine zg rfl ?_ | refine zp rfl (fun hc => ?_) (fun hc => ?_) | (refine hK _ ?_; clear hK K) | with_reducible refine And.intro ?_ ?_ | (refine (show zt _ _ = true from ?_); kernel_rfl) | omega | assumption | refine fun (hg : (_ : Bool) = (_ : Bool)) => ?_ | clear hK K)
  refine zL (fun q : { i : Nat // i ≤ d.bad.length ∧ zaW d d.bad none = zaW d (d.bad.drop i) (if i = 0 then none else d.bad[i - 1]?) } => ⟨[(1, true, .vp 0 0), (5, true, .d (.int .i64 q.1))], [(0, (.var [.d (.str d.data), .d (.sl 2 (d.cache.map putD)), .d (.int .i64 d.fuse), .d (.bool d.off), .d (.sl 1 (d.bad.map intD))]))], some []⟩) (fun q => d.bad.length - q.1) ⟨0, Nat.zero_le _, rfl⟩ (by simp only [AS.le, leT, leH, zr, AsgK, AV.le, AV.leL, AObj.le, inH, idsT, idsH, AV.ids, AV.idsL, AV.idsR, AObj.ids, lk, hget, go_sem, aeq, aeq.aeqF, simprocAttr] <;> and_intros <;> rfl) (fun q => ?_)
  obtain ⟨j, hj, hg⟩ := q
  simp only at hj hg ⊢
  rcases zad intD d.bad j hj with ⟨m, hq, hlt, hcmp, hrow, hdr, htk⟩ | ⟨hend, hcmp⟩
  ·simp only [intD] at hrow
   have hwi := zP (i := j) (by omega)
   rw [hdr] at hg
   cases j with
   | zero =>
    have hz : decide ((0 : Int) < ((0 : Nat) : Int)) = false := by decide
    simp only [if_pos, zaW, Bool.and_true] at hg
    have hcmp0 : decide ((0 : Int) < (d.bad.length : Int)) = true := hcmp
    repeat' (first | ((first | refine za tab1e (zax) (fun K hK => ?_) | refine zc tab1e (zax) ?_ | refine ze tab1e (zax) mx (fun K hK => ?_) | refine zj tab1e (zax) mx ?_ | refine zh ?_ | refine zi ?_ | refine zn ?_); simp only [go_sem, aeq, aeq.aeqF, simprocAttr, hcmp0, hrow, hz, Tryz.results63]) | refine zq (fun K hK => ?_) | refine zo ?_ | refine zf rfl ?_ | refine zg rfl ?_ | refine zp rfl (fun hc => ?_) (fun hc => ?_) | (refine hK _ ?_; clear hK K) | with_reducible refine And.intro ?_ ?_ | (refine (show zt _ _ = true from ?_); kernel_rfl) | omega | assumption | refine fun (hg : (_ : Bool) = (_ : Bool)) => ?_ | clear hK K)
    ·have hc : there d m = false := by simpa using hc
     rw [hfit, hg, hc, Bool.false_and, Bool.and_false]
    ·have hc : there d m = true := by simpa using hc
     rw [hc, Bool.true_and] at hg
     exact ⟨⟨0 + 1, by omega, by rw [if_neg (by omega), Nat.zero_add, Nat.sub_self, hq]; exact hg⟩, by simp only [AS.le, leT, leH, zr, AsgK, AV.le, AV.leL, AObj.le, inH, idsT, idsH, AV.ids, AV.idsL, AV.idsR, AObj.ids, lk, hget, go_sem, aeq, aeq.aeqF, simprocAttr, hwi] <;> and_intros <;> rfl, by simp; omega⟩
   | succ j =>
    have hz : decide ((0 : Int) < ((j + 1 : Nat) : Int)) = true := decide_eq_true (by omega)
    obtain ⟨m', hq'⟩ := zae (l := d.bad) (i := j) (by omega)
    have hrow' := zbi (g := intD) hq'
    simp only [intD] at hrow'
    have hwj : IntKind.i64.wrap (((j + 1 : Nat) : Int) - 1) = (j : Int) := by rw [zD (by omega) (by omega)]; omega
    rw [if_neg (by omega), Nat.add_sub_cancel, hq'] at hg
    simp only [zaW] at hg
    repeat' (first | ((first | refine za tab1e (zax) (fun K hK => ?_) | refine zc tab1e (zax) ?_ | refine ze tab1e (zax) mx (fun K hK => ?_) | refine zj tab1e (zax) mx ?_ | refine zh ?_ | refine zi ?_ | refine zn ?_); simp only [go_sem, aeq, aeq.aeqF, simprocAttr, hcmp, hrow, hz, hrow', hwj, Tryz.results63]) | refine zq (fun K hK => ?_) | refine zo ?_ | refine zf rfl ?_ | refine zg rfl ?_ | refine zp rfl (fun hc => ?_) (fun hc => ?_) | (refine hK _ ?_; clear hK K) | with_reducible refine And.intro ?_ ?_ | (refine (show zt _ _ = true from ?_); kernel_rfl) | omega | assumption | refine fun (hg : (_ : Bool) = (_ : Bool)) => ?_ | clear hK K)
    ·have hc : (there d m && decide (m' < m)) = false := by rw [or_le] at hc; simp only [Bool.not_eq_true', Bool.not_eq_false'] at hc; exact hc
     rw [hfit, hg, hc, Bool.false_and, Bool.and_false]
    ·have hc : (there d m && decide (m' < m)) = true := by rw [or_le] at hc; simp only [Bool.not_eq_true', Bool.not_eq_false'] at hc; exact hc
     rw [hc, Bool.true_and] at hg
     exact ⟨⟨j + 1 + 1, by omega, by rw [if_neg (by omega), Nat.add_sub_cancel, hq]; exact hg⟩, by simp only [AS.le, leT, leH, zr, AsgK, AV.le, AV.leL, AObj.le, inH, idsT, idsH, AV.ids, AV.idsL, AV.idsR, AObj.ids, lk, hget, go_sem, aeq, aeq.aeqF, simprocAttr, hwi], by simp; omega⟩
  ·rw [hend, List.drop_length] at hg
   repeat' (first | ((first | refine za noTab (zb _) (fun K hK => ?_) | refine zc noTab (zb _) ?_ | refine ze noTab (zb _) mx (fun K hK => ?_) | refine zj noTab (zb _) mx ?_ | refine zh ?_ | refine zi ?_ | refine zn ?_); simp only [go_sem, aeq, aeq.aeqF, simprocAttr, hcmp, Tryz.results63]) | refine zq (fun K hK => ?_) | refine zo ?_ | refine zf rfl ?_ | refine zg rfl ?_ | refine zp rfl (fun hc => ?_) (fun hc => ?_) | (refine hK _ ?_; clear hK K) | with_reducible refine And.intro ?_ ?_ | (refine (show zt _ _ = true from ?_); kernel_rfl) | omega | assumption | refine fun (hg : (_ : Bool) = (_ : Bool)) => ?_ | clear hK K)
   rw [hfit, hf, hg]
   rfl
noncomputable def zfy : Ent Tryz.prog := .ofL 63 (consL zM nilL) (fun (d, _) => DiskOk d) (fun (d, _) => .d (.bool (dfit d))) (fun (d, _) hp => ⟨rfl, zr2 d hp⟩)
attribute [go_sem] zfy
open Go Go.Proofs
def idxP {α : Type} (p : α → Bool) : List α → Nat → Int
 | [], _ => -1
 | q :: l, k => if p q = true then (k : Int) else idxP p l (k + 1)
abbrev Idst {α : Type} (p : α → Bool) (l : List α) := { i : Nat // i ≤ l.length ∧ idxP p l 0 = idxP p (l.drop i) i }
theorem zg2 {α : Type} (p : α → Bool) : ∀ (l : List α) (k : Nat), decide ((0 : Int) ≤ idxP p l k) = l.any p
 | [], k => rfl
 | q :: l, k => by
  rw [idxP, List.any_cons]
  by_cases h : p q = true
  ·rw [if_pos h, h, decide_eq_true (by omega)]; rfl
  ·rw [if_neg h, zg2 p l (k + 1)]; simp [h]
theorem zgc {α : Type} [BEq α] [LawfulBEq α] (x : α) : ∀ (l : List α), l.any (fun q => x == q) = l.contains x
 | [] => rfl
 | q :: l => by rw [List.any_cons, zgc x l, List.contains_cons]
theorem zr3 (a : List PutR) (b : List PutR) (ha : a.length ≤ 9223372036854775807) : ACall Tryz.prog 125 0 [.d (.sl 2 (a.map putD)), .d (.sl 2 (b.map putD))] [] (fun r _ => r = .d (.bool (decide (a = b)))) := by
 refine zk Tryz.func125 rfl (zu Tryz.func125 (by kernel_rfl) rfl) Tryz.ntmps125 (by simp) (fun base => ?_)
 repeat' (first | ((first | refine za noTab (zb _) (fun K hK => ?_) | refine zc noTab (zb _) ?_ | refine ze noTab (zb _) mx (fun K hK => ?_) | refine zj noTab (zb _) mx ?_ | refine zh ?_ | refine zi ?_ | refine zn ?_); simp only [go_sem, aeq, aeq.aeqF, simprocAttr, Tryz.results125]) | refine zq (fun K hK => ?_) | refine zo ?_ | refine zf rfl ?_ | refine zg rfl ?_ | refine zp rfl (fun hc => ?_) (fun hc => ?_) | (refine hK _ ?_; clear hK K) | with_reducible refine And.intro ?_ ?_ | (refine (show zt _ _ = true from ?_); kernel_rfl) | omega | assumption | clear hK K)
 ·have : a ≠ b := by rintro rfl; simp at hc
  rw [decide_eq_false this]
 ·have hlen : a.length = b.length := by simp at hc; omega
  refine zL (fun q : Eqst a b => ⟨[(0, true, .d (.sl 2 (a.map putD))), (1, true, .d (.sl 2 (b.map putD))), (12, true, .d (.int .i64 a.length)), (13, true, .d (.int .i64 q.1))], [], some []⟩) (fun q => a.length - q.1) ⟨0, Nat.zero_le _, rfl⟩ (by simp only [AS.le, leT, leH, zr, AsgK, AV.le, AV.leL, AObj.le, inH, idsT, idsH, AV.ids, AV.idsL, AV.idsR, AObj.ids, lk, hget, go_sem, aeq, aeq.aeqF, simprocAttr] <;> and_intros <;> rfl) (fun q => ?_)
  obtain ⟨i, hi, hf⟩ := q
  simp only at hi hf ⊢
  rcases zad putD a i hi with ⟨⟨m, s⟩, hq, hlt, hcmp, hrow, hdr, htk⟩ | ⟨hend, hcmp⟩
  ·obtain ⟨⟨m', s'⟩, hq'⟩ := zae (l := b) (i := i) (by omega)
   have hrow' := zbi (g := putD) hq'
   simp only [putD] at hrow hrow'
   have hwi := zP (i := i) (by omega)
   repeat' (first | ((first | refine za noTab (zb _) (fun K hK => ?_) | refine zc noTab (zb _) ?_ | refine ze noTab (zb _) mx (fun K hK => ?_) | refine zj noTab (zb _) mx ?_ | refine zh ?_ | refine zi ?_ | refine zn ?_); simp only [go_sem, aeq, aeq.aeqF, simprocAttr, hcmp, hrow, hrow', Tryz.results125]) | refine zq (fun K hK => ?_) | refine zo ?_ | refine zf rfl ?_ | refine zg rfl ?_ | refine zp rfl (fun hc => ?_) (fun hc => ?_) | (refine hK _ ?_; clear hK K) | with_reducible refine And.intro ?_ ?_ | (refine (show zt _ _ = true from ?_); kernel_rfl) | omega | assumption | clear hK K)
   ·have : a ≠ b := eq_ne hq hq' (by intro h; cases h; simp at hc)
    rw [decide_eq_false this]
   ·exact ⟨⟨i + 1, by omega, ziF hq hq' (by simp at hc; simp [hc]) hf⟩, by simp only [AS.le, leT, leH, zr, AsgK, AV.le, AV.leL, AObj.le, inH, idsT, idsH, AV.ids, AV.idsL, AV.idsR, AObj.ids, lk, hget, go_sem, aeq, aeq.aeqF, simprocAttr, hwi], by simp; omega⟩
  ·have := zlz hend hlen hf
   repeat' (first | ((first | refine za noTab (zb _) (fun K hK => ?_) | refine zc noTab (zb _) ?_ | refine ze noTab (zb _) mx (fun K hK => ?_) | refine zj noTab (zb _) mx ?_ | refine zh ?_ | refine zi ?_ | refine zn ?_); simp only [go_sem, aeq, aeq.aeqF, simprocAttr, hcmp, Tryz.results125]) | refine zq (fun K hK => ?_) | refine zo ?_ | refine zf rfl ?_ | refine zg rfl ?_ | refine zp rfl (fun hc => ?_) (fun hc => ?_) | (refine hK _ ?_; clear hK K) | with_reducible refine And.intro ?_ ?_ | (refine (show zt _ _ = true from ?_); kernel_rfl) | omega | assumption | clear hK K)
   rw [decide_eq_true this]
noncomputable def zfz : Ent Tryz.prog := .ofL 125 (consL (slT 2 putD zcT) (consL (slT 2 putD zcT) nilL)) (fun (a, b, _) => a.length ≤ 9223372036854775807) (fun (a, b, _) => .d (.bool (decide (a = b)))) (fun (a, b, _) hp => ⟨rfl, zr3 a b hp⟩)
attribute [go_sem] zfz
theorem zr4 (a : List Int) (b : List Int) (ha : a.length ≤ 9223372036854775807) : ACall Tryz.prog 126 0 [.d (.sl 1 (a.map intD)), .d (.sl 1 (b.map intD))] [] (fun r _ => r = .d (.bool (decide (a = b)))) := by
 refine zk Tryz.func126 rfl (zu Tryz.func126 (by kernel_rfl) rfl) Tryz.ntmps126 (by simp) (fun base => ?_)
 repeat' (first | ((first | refine za noTab (zb _) (fun K hK => ?_) | refine zc noTab (zb _) ?_ | refine ze noTab (zb _) mx (fun K hK => ?_) | refine zj noTab (zb _) mx ?_ | refine zh ?_ | refine zi ?_ | refine zn ?_); simp only [go_sem, aeq, aeq.aeqF, simprocAttr, Tryz.results126]) | refine zq (fun K hK => ?_) | refine zo ?_ | refine zf rfl ?_ | refine zg rfl ?_ | refine zp rfl (fun hc => ?_) (fun hc => ?_) | (refine hK _ ?_; clear hK K) | with_reducible refine And.intro ?_ ?_ | (refine (show zt _ _ = true from ?_); kernel_rfl) | omega | assumption | clear hK K)
 ·have : a ≠ b := by rintro rfl; simp at hc
  rw [decide_eq_false this]
 ·have hlen : a.length = b.length := by simp at hc; omega
  refine zL (fun q : Eqst a b => ⟨[(0, true, .d (.sl 1 (a.map intD))), (1, true, .d (.sl 1 (b.map intD))), (12, true, .d (.int .i64 a.length)), (13, true, .d (.int .i64 q.1))], [], some []⟩) (fun q => a.length - q.1) ⟨0, Nat.zero_le _, rfl⟩ (by simp only [AS.le, leT, leH, zr, AsgK, AV.le, AV.leL, AObj.le, inH, idsT, idsH, AV.ids, AV.idsL, AV.idsR, AObj.ids, lk, hget, go_sem, aeq, aeq.aeqF, simprocAttr] <;> and_intros <;> rfl) (fun q => ?_)
  obtain ⟨i, hi, hf⟩ := q
  simp only at hi hf ⊢
  rcases zad intD a i hi with ⟨m, hq, hlt, hcmp, hrow, hdr, htk⟩ | ⟨hend, hcmp⟩
  ·obtain ⟨m', hq'⟩ := zae (l := b) (i := i) (by omega)
   have hrow' := zbi (g := intD) hq'
   simp only [intD] at hrow hrow'
   have hwi := zP (i := i) (by omega)
   repeat' (first | ((first | refine za noTab (zb _) (fun K hK => ?_) | refine zc noTab (zb _) ?_ | refine ze noTab (zb _) mx (fun K hK => ?_) | refine zj noTab (zb _) mx ?_ | refine zh ?_ | refine zi ?_ | refine zn ?_); simp only [go_sem, aeq, aeq.aeqF, simprocAttr, hcmp, hrow, hrow', Tryz.results126]) | refine zq (fun K hK => ?_) | refine zo ?_ | refine zf rfl ?_ | refine zg rfl ?_ | refine zp rfl (fun hc => ?_) (fun hc => ?_) | (refine hK _ ?_; clear hK K) | with_reducible refine And.intro ?_ ?_ | (refine (show zt _ _ = true from ?_); kernel_rfl) | omega | assumption | clear hK K)
   ·have : a ≠ b := eq_ne hq hq' (by intro h; cases h; simp at hc)
    rw [decide_eq_false this]
   ·exact ⟨⟨i + 1, by omega, ziF hq hq' (by simp at hc; simp [hc]) hf⟩, by simp only [AS.le, leT, leH, zr, AsgK, AV.le, AV.leL, AObj.le, inH, idsT, idsH, AV.ids, AV.idsL, AV.idsR, AObj.ids, lk, hget, go_sem, aeq, aeq.aeqF, simprocAttr, hwi], by simp; omega⟩
  ·have := zlz hend hlen hf
   repeat' (first | ((first | refine za noTab (zb _) (fun K hK => ?_) | refine zc noTab (zb _) ?_ | refine ze noTab (zb _) mx (fun K hK => ?_) | refine zj noTab (zb _) mx ?_ | refine zh ?_ | refine zi ?_ | refine zn ?_); simp only [go_sem, aeq, aeq.aeqF, simprocAttr, hcmp, Tryz.results126]) | refine zq (fun K hK => ?_) | refine zo ?_ | refine zf rfl ?_ | refine zg rfl ?_ | refine zp rfl (fun hc => ?_) (fun hc => ?_) | (refine hK _ ?_; clear hK K) | with_reducible refine And.intro ?_ ?_ | (refine (show zt _ _ = true from ?_); kernel_rfl) | omega | assumption | clear hK K)
   rw [decide_eq_true this]
noncomputable def zfA : Ent Tryz.prog := .ofL 126 (consL (slT 1 intD zbj) (consL (slT 1 intD zbj) nilL)) (fun (a, b, _) => a.length ≤ 9223372036854775807) (fun (a, b, _) => .d (.bool (decide (a = b)))) (fun (a, b, _) hp => ⟨rfl, zr4 a b hp⟩)
attribute [go_sem] zfA
theorem zkx (l : List Int) (x : Int) (hl : l.length ≤ 9223372036854775807) : ACall Tryz.prog 138 0 [.d (.sl 1 (l.map intD)), .d (.int .i64 x)] [] (fun r _ => r = .d (.int .i64 (idxP (fun q => x == q) l 0))) := by
 refine zk Tryz.func138 rfl (zu Tryz.func138 (by kernel_rfl) rfl) Tryz.ntmps138 (by simp) (fun base => ?_)
 repeat' (first | ((first | refine za noTab (zb _) (fun K hK => ?_) | refine zc noTab (zb _) ?_ | refine zh ?_ | refine zi ?_ | refine zn ?_); simp only [go_sem, aeq, aeq.aeqF, simprocAttr, Tryz.results138]) | refine zq (fun K hK => ?_) | refine zo ?_ | refine zf rfl ?_ | refine zg rfl ?_ | refine zp rfl (fun hc => ?_) (fun hc => ?_) | (refine hK _ ?_; clear hK K) | with_reducible refine And.intro ?_ ?_ | omega | assumption | clear hK K)
 refine zL (fun q : Idst (fun q => x == q) l => ⟨[(0, true, .d (.sl 1 (l.map intD))), (1, true, .d (.int .i64 x)), (7, true, .d (.int .i64 l.length)), (8, true, .d (.int .i64 q.1))], [], some []⟩) (fun q => l.length - q.1) ⟨0, Nat.zero_le _, rfl⟩ (by simp only [AS.le, leT, leH, zr, AsgK, AV.le, AV.leL, AObj.le, inH, idsT, idsH, AV.ids, AV.idsL, AV.idsR, AObj.ids, lk, hget, go_sem, aeq, aeq.aeqF, simprocAttr] <;> and_intros <;> rfl) (fun q => ?_)
 obtain ⟨i, hi, hf⟩ := q
 simp only at hi hf ⊢
 rcases zad intD l i hi with ⟨m, hq, hlt, hcmp, hrow, hdr, htk⟩ | ⟨hend, hcmp⟩
 ·simp only [intD] at hrow
  have hwi := zP (i := i) (by omega)
  repeat' (first | ((first | refine za noTab (zb _) (fun K hK => ?_) | refine zc noTab (zb _) ?_ | refine zh ?_ | refine zi ?_ | refine zn ?_); simp only [go_sem, aeq, aeq.aeqF, simprocAttr, hcmp, hrow, Tryz.results138]) | refine zq (fun K hK => ?_) | refine zo ?_ | refine zf rfl ?_ | refine zg rfl ?_ | refine zp rfl (fun hc => ?_) (fun hc => ?_) | (refine hK _ ?_; clear hK K) | with_reducible refine And.intro ?_ ?_ | omega | assumption | clear hK K)
  ·rw [hf, hdr, idxP, if_pos (by simpa using hc)]
  ·exact ⟨⟨i + 1, by omega, by rw [hf, hdr, idxP, if_neg (by simpa using hc)]⟩, by simp only [AS.le, leT, leH, zr, AsgK, AV.le, AV.leL, AObj.le, inH, idsT, idsH, AV.ids, AV.idsL, AV.idsR, AObj.ids, lk, hget, go_sem, aeq, aeq.aeqF, simprocAttr, hwi], by simp; omega⟩
 ·repeat' (first | ((first | refine za noTab (zb _) (fun K hK => ?_) | refine zc noTab (zb _) ?_ | refine zh ?_ | refine zi ?_ | refine zn ?_); simp only [go_sem, aeq, aeq.aeqF, simprocAttr, hcmp, Tryz.results138]) | refine zq (fun K hK => ?_) | refine zo ?_ | refine zf rfl ?_ | refine zg rfl ?_ | refine zp rfl (fun hc => ?_) (fun hc => ?_) | (refine hK _ ?_; clear hK K) | with_reducible refine And.intro ?_ ?_ | omega | assumption | clear hK K)
  rw [hf, hend, List.drop_length]
  rfl
noncomputable def zaF : Ent Tryz.prog := .ofL 138 (consL (slT 1 intD zbj) (consL (intT .i64) nilL)) (fun (l, x, _) => l.length ≤ 9223372036854775807) (fun (l, x, _) => .d (.int .i64 (idxP (fun q => x == q) l 0))) (fun (l, x, _) hp => ⟨rfl, zkx l x hp⟩)
attribute [go_sem] zaF
noncomputable def zlA : Tab := tabOf [zaF]
theorem zjt : TabOk Tryz.prog zlA := zz _
@[go_sem] theorem zlB (args : List AV) : zlA 138 args = (zaF).e args := rfl
theorem zhF (l : List Int) (x : Int) (hl : l.length ≤ 9223372036854775807) : ACall Tryz.prog 90 0 [.d (.sl 1 (l.map intD)), .d (.int .i64 x)] [] (fun r _ => r = .d (.bool (l.contains x))) := by
 refine zk Tryz.func90 rfl (zu Tryz.func90 (by kernel_rfl) rfl) Tryz.ntmps90 (by simp) (fun base => ?_)
 repeat' (first | ((first | refine za zlA (zjt) (fun K hK => ?_) | refine zc zlA (zjt) ?_ | refine zh ?_ | refine zi ?_ | refine zn ?_); simp only [go_sem, aeq, aeq.aeqF, simprocAttr, Tryz.results90]) | refine zq (fun K hK => ?_) | (refine hK _ ?_; clear hK K) | with_reducible refine And.intro ?_ ?_ | omega | assumption | clear hK K)
 rw [zg2, zgc]
noncomputable def zaL : Ent Tryz.prog := .ofL 90 (consL (slT 1 intD zbj) (consL (intT .i64) nilL)) (fun (l, x, _) => l.length ≤ 9223372036854775807) (fun (l, x, _) => .d (.bool (l.contains x))) (fun (l, x, _) hp => ⟨rfl, zhF l x hp⟩)
attribute [go_sem] zaL
theorem zus (d : Disk) (hd : DiskOk d) : ACall Tryz.prog 70 0 [diskA d] [] (fun r _ => r = .d (.int .i64 (dsize d))) := by
 refine zk Tryz.func70 rfl (zu Tryz.func70 (by kernel_rfl) rfl) Tryz.ntmps70 (by simp) (fun base => ?_)
 repeat' (first | ((first | refine za noTab (zb _) (fun K hK => ?_) | refine zc noTab (zb _) ?_ | refine zh ?_ | refine zi ?_ | refine zn ?_); simp only [go_sem, aeq, aeq.aeqF, simprocAttr, ztQ hd.data, Tryz.results70]) | refine zq (fun K hK => ?_) | (refine hK _ ?_; clear hK K) | with_reducible refine And.intro ?_ ?_ | omega | assumption | clear hK K)
 rfl
noncomputable def zbl : Ent Tryz.prog := .ofL 70 (consL zM nilL) (fun (d, _) => DiskOk d) (fun (d, _) => .d (.int .i64 (dsize d))) (fun (d, _) hp => ⟨rfl, zus d hp⟩)
attribute [go_sem] zbl
noncomputable def tabEq : Tab := tabOf [zfz, zfA]
theorem zlC : TabOk Tryz.prog tabEq := zz _
@[go_sem] theorem zq6 (args : List AV) : tabEq 125 args = (zfz).e args := rfl
@[go_sem] theorem zq7 (args : List AV) : tabEq 126 args = (zfA).e args := rfl
noncomputable def ziH : Tab := tabOf [zbl]
theorem zh4 : TabOk Tryz.prog ziH := zz _
@[go_sem] theorem zo9 (args : List AV) : ziH 70 args = (zbl).e args := rfl
theorem zvz (d : Disk) (at_ : Int) : (decide (at_ < 0) || decide (((dsize d : Nat) : Int) ≤ at_)) = !there d at_ := by
 rw [there, Bool.not_and]
 congr 1
 ·by_cases h : at_ < 0
  ·rw [decide_eq_true h, decide_eq_false (by omega)]; rfl
  ·rw [decide_eq_false h, decide_eq_true (by omega)]; rfl
 ·by_cases h : at_ < (dsize d : Int)
  ·rw [decide_eq_true h, decide_eq_false (by omega)]; rfl
  ·rw [decide_eq_false h, decide_eq_true (by omega)]; rfl
theorem zvA (d : Disk) (at_ : Int) (hd : DiskOk d) : ACall Tryz.prog 89 0 [diskA d, .d (.int .i64 at_)] [] (fun r _ => r = .d (.bool (!there d at_))) := by
 refine zk Tryz.func89 rfl (zu Tryz.func89 (by kernel_rfl) rfl) Tryz.ntmps89 (by simp) (fun base => ?_)
 repeat' (first | ((first | refine za ziH (zh4) (fun K hK => ?_) | refine zc ziH (zh4) ?_ | refine zh ?_ | refine zi ?_ | refine zn ?_); simp only [go_sem, aeq, aeq.aeqF, simprocAttr, Tryz.results89]) | refine zq (fun K hK => ?_) | (refine hK _ ?_; clear hK K) | with_reducible refine And.intro ?_ ?_ | omega | assumption | refine fun (hg : (_ : Bool) = (_ : Bool)) => ?_ | clear hK K)
 rw [zvz]
noncomputable def zbN : Ent Tryz.prog := .ofL 89 (consL zM (consL (intT .i64) nilL)) (fun (d, at_, _) => DiskOk d) (fun (d, at_, _) => .d (.bool (!there d at_))) (fun (d, at_, _) hp => ⟨rfl, zvA d at_ hp⟩)
attribute [go_sem] zbN
noncomputable def zju : Tab := tabOf [zbN, zbl]
theorem zjv : TabOk Tryz.prog zju := zz _
@[go_sem] theorem zr5 (args : List AV) : zju 89 args = (zbN).e args := rfl
@[go_sem] theorem zq8 (args : List AV) : zju 70 args = (zbl).e args := rfl
theorem zmF (n : Int) (s : Txt) (d : Disk) (hd : DiskOk d) : ACall Tryz.prog 122 0 [.agg [.d (.int .i64 n), .d (.str s)], .dp (diskC d)] [] (fun r _ => r = .d (.bool (!putOk d (n, s)))) := by
 refine zk Tryz.func122 rfl (zu Tryz.func122 (by kernel_rfl) rfl) Tryz.ntmps122 (by simp) (fun base => ?_)
 repeat' (first | ((first | refine za zju (zjv) (fun K hK => ?_) | refine zc zju (zjv) ?_ | refine zh ?_ | refine zi ?_ | refine zn ?_); simp only [go_sem, aeq, aeq.aeqF, simprocAttr, Tryz.results122]) | refine zq (fun K hK => ?_) | (refine hK _ ?_; clear hK K) | with_reducible refine And.intro ?_ ?_ | omega | assumption | refine fun (hg : (_ : Bool) = (_ : Bool)) => ?_ | clear hK K)
 rw [zo7]
 rfl
noncomputable def zdu : Ent Tryz.prog := .ofL 122 (consL (aggT (consL (intT .i64) (consL strT nilL)) (fun p => p) (fun p => p) (fun _ => rfl)) (consL zgZ nilL)) (fun ((n, s, _), d, _) => DiskOk d) (fun ((n, s, _), d, _) => .d (.bool (!putOk d (n, s)))) (fun ((n, s, _), d, _) hp => ⟨rfl, zmF n s d hp⟩)
attribute [go_sem] zdu
noncomputable def tabF1 : Tab := tabOf [zdu]
theorem zlD : TabOk Tryz.prog tabF1 := zz _
@[go_sem] theorem znT (args : List AV) : tabF1 122 args = (zdu).e args := rfl
theorem zpa (l : List PutR) (d : Disk) (hd : DiskOk d) (hl : l.length ≤ 9223372036854775807) : ACall Tryz.prog 176 0 [.d (.sl 2 (l.map putD)), .fn (.func 122) [] [.dp (diskC d)]] [] (fun r _ => r = .d (.int .i64 (idxP (fun q => !putOk d q) l 0))) := by
 refine zk Tryz.func176 rfl (zu Tryz.func176 (by kernel_rfl) rfl) Tryz.ntmps176 (by simp) (fun base => ?_)
 repeat' (first | ((first | refine za noTab (zb _) (fun K hK => ?_) | refine zc noTab (zb _) ?_ | refine zh ?_ | refine zi ?_ | refine zn ?_); simp only [go_sem, aeq, aeq.aeqF, simprocAttr, Tryz.results176]) | refine zq (fun K hK => ?_) | refine zo ?_ | refine zf rfl ?_ | refine zg rfl ?_ | refine zp rfl (fun hc => ?_) (fun hc => ?_) | (refine hK _ ?_; clear hK K) | with_reducible refine And.intro ?_ ?_ | omega | assumption | clear hK K)
 refine zL (fun q : Idst (fun q => !putOk d q) l => ⟨[(0, true, .d (.sl 2 (l.map putD))), (1, true, .fn (.func 122) [] [.dp (diskC d)]), (7, true, .d (.int .i64 l.length)), (8, true, .d (.int .i64 q.1))], [], some []⟩) (fun q => l.length - q.1) ⟨0, Nat.zero_le _, rfl⟩ (by simp only [AS.le, leT, leH, zr, AsgK, AV.le, AV.leL, AObj.le, inH, idsT, idsH, AV.ids, AV.idsL, AV.idsR, AObj.ids, lk, hget, go_sem, aeq, aeq.aeqF, simprocAttr] <;> and_intros <;> rfl) (fun q => ?_)
 obtain ⟨i, hi, hf⟩ := q
 simp only at hi hf ⊢
 rcases zad putD l i hi with ⟨⟨m, s⟩, hq, hlt, hcmp, hrow, hdr, htk⟩ | ⟨hend, hcmp⟩
 ·simp only [putD] at hrow
  have hwi := zP (i := i) (by omega)
  repeat' (first | ((first | refine za tabF1 (zlD) (fun K hK => ?_) | refine zc tabF1 (zlD) ?_ | refine zh ?_ | refine zi ?_ | refine zn ?_); simp only [go_sem, aeq, aeq.aeqF, simprocAttr, hcmp, hrow, Tryz.results176]) | refine zq (fun K hK => ?_) | refine zo ?_ | refine zf rfl ?_ | refine zg rfl ?_ | refine zp rfl (fun hc => ?_) (fun hc => ?_) | (refine hK _ ?_; clear hK K) | with_reducible refine And.intro ?_ ?_ | omega | assumption | clear hK K)
  ·rw [hf, hdr, idxP, if_pos (by simpa using hc)]
  ·exact ⟨⟨i + 1, by omega, by rw [hf, hdr, idxP, if_neg (by simpa using hc)]⟩, by simp only [AS.le, leT, leH, zr, AsgK, AV.le, AV.leL, AObj.le, inH, idsT, idsH, AV.ids, AV.idsL, AV.idsR, AObj.ids, lk, hget, go_sem, aeq, aeq.aeqF, simprocAttr, hwi], by simp; omega⟩
 ·repeat' (first | ((first | refine za noTab (zb _) (fun K hK => ?_) | refine zc noTab (zb _) ?_ | refine zh ?_ | refine zi ?_ | refine zn ?_); simp only [go_sem, aeq, aeq.aeqF, simprocAttr, hcmp, Tryz.results176]) | refine zq (fun K hK => ?_) | refine zo ?_ | refine zf rfl ?_ | refine zg rfl ?_ | refine zp rfl (fun hc => ?_) (fun hc => ?_) | (refine hK _ ?_; clear hK K) | with_reducible refine And.intro ?_ ?_ | omega | assumption | clear hK K)
  rw [hf, hend, List.drop_length]
  rfl
noncomputable def zer : Ent Tryz.prog := .ofL 176 (consL (slT 2 putD zcT) (consL (fnT 122 (consL zgZ nilL)) nilL)) (fun (l, (d, _), _) => (DiskOk d) ∧ (l.length ≤ 9223372036854775807)) (fun (l, (d, _), _) => .d (.int .i64 (idxP (fun q => !putOk d q) l 0))) (fun (l, (d, _), _) hp => ⟨rfl, zpa l d hp.1 hp.2⟩)
attribute [go_sem] zer
noncomputable def tabF2 : Tab := tabOf [zer]
theorem zlE : TabOk Tryz.prog tabF2 := zz _
@[go_sem] theorem zpb (args : List AV) : tabF2 176 args = (zer).e args := rfl
theorem zpc (l : List PutR) (d : Disk) (hd : DiskOk d) (hl : l.length ≤ 9223372036854775807) : ACall Tryz.prog 121 0 [.d (.sl 2 (l.map putD)), .fn (.func 122) [] [.dp (diskC d)]] [] (fun r _ => r = .d (.bool (l.any (fun q => !putOk d q)))) := by
 refine zk Tryz.func121 rfl (zu Tryz.func121 (by kernel_rfl) rfl) Tryz.ntmps121 (by simp) (fun base => ?_)
 repeat' (first | ((first | refine za tabF2 (zlE) (fun K hK => ?_) | refine zc tabF2 (zlE) ?_ | refine zh ?_ | refine zi ?_ | refine zn ?_); simp only [go_sem, aeq, aeq.aeqF, simprocAttr, Tryz.results121]) | refine zq (fun K hK => ?_) | (refine hK _ ?_; clear hK K) | with_reducible refine And.intro ?_ ?_ | omega | assumption | clear hK K)
 rw [zg2]
noncomputable def zes : Ent Tryz.prog := .ofL 121 (consL (slT 2 putD zcT) (consL (fnT 122 (consL zgZ nilL)) nilL)) (fun (l, (d, _), _) => (DiskOk d) ∧ (l.length ≤ 9223372036854775807)) (fun (l, (d, _), _) => .d (.bool (l.any (fun q => !putOk d q)))) (fun (l, (d, _), _) hp => ⟨rfl, zpc l d hp.1 hp.2⟩)
attribute [go_sem] zes
noncomputable def tabF3 : Tab := tabOf [zes, zbN, zbl]
theorem zd4 : TabOk Tryz.prog tabF3 := zz _
@[go_sem] theorem zpd (args : List AV) : tabF3 121 args = (zes).e args := rfl
@[go_sem] theorem ztS (args : List AV) : tabF3 89 args = (zbN).e args := rfl
@[go_sem] theorem zr6 (args : List AV) : tabF3 70 args = (zbl).e args := rfl
theorem zut (a : Disk) (b : Disk) (ha : DiskOk a) (hb : DiskOk b) : ACall Tryz.prog 74 0 [diskA a, diskA b] [] (fun r _ => r = .d (.bool (decide (a = b)))) := by
 refine zk Tryz.func74 rfl (zu Tryz.func74 (by kernel_rfl) rfl) Tryz.ntmps74 (by simp) (fun base => ?_)
 have h1 := ha.cache
 have h2 := ha.bad
 repeat' (first | ((first | refine za tabEq (zlC) (fun K hK => ?_) | refine zc tabEq (zlC) ?_ | refine zh ?_ | refine zi ?_ | refine zn ?_); simp only [go_sem, aeq, aeq.aeqF, simprocAttr, Tryz.results74]) | refine zq (fun K hK => ?_) | (refine hK _ ?_; clear hK K) | with_reducible refine And.intro ?_ ?_ | omega | assumption | refine fun (hg : (_ : Bool) = (_ : Bool)) => ?_ | clear hK K)
 by_cases h : a = b
 ·rw [decide_eq_true h, h]; simp
 ·rw [decide_eq_false h]
  congr 2
  rw [Bool.eq_false_iff]
  intro hc
  simp only [Bool.and_eq_true, beq_iff_eq, decide_eq_true_eq] at hc
  exact h (by rw [← zeW a, ← zeW b, hc.1.1.1.1, hc.1.1.1.2, hc.1.1.2, hc.1.2, hc.2])
noncomputable def zg3 : Ent Tryz.prog := .ofL 74 (consL zM (consL zM nilL)) (fun (a, b, _) => (DiskOk a) ∧ (DiskOk b)) (fun (a, b, _) => .d (.bool (decide (a = b)))) (fun (a, b, _) hp => ⟨rfl, zut a b hp.1 hp.2⟩)
attribute [go_sem] zg3
theorem zlF {n : Nat} : decide ((0 : Int) < (n : Int).tmod 64) = !(n % 64 == 0) := by
 rw [Int.tmod_eq_emod_of_nonneg (by omega)]
 by_cases h : n % 64 = 0
 ·rw [h, decide_eq_false (by omega)]; rfl
 ·rw [decide_eq_true (by omega), beq_eq_false_iff_ne.mpr h]; rfl
theorem zpe (d : Disk) (hd : DiskOk d) : ACall Tryz.prog 69 0 [diskA d] [] (fun r _ => r = .d (.bool (dfit d))) := by
 refine zk Tryz.func69 rfl (zu Tryz.func69 (by kernel_rfl) rfl) Tryz.ntmps69 (by simp) (fun base => ?_)
 have hcl := hd.cache
 have hbl := hd.bad
 repeat' (first | ((first | refine za tabF3 (zd4) (fun K hK => ?_) | refine zc tabF3 (zd4) ?_ | refine zh ?_ | refine zi ?_ | refine zn ?_); simp only [go_sem, aeq, aeq.aeqF, simprocAttr, Tryz.results69]) | refine zq (fun K hK => ?_) | refine zo ?_ | refine zf rfl ?_ | refine zg rfl ?_ | refine zp rfl (fun hc => ?_) (fun hc => ?_) | (refine hK _ ?_; clear hK K) | with_reducible refine And.intro ?_ ?_ | omega | assumption | refine fun (hg : (_ : Bool) = (_ : Bool)) => ?_ | clear hK K)
 ·rw [zlF] at hc
  simp only [Bool.or_eq_true, decide_eq_true_eq, Bool.not_eq_true', beq_iff_eq] at hc
  rw [dfit]
  congr 2
  rcases hc with ((hc | hc) | hc) | hc
  ·rw [dsize, hc]; simp
  ·rw [decide_eq_false (p := dsize d ≤ 1024) (by omega)]; simp
  ·rw [hc]; simp
  ·rw [decide_eq_false (p := d.cache.length ≤ 4096) (by omega)]; simp
 rw [zlF] at hc
 simp only [Bool.or_eq_false_iff, decide_eq_false_iff_not, Bool.not_eq_false'] at hc
 have hfit : dfit d = (!(d.cache.any (fun q => !putOk d q) || !zaW d d.bad none)) := by
  obtain ⟨⟨⟨c1, c2⟩, c3⟩, c4⟩ := hc
  have c5 : d.data.length ≠ 0 := by intro h; rw [List.length_eq_zero_iff.1 h] at c1; exact absurd c1 (by decide)
  have c6 := eq_of_beq c3
  have c7 : 1 ≤ dsize d := by unfold dsize; omega
  rw [dfit, c3, decide_eq_true c7, decide_eq_true (p := dsize d ≤ 1024) (by omega), decide_eq_true (p := d.cache.length ≤ 4096) (by omega), Bool.not_or, List.all_eq_not_any_not]
  simp
 refine zL (fun q : { q : Nat × Bool // q.1 ≤ d.bad.length ∧ (d.cache.any (fun q => !putOk d q) || !zaW d d.bad none) = (q.2 || !zaW d (d.bad.drop q.1) (if q.1 = 0 then none else d.bad[q.1 - 1]?)) } => ⟨[(1, true, .vp 0 0), (3, true, .d (.bool q.1.2)), (32, true, .d (.sl 1 (d.bad.map intD))), (33, true, .d (.int .i64 d.bad.length)), (34, true, .d (.int .i64 q.1.1))], [(0, (.var [.d (.str d.data), .d (.sl 2 (d.cache.map putD)), .d (.int .i64 d.fuse), .d (.bool d.off), .d (.sl 1 (d.bad.map intD))]))], some []⟩) (fun q => d.bad.length - q.1.1) ⟨(0, d.cache.any (fun q => !putOk d q)), Nat.zero_le _, rfl⟩ (by simp only [AS.le, leT, leH, zr, AsgK, AV.le, AV.leL, AObj.le, inH, idsT, idsH, AV.ids, AV.idsL, AV.idsR, AObj.ids, lk, hget, go_sem, aeq, aeq.aeqF, simprocAttr] <;> and_intros <;> rfl) (fun q => ?_)
 obtain ⟨⟨j, w⟩, hj, hg⟩ := q
 simp only at hj hg ⊢
 rcases zad intD d.bad j hj with ⟨m, hq, hlt, hcmp, hrow, hdr, htk⟩ | ⟨hend, hcmp⟩
 ·simp only [intD] at hrow
  have hwi := zP (i := j) (by omega)
  rw [hdr] at hg
  cases j with
  | zero =>
   have hz : decide ((0 : Int) < ((0 : Nat) : Int)) = false := by decide
   simp only [if_pos, zaW, Bool.and_true] at hg
   have hcmp0 : decide ((0 : Int) < (d.bad.length : Int)) = true := hcmp
   repeat' (first | ((first | refine za tabF3 (zd4) (fun K hK => ?_) | refine zc tabF3 (zd4) ?_ | refine zh ?_ | refine zi ?_ | refine zn ?_); simp only [go_sem, aeq, aeq.aeqF, simprocAttr, hcmp0, hrow, hz, Tryz.results69]) | refine zq (fun K hK => ?_) | refine zo ?_ | refine zf rfl ?_ | refine zg rfl ?_ | refine zp rfl (fun hc => ?_) (fun hc => ?_) | (refine hK _ ?_; clear hK K) | with_reducible refine And.intro ?_ ?_ | omega | assumption | refine fun (hg : (_ : Bool) = (_ : Bool)) => ?_ | clear hK K)
   exact ⟨⟨(0 + 1, w || !there d m), by omega, by rw [hg, if_neg (by omega), Nat.zero_add, Nat.sub_self, hq, Bool.not_and, Bool.or_assoc]⟩, by simp only [AS.le, leT, leH, zr, AsgK, AV.le, AV.leL, AObj.le, inH, idsT, idsH, AV.ids, AV.idsL, AV.idsR, AObj.ids, lk, hget, go_sem, aeq, aeq.aeqF, simprocAttr, hwi] <;> and_intros <;> rfl, by simp; omega⟩
  | succ j =>
   have hz : decide ((0 : Int) < ((j + 1 : Nat) : Int)) = true := decide_eq_true (by omega)
   obtain ⟨m', hq'⟩ := zae (l := d.bad) (i := j) (by omega)
   have hrow' := zbi (g := intD) hq'
   simp only [intD] at hrow'
   have hwj : IntKind.i64.wrap (((j + 1 : Nat) : Int) - 1) = (j : Int) := by rw [zD (by omega) (by omega)]; omega
   rw [if_neg (by omega), Nat.add_sub_cancel, hq'] at hg
   simp only [zaW] at hg
   repeat' (first | ((first | refine za tabF3 (zd4) (fun K hK => ?_) | refine zc tabF3 (zd4) ?_ | refine zh ?_ | refine zi ?_ | refine zn ?_); simp only [go_sem, aeq, aeq.aeqF, simprocAttr, hcmp, hrow, hz, hrow', hwj, Tryz.results69]) | refine zq (fun K hK => ?_) | refine zo ?_ | refine zf rfl ?_ | refine zg rfl ?_ | refine zp rfl (fun hc => ?_) (fun hc => ?_) | (refine hK _ ?_; clear hK K) | with_reducible refine And.intro ?_ ?_ | omega | assumption | refine fun (hg : (_ : Bool) = (_ : Bool)) => ?_ | clear hK K)
   exact ⟨⟨(j + 1 + 1, w || !there d m || decide (m ≤ m')), by omega, by rw [hg, if_neg (by omega), Nat.add_sub_cancel, hq, Bool.not_and, ← or_le, ← Bool.or_assoc, ← Bool.or_assoc]⟩, by simp only [AS.le, leT, leH, zr, AsgK, AV.le, AV.leL, AObj.le, inH, idsT, idsH, AV.ids, AV.idsL, AV.idsR, AObj.ids, lk, hget, go_sem, aeq, aeq.aeqF, simprocAttr, hwi], by simp; omega⟩
 ·rw [hend, List.drop_length] at hg
  repeat' (first | ((first | refine za noTab (zb _) (fun K hK => ?_) | refine zc noTab (zb _) ?_ | refine zh ?_ | refine zi ?_ | refine zn ?_); simp only [go_sem, aeq, aeq.aeqF, simprocAttr, hcmp, Tryz.results69]) | refine zq (fun K hK => ?_) | refine zo ?_ | refine zf rfl ?_ | refine zg rfl ?_ | refine zp rfl (fun hc => ?_) (fun hc => ?_) | (refine hK _ ?_; clear hK K) | with_reducible refine And.intro ?_ ?_ | omega | assumption | refine fun (hg : (_ : Bool) = (_ : Bool)) => ?_ | clear hK K)
  rw [hfit, hg]
  simp [zaW]
noncomputable def zet : Ent Tryz.prog := .ofL 69 (consL zM nilL) (fun (d, _) => DiskOk d) (fun (d, _) => .d (.bool (dfit d))) (fun (d, _) hp => ⟨rfl, zpe d hp⟩)
attribute [go_sem] zet
open Go Go.Proofs
def dburn (d : Disk) : Disk × Bool := if d.fuse = 0 then ({ d with off := true }, false) else (burnt d, true)
theorem zuu (d : Disk) (hd : DiskOk d) : ACall Tryz.prog 167 0 [diskA d] [] (fun r _ => r = .tup [diskA (dburn d).1, .d (.bool (dburn d).2)]) := by
 refine zA ?_
 refine zk Tryz.func167 rfl (zu Tryz.func167 (by kernel_rfl) rfl) Tryz.ntmps167 (by simp) (fun base => ?_)
 have h1 := hd.fuse1
 have hw : 0 < d.fuse → IntKind.i64.wrap (d.fuse - 1) = d.fuse - 1 := fun h => zD (by omega) (by omega)
 repeat' (first | ((first | refine za noTab (zb _) (fun K hK => ?_) | refine zc noTab (zb _) ?_ | refine zh ?_ | refine zi ?_ | refine zn ?_); simp only [go_sem, aeq, aeq.aeqF, simprocAttr, Tryz.results167]) | refine zq (fun K hK => ?_) | refine zo ?_ | refine zf rfl ?_ | refine zg rfl ?_ | refine zp rfl (fun hc => ?_) (fun hc => ?_) | (refine hK _ ?_; clear hK K) | with_reducible refine And.intro ?_ ?_ | omega | assumption | clear hK K)
 all_goals by_cases h0 : d.fuse = 0
 all_goals by_cases h2 : 0 < d.fuse
 all_goals simp_all [dburn, burnt]
 all_goals simp only [if_neg (show ¬ 0 < d.fuse by omega)]
 all_goals simp
noncomputable def zdv : Ent Tryz.prog := .ofL 167 (consL zM nilL) (fun (d, _) => DiskOk d) (fun (d, _) => .tup [diskA (dburn d).1, .d (.bool (dburn d).2)]) (fun (d, _) hp => ⟨rfl, zuu d hp⟩)
attribute [go_sem] zdv
theorem zhG (l : List PutR) (fl : Nat) (hl : l.length ≤ 5000) : ACall Tryz.prog 187 fl [.d (.sl 2 (l.map putD))] [] (fun r h' => r = .osl fl 2 l.length 0 l.length ∧ h' = [(fl, .arr 2 (l.map putD))]) := by
 refine zk Tryz.func187 rfl (zu Tryz.func187 (by kernel_rfl) rfl) Tryz.ntmps187 (by simp) (fun base => ?_)
 repeat' ((fail_if_success refine hds 2 (by rfl) ?_); first | ((first | refine za noTab (zb _) (fun K hK => ?_) | refine zc noTab (zb _) ?_ | refine zh ?_ | refine zi ?_ | refine zn ?_); simp only [go_sem, aeq, aeq.aeqF, simprocAttr, Tryz.results187]) | refine zq (fun K hK => ?_) | refine zf rfl ?_ | refine zg rfl ?_ | refine zp rfl (fun hc => ?_) (fun hc => ?_) | (refine hK _ ?_; clear hK K) | refine fun (nb : Bool) (hnb : nb = true → _) => ?_ | with_reducible refine And.intro ?_ ?_ | omega | assumption | clear hK K)
 ·refine za noTab (zb _) (fun K hK => ?_); simp only [go_sem, aeq, aeq.aeqF, simprocAttr]
  (first | (refine hK _ ?_; clear hK K) | (clear hK K; refine hK _ ?_; clear hK K) | (clear hK K; clear hK K; refine hK _ ?_; clear hK K) | (clear hK K; clear hK K; clear hK K; refine hK _ ?_; clear hK K) | (clear hK K; clear hK K; clear hK K; clear hK K; refine hK _ ?_; clear hK K))
  refine zgm 2 2 rfl ?_
  have h0 : l = [] := List.map_eq_nil_iff.1 (hnb hc)
  subst h0
  repeat' (first | ((first | refine za noTab (zb _) (fun K hK => ?_) | refine zc noTab (zb _) ?_ | refine zh ?_ | refine zi ?_ | refine zn ?_); simp only [go_sem, aeq, aeq.aeqF, simprocAttr, Tryz.results187]) | refine zq (fun K hK => ?_) | refine zf rfl ?_ | refine zg rfl ?_ | refine zp rfl (fun hc => ?_) (fun hc => ?_) | (refine hK _ ?_; clear hK K) | refine fun (nb : Bool) (hnb : nb = true → _) => ?_ | with_reducible refine And.intro ?_ ?_ | omega | assumption | clear hK K)
  all_goals rfl
noncomputable def tabW : Tab := tabOf [zbN, zaL, zdv]
theorem zpf : TabOk Tryz.prog tabW := zz _
@[go_sem] theorem zuv (args : List AV) : tabW 89 args = (zbN).e args := rfl
@[go_sem] theorem zky (args : List AV) : tabW 90 args = (zaL).e args := rfl
@[go_sem] theorem ztT (args : List AV) : tabW 167 args = (zdv).e args := rfl
theorem zkz (d : Disk) (at_ : Int) (s : Txt) (hd : DiskOk d) : ACall Tryz.prog 153 0 [diskA d, .d (.int .i64 at_), .d (.str s)] [] (fun r _ => r = .tup [diskA (zQ d at_ s).1, .d (.int .i64 (zQ d at_ s).2)]) := by
 refine zA ?_
 refine zk Tryz.func153 rfl (zu Tryz.func153 (by kernel_rfl) rfl) Tryz.ntmps153 (by simp) (fun base => ?_)
 have h1 := hd.bad
 repeat' ((fail_if_success refine hds 14 (by rfl) ?_); first | ((first | refine za tabW (zpf) (fun K hK => ?_) | refine zc tabW (zpf) ?_ | refine zh ?_ | refine zi ?_ | refine zn ?_); simp only [go_sem, aeq, aeq.aeqF, simprocAttr, Tryz.results153]) | refine zq (fun K hK => ?_) | refine zo ?_ | refine zf rfl ?_ | refine zg rfl ?_ | refine zp rfl (fun hc => ?_) (fun hc => ?_) | (refine hK _ ?_; clear hK K) | refine fun (nb : Bool) (hnb : nb = true → _) => ?_ | with_reducible refine And.intro ?_ ?_ | omega | assumption | clear hK K)
 all_goals first | (simp_all [zQ]; done) | (by_cases h0 : d.fuse = 0 <;> simp_all [zQ, dburn]; done) | skip
 have hl : d.cache.length ≤ 5000 := by simp_all; omega
 repeat' (first | ((first | refine za noTab (zb _) (fun K hK => ?_) | refine zc noTab (zb _) ?_ | refine zh ?_ | refine zi ?_ | refine zn ?_); simp only [go_sem, aeq, aeq.aeqF, simprocAttr, Tryz.results153]) | refine zq (fun K hK => ?_) | refine zo ?_ | refine zf rfl ?_ | refine zg rfl ?_ | refine zp rfl (fun hc => ?_) (fun hc => ?_) | (refine hK _ ?_; clear hK K) | refine fun (nb : Bool) (hnb : nb = true → _) => ?_ | with_reducible refine And.intro ?_ ?_ | omega | assumption | clear hK K)
 refine ((zhG d.cache 3 hl).own rfl rfl (Nat.zero_le _) (by rintro r h' ⟨_, rfl⟩; rfl)).mono ?_
 rintro r h' ⟨h1, ⟨rfl, rfl⟩, rfl⟩
 simp only [go_sem, aeq, aeq.aeqF, simprocAttr]
 refine ⟨by omega, by omega, ?_⟩
 repeat' (first | ((first | refine za noTab (zb _) (fun K hK => ?_) | refine zc noTab (zb _) ?_ | refine zh ?_ | refine zi ?_ | refine zn ?_); simp only [go_sem, aeq, aeq.aeqF, simprocAttr, Tryz.results153]) | refine zq (fun K hK => ?_) | refine zo ?_ | refine zf rfl ?_ | refine zg rfl ?_ | refine zp rfl (fun hc => ?_) (fun hc => ?_) | (refine hK _ ?_; clear hK K) | refine fun (nb : Bool) (hnb : nb = true → _) => ?_ | with_reducible refine And.intro ?_ ?_ | omega | assumption | clear hK K)
 have hr : d.cache.map putD ++ [[.int .i64 at_, .str s]] = (d.cache ++ [(at_, s)]).map putD := by simp [putD]
 rw [hr, if_pos (by simp), List.take_of_length_le (by simp)]
 clear hr
 by_cases h0 : d.fuse = 0
 ·simp_all [dburn]
 by_cases h6 : 4096 ≤ (d.cache.length : Int)
 ·exfalso; simp_all
 by_cases h2 : 0 < d.fuse
 ·simp only [zQ, dburn, burnt, if_neg h6, if_neg h0, if_pos h2]; simp_all
 ·simp only [zQ, dburn, burnt, if_neg h6, if_neg h0, if_neg h2]; simp_all
noncomputable def zaG : Ent Tryz.prog := .ofL 153 (consL zM (consL (intT .i64) (consL strT nilL))) (fun (d, at_, s, _) => DiskOk d) (fun (d, at_, s, _) => .tup [diskA (zQ d at_ s).1, .d (.int .i64 (zQ d at_ s).2)]) (fun (d, at_, s, _) hp => ⟨rfl, zkz d at_ s hp⟩)
attribute [go_sem] zaG
theorem zjw (n : Int) : ACall Tryz.prog 169 0 [.d (.int .i64 n)] [] (fun r _ => r = .d (.bool true)) := by
 refine zk Tryz.func169 rfl (zu Tryz.func169 (by kernel_rfl) rfl) Tryz.ntmps169 (by simp) (fun base => ?_)
 repeat' (first | ((first | refine za noTab (zb _) (fun K hK => ?_) | refine zc noTab (zb _) ?_ | refine zh ?_ | refine zi ?_ | refine zn ?_); simp only [go_sem, aeq, aeq.aeqF, simprocAttr, Tryz.results169]) | refine zq (fun K hK => ?_) | (refine hK _ ?_; clear hK K) | with_reducible refine And.intro ?_ ?_ | omega | assumption | clear hK K)
noncomputable def zcp : Ent Tryz.prog := .ofL 169 (consL (intT .i64) nilL) (fun (n, _) => True) (fun (n, _) => .d (.bool true)) (fun (n, _) hp => ⟨rfl, zjw n⟩)
attribute [go_sem] zcp
noncomputable def tabL : Tab := tabOf [zcp]
theorem zdw : TabOk Tryz.prog tabL := zz _
@[go_sem] theorem zmG (args : List AV) : tabL 169 args = (zcp).e args := rfl
theorem zmH (d : Disk) (hd : DiskOk d) (hf : d.cache.all (putOk d) = true) : ACall Tryz.prog 168 0 [diskA d, .fn (.func 169) [] []] [] (fun r _ => r = .d (.str (zee d.data d.cache))) := by
 refine zA ?_
 refine zk Tryz.func168 rfl (zu Tryz.func168 (by kernel_rfl) rfl) Tryz.ntmps168 (by simp) (fun base => ?_)
 repeat' (first | ((first | refine za tabL (zdw) (fun K hK => ?_) | refine zc tabL (zdw) ?_ | refine ze tabL (zdw) mx (fun K hK => ?_) | refine zj tabL (zdw) mx ?_ | refine zh ?_ | refine zi ?_ | refine zn ?_); simp only [go_sem, aeq, aeq.aeqF, simprocAttr, Tryz.results168]) | refine zq (fun K hK => ?_) | refine zo ?_ | refine zf rfl ?_ | refine zg rfl ?_ | refine zp rfl (fun hc => ?_) (fun hc => ?_) | (refine hK _ ?_; clear hK K) | with_reducible refine And.intro ?_ ?_ | (refine (show zt _ _ = true from ?_); kernel_rfl) | omega | assumption | clear hK K)
 have hcl := hd.cache
 have hdl := hd.data
 refine zL (fun q : { q : Nat × Txt // q.1 ≤ d.cache.length ∧ q.2 = zee d.data (d.cache.take q.1) ∧ q.2.length = d.data.length } => ⟨[(1, true, .fn (.func 169) [] []), (5, true, .osl 1 1 (List.length d.data) 0 (List.length d.data)), (12, true, .d (.sl 2 (d.cache.map putD))), (13, true, .d (.int .i64 d.cache.length)), (14, true, .d (.int .i64 q.1.1))], [(1, .arr 1 (zy q.1.2)), (0, (.var [.d (.str d.data), .d (.sl 2 (d.cache.map putD)), .d (.int .i64 d.fuse), .d (.bool d.off), .d (.sl 1 (d.bad.map intD))]))], some []⟩) (fun q => d.cache.length - q.1.1) ⟨(0, d.data), Nat.zero_le _, rfl, rfl⟩ (by simp only [AS.le, leT, leH, zr, AsgK, AV.le, AV.leL, AObj.le, inH, idsT, idsH, AV.ids, AV.idsL, AV.idsR, AObj.ids, lk, hget, go_sem, aeq, aeq.aeqF, simprocAttr] <;> and_intros <;> rfl) (fun q => ?_)
 obtain ⟨⟨i, b⟩, hi, hb, hbl⟩ := q
 simp only at hi hb hbl ⊢
 rcases zad putD d.cache i hi with ⟨⟨m, s⟩, hq, hlt, hcmp, hrow, hdr, htk⟩ | ⟨hend, hcmp⟩
 ·simp only [putD] at hrow
  obtain ⟨p1, p2, p3⟩ := zvy hf hq
  simp only at p1 p2 p3
  have hwi := zP (i := i) (by omega)
  have hwm : IntKind.i64.wrap (m * 64) = m * 64 := zD (by omega) (by omega)
  have hst := zo4 (b := d.data) hq
  rw [← hb] at hst
  have hll : (lay b (m * 64).toNat s).length = b.length := zo3 (by omega)
  have hb0 : (zy b).length = d.data.length := by rw [zy, List.length_map, hbl]
  repeat' (first | ((first | refine za tabL (zdw) (fun K hK => ?_) | refine zc tabL (zdw) ?_ | refine ze tabL (zdw) mx (fun K hK => ?_) | refine zj tabL (zdw) mx ?_ | refine zh ?_ | refine zi ?_ | refine zn ?_); simp only [go_sem, aeq, aeq.aeqF, simprocAttr, hcmp, hrow, hwm, zr1, hb0, Tryz.results168]) | refine zq (fun K hK => ?_) | refine zo ?_ | refine zf rfl ?_ | refine zg rfl ?_ | refine zp rfl (fun hc => ?_) (fun hc => ?_) | (refine hK _ ?_; clear hK K) | with_reducible refine And.intro ?_ ?_ | (refine (show zt _ _ = true from ?_); kernel_rfl) | omega | assumption | clear hK K)
  ·rw [zy, List.length_map]; omega
  ·exact ⟨⟨(i + 1, lay b (m * 64).toNat s), by omega, hst.symm, hll.trans hbl⟩, by simp only [AS.le, leT, leH, zr, AsgK, AV.le, AV.leL, AObj.le, inH, idsT, idsH, AV.ids, AV.idsL, AV.idsR, AObj.ids, lk, hget, go_sem, aeq, aeq.aeqF, simprocAttr, hwi], by simp; omega⟩
 ·have hb1 : (d.data.length = (zy b).length) = True := eq_true (by rw [zy, List.length_map, hbl])
  have hb2 : List.take d.data.length (zy b) = zy b := List.take_of_length_le (by rw [zy, List.length_map, hbl]; omega)
  repeat' (first | ((first | refine za noTab (zb _) (fun K hK => ?_) | refine zc noTab (zb _) ?_ | refine ze noTab (zb _) mx (fun K hK => ?_) | refine zj noTab (zb _) mx ?_ | refine zh ?_ | refine zi ?_ | refine zn ?_); simp only [go_sem, aeq, aeq.aeqF, simprocAttr, hcmp, hb1, hb2, if_true, zat, zbk, Tryz.results168]) | refine zq (fun K hK => ?_) | refine zo ?_ | refine zf rfl ?_ | refine zg rfl ?_ | refine zp rfl (fun hc => ?_) (fun hc => ?_) | (refine hK _ ?_; clear hK K) | with_reducible refine And.intro ?_ ?_ | (refine (show zt _ _ = true from ?_); kernel_rfl) | omega | assumption | clear hK K)
  rw [hb, hend, zd0]
noncomputable def zdx : Ent Tryz.prog := .ofL 168 (consL zM (consL (fnT 169 nilL) nilL)) (fun (d, _, _) => (DiskOk d) ∧ (d.cache.all (putOk d) = true)) (fun (d, _, _) => .d (.str (zee d.data d.cache))) (fun (d, _, _) hp => ⟨rfl, zmH d hp.1 hp.2⟩)
attribute [go_sem] zdx
noncomputable def tabFl : Tab := tabOf [zdv, zdx]
theorem zlG : TabOk Tryz.prog tabFl := zz _
@[go_sem] theorem zr7 (args : List AV) : tabFl 167 args = (zdv).e args := rfl
@[go_sem] theorem znU (args : List AV) : tabFl 168 args = (zdx).e args := rfl
theorem zkA (d : Disk) (hd : DiskOk d) (hf : d.cache.all (putOk d) = true) : ACall Tryz.prog 111 0 [diskA d] [] (fun r _ => r = .tup [diskA (dflush d).1, .d (.int .i64 (dflush d).2)]) := by
 refine zA ?_
 refine zk Tryz.func111 rfl (zu Tryz.func111 (by kernel_rfl) rfl) Tryz.ntmps111 (by simp) (fun base => ?_)
 repeat' (first | ((first | refine za tabFl (zlG) (fun K hK => ?_) | refine zc tabFl (zlG) ?_ | refine zh ?_ | refine zi ?_ | refine zn ?_); simp only [go_sem, aeq, aeq.aeqF, simprocAttr, Tryz.results111]) | refine zq (fun K hK => ?_) | refine zf rfl ?_ | refine zg rfl ?_ | refine zp rfl (fun hc => ?_) (fun hc => ?_) | (refine hK _ ?_; clear hK K) | refine fun (nb : Bool) (hnb : nb = true → _) => ?_ | with_reducible refine And.intro ?_ ?_ | omega | assumption | clear hK K)
 all_goals first | (simp_all [dflush]; done) | skip
 all_goals by_cases h0 : d.fuse = 0
 all_goals by_cases h2 : 0 < d.fuse
 all_goals simp_all [dflush, dburn, burnt]
 all_goals simp only [if_neg (show ¬ 0 < d.fuse by omega)]
 all_goals simp [*]
noncomputable def zcU : Ent Tryz.prog := .ofL 111 (consL zM nilL) (fun (d, _) => (DiskOk d) ∧ (d.cache.all (putOk d) = true)) (fun (d, _) => .tup [diskA (dflush d).1, .d (.int .i64 (dflush d).2)]) (fun (d, _) hp => ⟨rfl, zkA d hp.1 hp.2⟩)
attribute [go_sem] zcU
open Go Go.Proofs
theorem zmK (rows : List (List D)) : ACall Tryz.prog 140 0 [.d (.sl 2 rows)] [] (fun r _ => r = .fn (.func 182) [] [.dp [.d (.sl 2 rows)]]) := by
 refine zA ?_
 refine zk Tryz.func140 rfl (zu Tryz.func140 (by kernel_rfl) rfl) Tryz.ntmps140 (by simp) (fun base => ?_)
 repeat' (first | ((first | refine za noTab (zb _) (fun K hK => ?_) | refine zc noTab (zb _) ?_ | refine zh ?_ | refine zi ?_ | refine zn ?_); simp only [go_sem, aeq, aeq.aeqF, simprocAttr, Tryz.results140]) | refine zq (fun K hK => ?_) | (refine hK _ ?_; clear hK K) | refine fun (nb : Bool) (hnb : nb = true → _) => ?_ | with_reducible refine And.intro ?_ ?_ | omega | assumption | clear hK K)
noncomputable def zdy : Ent Tryz.prog := Ent.of 140 (fun x : (List (List D)) => (fun (rows : List (List D)) => ([.d (.sl 2 rows)] : List AV)) x) (fun x : (List (List D)) => (fun (rows : List (List D)) => (True : Prop)) x) (fun x : (List (List D)) => (fun (rows : List (List D)) => (.fn (.func 182) [] [.dp [.d (.sl 2 rows)]] : AV)) x) (fun x hp => ⟨rfl, zmK x⟩)
theorem zjy : ∀ x y : (List (List D)), (fun x : (List (List D)) => (fun (rows : List (List D)) => ([.d (.sl 2 rows)] : List AV)) x) x = (fun x : (List (List D)) => (fun (rows : List (List D)) => ([.d (.sl 2 rows)] : List AV)) x) y → x = y := by
 intro x y h
 skip
 simpa only [List.cons.injEq, AV.d.injEq, AV.agg.injEq, AV.dp.injEq, AV.fn.injEq, AV.tup.injEq, AV.asl.injEq, Int.natCast_inj, D.int.injEq, D.str.injEq, D.bool.injEq, D.sl.injEq, Prod.mk.injEq, and_true, true_and, and_assoc] using h
@[go_sem] theorem zr9 (rows : List (List D)) : (zdy).e [.d (.sl 2 rows)] = some (True, .fn (.func 182) [] [.dp [.d (.sl 2 rows)]]) := Ent.of_app zjy (rows)
theorem zuw (d : Disk) : ACall Tryz.prog 91 0 [diskA d] [] (fun r _ => r = .fn (.func 139) [] [.dp (diskC d)]) := by
 refine zA ?_
 refine zk Tryz.func91 rfl (zu Tryz.func91 (by kernel_rfl) rfl) Tryz.ntmps91 (by simp) (fun base => ?_)
 repeat' (first | ((first | refine za noTab (zb _) (fun K hK => ?_) | refine zc noTab (zb _) ?_ | refine zh ?_ | refine zi ?_ | refine zn ?_); simp only [go_sem, aeq, aeq.aeqF, simprocAttr, Tryz.results91]) | refine zq (fun K hK => ?_) | (refine hK _ ?_; clear hK K) | refine fun (nb : Bool) (hnb : nb = true → _) => ?_ | with_reducible refine And.intro ?_ ?_ | omega | assumption | clear hK K)
noncomputable def zg5 : Ent Tryz.prog := .ofL 91 (consL zM nilL) (fun (d, _) => True) (fun (d, _) => .fn (.func 139) [] [.dp (diskC d)]) (fun (d, _) hp => ⟨rfl, zuw d⟩)
attribute [go_sem] zg5
def putAV (q : PutR) : AV := .agg [.d (.int .i64 q.1), .d (.str q.2)]
def backs : List PutR → List (Nat × PutR)
 | [] => []
 | q :: r => (r.length, q) :: backs r
def zaP (x : Nat × PutR) : List AV := [.d (.int .i64 x.1), putAV x.2]
abbrev Bst (l : List PutR) := { q : Nat × List (List AV) // q.1 ≤ l.length ∧ q.2 ++ (backs (l.take q.1).reverse).map zaP = (backs l.reverse).map zaP }
theorem zkB (l : List PutR) (hl : l.length ≤ 9223372036854775807) (fl : Nat) : AIter Tryz.prog 182 fl [] [.dp [.d (.sl 2 (l.map putD))]] [] ((backs l.reverse).map zaP) (fun g h' => (∀ xs, g = some xs → xs = (backs l.reverse).map zaP) ∧ h' = []) := by
 refine zaE Tryz.func182 rfl (zu Tryz.func182 (by kernel_rfl) rfl) Tryz.ntmps182 rfl (by simp) (fun base y => ?_)
 repeat' (first | (refine zN (fun i => decide (i < fl)) (by simp only [inH, idsH, hsel, AV.ids, AV.idsL, AV.idsR, AObj.ids, hget, go_sem, aeq, aeq.aeqF, simprocAttr]) ?_; simp only [go_sem, aeq, aeq.aeqF, simprocAttr, hsel, keepT]; refine zn ?_; simp only [go_sem, aeq, aeq.aeqF, simprocAttr]) | ((first | refine zv noTab (zb _) (fun K hK => ?_) | refine zB noTab (zb _) ?_ | refine zh ?_ | refine zi ?_ | refine zn ?_); simp only [go_sem, aeq, aeq.aeqF, simprocAttr]) | refine zq (fun K hK => ?_) | refine zo ?_ | refine zf rfl ?_ | refine zg rfl ?_ | refine zp rfl (fun hc => ?_) (fun hc => ?_) | (refine hK _ ?_; clear hK K) | ((first | refine (show AS.le _ _ from ?_) | refine (show leH _ _ from ?_) | refine (show inH _ _ from ?_)); simp only [AS.le, leT, leH, zr, AsgK, AV.le, AV.leL, AObj.le, inH, idsT, idsH, AV.ids, AV.idsL, AV.idsR, AObj.ids, lk, hget, go_sem, aeq, aeq.aeqF, simprocAttr]) | refine fun (r2 : Rnd _) => ?_ | with_reducible refine And.intro ?_ ?_ | exact ‹_ <+: _› | omega | assumption | clear hK K)
 have hw0 : IntKind.i64.wrap ((l.length : Int) - 1) = (l.length : Int) - 1 := zD (by omega) (by omega)
 refine zL (fun q : Bst l => ⟨[(0, true, .fn (.yield y.yl) [] []), (1, true, .dp [.d (.sl 2 (l.map putD))]), (3, true, .d (.int .i64 ((q.1.1 : Int) - 1)))], [], some q.1.2⟩) (fun q => q.1.1) ⟨(l.length, []), Nat.le_refl _, by rw [zd0]; rfl⟩ (by simp only [AS.le, leT, leH, zr, AsgK, AV.le, AV.leL, AObj.le, inH, idsT, idsH, AV.ids, AV.idsL, AV.idsR, AObj.ids, lk, hget, go_sem, aeq, aeq.aeqF, simprocAttr, hw0]) (fun q => ?_)
 obtain ⟨⟨i, xs⟩, hi, hf⟩ := q
 simp only at hi hf ⊢
 cases i with
 | zero =>
  have hz : decide ((0 : Int) ≤ ((0 : Nat) : Int) - 1) = false := by decide
  repeat' (first | (refine zN (fun i => decide (i < fl)) (by simp only [inH, idsH, hsel, AV.ids, AV.idsL, AV.idsR, AObj.ids, hget, go_sem, aeq, aeq.aeqF, simprocAttr]) ?_; simp only [go_sem, aeq, aeq.aeqF, simprocAttr, hz, hsel, keepT]; refine zn ?_; simp only [go_sem, aeq, aeq.aeqF, simprocAttr, hz]) | ((first | refine zv noTab (zb _) (fun K hK => ?_) | refine zB noTab (zb _) ?_ | refine zh ?_ | refine zi ?_ | refine zn ?_); simp only [go_sem, aeq, aeq.aeqF, simprocAttr, hz]) | refine zq (fun K hK => ?_) | refine zo ?_ | refine zf rfl ?_ | refine zg rfl ?_ | refine zp rfl (fun hc => ?_) (fun hc => ?_) | (refine hK _ ?_; clear hK K) | ((first | refine (show AS.le _ _ from ?_) | refine (show leH _ _ from ?_) | refine (show inH _ _ from ?_)); simp only [AS.le, leT, leH, zr, AsgK, AV.le, AV.leL, AObj.le, inH, idsT, idsH, AV.ids, AV.idsL, AV.idsR, AObj.ids, lk, hget, go_sem, aeq, aeq.aeqF, simprocAttr, hz]) | refine fun (r2 : Rnd _) => ?_ | with_reducible refine And.intro ?_ ?_ | exact ‹_ <+: _› | omega | assumption | clear hK K)
  rintro zs rfl
  rw [← hf]; simp [backs]
 | succ i =>
  have hz : decide ((0 : Int) ≤ ((i + 1 : Nat) : Int) - 1) = true := decide_eq_true (by omega)
  have hi1 : (((i + 1 : Nat) : Int) - 1) = (i : Int) := by omega
  have hwi : IntKind.i64.wrap ((i : Int) - 1) = (i : Int) - 1 := zD (by omega) (by omega)
  obtain ⟨⟨n, s⟩, hq⟩ := zae (l := l) (i := i) (by omega)
  have hrow := zbi (g := putD) hq
  simp only [putD] at hrow
  have hil : (l.take i).length = i := by rw [List.length_take]; omega
  rw [zcn hq, List.reverse_append, List.reverse_singleton, List.singleton_append, backs, List.length_reverse, hil] at hf
  have hp : (xs ++ [zaP (i, n, s)]) <+: (backs l.reverse).map zaP := by rw [← hf]; simp
  simp only [zaP, putAV] at hp
  repeat' (first | (refine zN (fun i => decide (i < fl)) (by simp only [inH, idsH, hsel, AV.ids, AV.idsL, AV.idsR, AObj.ids, hget, go_sem, aeq, aeq.aeqF, simprocAttr]) ?_; simp only [go_sem, aeq, aeq.aeqF, simprocAttr, hz, hi1, hrow, Int.toNat_natCast, hsel, keepT]; refine zn ?_; simp only [go_sem, aeq, aeq.aeqF, simprocAttr, hz, hi1, hrow, Int.toNat_natCast]) | ((first | refine zv noTab (zb _) (fun K hK => ?_) | refine zB noTab (zb _) ?_ | refine zh ?_ | refine zi ?_ | refine zn ?_); simp only [go_sem, aeq, aeq.aeqF, simprocAttr, hz, hi1, hrow, Int.toNat_natCast]) | refine zq (fun K hK => ?_) | refine zo ?_ | refine zf rfl ?_ | refine zg rfl ?_ | refine zp rfl (fun hc => ?_) (fun hc => ?_) | (refine hK _ ?_; clear hK K) | ((first | refine (show AS.le _ _ from ?_) | refine (show leH _ _ from ?_) | refine (show inH _ _ from ?_)); simp only [AS.le, leT, leH, zr, AsgK, AV.le, AV.leL, AObj.le, inH, idsT, idsH, AV.ids, AV.idsL, AV.idsR, AObj.ids, lk, hget, go_sem, aeq, aeq.aeqF, simprocAttr, hz, hi1, hrow, Int.toNat_natCast]) | refine fun (r2 : Rnd _) => ?_ | with_reducible refine And.intro ?_ ?_ | exact ‹_ <+: _› | omega | assumption | clear hK K)
  exact ⟨⟨(i, xs ++ [zaP (i, n, s)]), by omega, by rw [← hf]; simp⟩, by simp only [AS.le, leT, leH, zr, AsgK, AV.le, AV.leL, AObj.le, inH, idsT, idsH, AV.ids, AV.idsL, AV.idsR, AObj.ids, lk, hget, go_sem, aeq, aeq.aeqF, simprocAttr, hwi, zaP, putAV], by simp⟩
def zbX (q : PutR) : List AV := [putAV q]
theorem zjz : ∀ l : List PutR, (backs l).map (fun x => x.2) = l
 | [] => rfl
 | q :: l => by rw [backs, List.map_cons, zjz l]
theorem zlH (l : List PutR) : ((backs l).map zaP).map (fun x => x.drop 1) = l.map zbX := by
 have : (backs l).map zaP = (backs l).map (fun x => .d (.int .i64 x.1) :: zbX x.2) := rfl
 rw [this, List.map_map]
 have h2 : (fun x : List AV => x.drop 1) ∘ (fun x : Nat × PutR => AV.d (.int .i64 x.1) :: zbX x.2) = zbX ∘ (fun x => x.2) := rfl
 rw [h2, ← List.map_map, zjz]
theorem zsa {l : List PutR} {xs : List (List AV)} {x : Nat × PutR} (h : (xs ++ [zaP x]) <+: (backs l).map zaP) : (xs.map (fun x => x.drop 1) ++ [zbX x.2]) <+: l.map zbX := by
 have := h.map (fun x => x.drop 1)
 rw [zlH, List.map_append] at this
 exact this
noncomputable def tabBk : Tab := tabOf [zdy]
theorem zlI : TabOk Tryz.prog tabBk := zz _
@[go_sem] theorem znV (args : List AV) : tabBk 140 args = (zdy).e args := rfl
theorem zkC (d : Disk) (hd : DiskOk d) : AIter Tryz.prog 139 100 [] [.dp (diskC d)] [] (d.cache.reverse.map zbX) (fun g h' => (∀ xs, g = some xs → xs = d.cache.reverse.map zbX) ∧ h' = []) := by
 refine zaE Tryz.func139 rfl (zu Tryz.func139 (by kernel_rfl) rfl) Tryz.ntmps139 rfl (by simp) (fun base y => ?_)
 refine zg4 ?_
 repeat' (first | (refine zN (fun i => decide (i < 100)) (by simp only [inH, idsH, hsel, AV.ids, AV.idsL, AV.idsR, AObj.ids, hget, go_sem, aeq, aeq.aeqF, simprocAttr]) ?_; simp only [go_sem, aeq, aeq.aeqF, simprocAttr, hsel, keepT]; refine zn ?_; simp only [go_sem, aeq, aeq.aeqF, simprocAttr]) | ((first | refine zv tabBk (zlI) (fun K hK => ?_) | refine zB tabBk (zlI) ?_ | refine zh ?_ | refine zi ?_ | refine zn ?_); simp only [go_sem, aeq, aeq.aeqF, simprocAttr]) | refine zq (fun K hK => ?_) | refine zo ?_ | refine zf rfl ?_ | refine zg rfl ?_ | refine zp rfl (fun hc => ?_) (fun hc => ?_) | (refine hK _ ?_; clear hK K) | ((first | refine (show AS.le _ _ from ?_) | refine (show leH _ _ from ?_) | refine (show inH _ _ from ?_)); simp only [AS.le, leT, leH, zr, AsgK, AV.le, AV.leL, AObj.le, inH, idsT, idsH, AV.ids, AV.idsL, AV.idsR, AObj.ids, lk, hget, go_sem, aeq, aeq.aeqF, simprocAttr]) | refine fun (r2 : Rnd _) => ?_ | with_reducible refine And.intro ?_ ?_ | exact ‹_ <+: _› | omega | assumption | clear hK K)
 obtain ⟨I, hI⟩ : ∃ I : List (List AV) → AHeap × Option (List (List AV)), I = fun xs => ([(100, .var [.fn (.yield y.yl) [] []])], some (xs.map (fun x => x.drop 1))) := ⟨_, rfl⟩
 obtain ⟨G, hG⟩ : ∃ G : List (List AV) → Prop, G = fun _ => True := ⟨_, rfl⟩
 obtain ⟨J, hJ⟩ : ∃ J : Code → AHeap → Option (List (List AV)) → Prop, J = fun c h g => c = .ret ∧ h = [(100, .var [.fn (.yield y.yl) [] []])] ∧ g = none := ⟨_, rfl⟩
 refine za0 200 G I J (zkB d.cache hd.cache 200) (by simp only [go_sem, aeq, aeq.aeqF, simprocAttr]) rfl (zT rfl) (by simp [cxOf, cxY]) rfl (by rw [hG]; first | trivial | rfl | simp) (by rw [hI]; simp only [AS.le, leT, leH, zr, AsgK, AV.le, AV.leL, AObj.le, inH, idsT, idsH, AV.ids, AV.idsL, AV.idsR, AObj.ids, lk, hget, go_sem, aeq, aeq.aeqF, simprocAttr] <;> simp [AV.leL, AV.le]) (by rw [hI]; simp only [AS.le, leT, leH, zr, AsgK, AV.le, AV.leL, AObj.le, inH, idsT, idsH, AV.ids, AV.idsL, AV.idsR, AObj.ids, lk, hget, go_sem, aeq, aeq.aeqF, simprocAttr] <;> simp) (by rw [hI] <;> rfl) (by intro x hx; obtain ⟨q, _, rfl⟩ := List.mem_map.1 hx; rfl) (by intro t ht; simp at ht; first | (rcases ht with rfl | rfl <;> simp [cxOf, cxY] <;> done) | (subst ht; simp [cxOf, cxY])) ?_ ?_ ?_
 ·intro xs x hpre hgd l1 r1
  obtain ⟨⟨i, n, s⟩, hq, rfl⟩ := List.mem_map.1 (hpre.subset (List.mem_append_right _ (List.mem_singleton.2 rfl)))
  have hp := zsa hpre
  simp only [zaP, putAV, zbX] at hp ⊢
  refine aw_le ⟨[(9, true, .agg [.d (.int .i64 n), .d (.str s)]), (2, true, .vp 100 0)], [(100, .var [.fn (.yield y.yl) [] []])], some (xs.map (fun x => x.drop 1))⟩ (by rw [hI]; simp only [AS.le, leT, leH, zr, AsgK, AV.le, AV.leL, AObj.le, inH, idsT, idsH, AV.ids, AV.idsL, AV.idsR, AObj.ids, lk, hget, go_sem, aeq, aeq.aeqF, simprocAttr]) ?_
  repeat' (first | (refine zN (fun i => decide (i < 200)) (by simp only [inH, idsH, hsel, AV.ids, AV.idsL, AV.idsR, AObj.ids, hget, go_sem, aeq, aeq.aeqF, simprocAttr]) ?_; simp only [go_sem, aeq, aeq.aeqF, simprocAttr, hI, hsel, keepT]; refine zn ?_; simp only [go_sem, aeq, aeq.aeqF, simprocAttr, hI]) | ((first | refine zv noTab (zb _) (fun K hK => ?_) | refine zB noTab (zb _) ?_ | refine zh ?_ | refine zi ?_ | refine zn ?_); simp only [go_sem, aeq, aeq.aeqF, simprocAttr, hI]) | refine zq (fun K hK => ?_) | refine zo ?_ | refine zf rfl ?_ | refine zg rfl ?_ | refine zp rfl (fun hc => ?_) (fun hc => ?_) | (refine hK _ ?_; clear hK K) | ((first | refine (show AS.le _ _ from ?_) | refine (show leH _ _ from ?_) | refine (show inH _ _ from ?_)); simp only [AS.le, leT, leH, zr, AsgK, AV.le, AV.leL, AObj.le, inH, idsT, idsH, AV.ids, AV.idsL, AV.idsR, AObj.ids, lk, hget, go_sem, aeq, aeq.aeqF, simprocAttr, hI]) | refine fun (r2 : Rnd _) => ?_ | with_reducible refine And.intro ?_ ?_ | exact ‹_ <+: _› | omega | assumption | clear hK K)
  ·rw [hG]; trivial
  ·simp
  ·rw [hJ]; exact ⟨rfl, rfl, rfl⟩
 ·intro _
  rw [hI]
  simp only [go_sem, aeq, aeq.aeqF, simprocAttr]
  rintro zs rfl
  exact zlH _
 ·rw [hJ]
  rintro c h3 g3 ⟨rfl, rfl, rfl⟩
  repeat' (first | (refine zN (fun i => decide (i < 100)) (by simp only [inH, idsH, hsel, AV.ids, AV.idsL, AV.idsR, AObj.ids, hget, go_sem, aeq, aeq.aeqF, simprocAttr]) ?_; simp only [go_sem, aeq, aeq.aeqF, simprocAttr, hsel, keepT]; refine zn ?_; simp only [go_sem, aeq, aeq.aeqF, simprocAttr]) | ((first | refine zv noTab (zb _) (fun K hK => ?_) | refine zB noTab (zb _) ?_ | refine zh ?_ | refine zi ?_ | refine zn ?_); simp only [go_sem, aeq, aeq.aeqF, simprocAttr]) | refine zq (fun K hK => ?_) | refine zo ?_ | refine zf rfl ?_ | refine zg rfl ?_ | refine zp rfl (fun hc => ?_) (fun hc => ?_) | (refine hK _ ?_; clear hK K) | ((first | refine (show AS.le _ _ from ?_) | refine (show leH _ _ from ?_) | refine (show inH _ _ from ?_)); simp only [AS.le, leT, leH, zr, AsgK, AV.le, AV.leL, AObj.le, inH, idsT, idsH, AV.ids, AV.idsL, AV.idsR, AObj.ids, lk, hget, go_sem, aeq, aeq.aeqF, simprocAttr]) | refine fun (r2 : Rnd _) => ?_ | with_reducible refine And.intro ?_ ?_ | exact ‹_ <+: _› | omega | assumption | clear hK K)
def hitI (at_ : Int) : List AV → Bool
 | [.agg [.d (.int .i64 n), _]] => n == at_
 | _ => false
theorem ziI (at_ : Int) : ∀ l : List PutR, (l.map zbX).any (hitI at_) = l.any (isPut at_)
 | [] => rfl
 | q :: l => by rw [List.map_cons, List.any_cons, List.any_cons, ziI at_ l]; rfl
noncomputable def tabRd : Tab := tabOf [zbN, zaL, zg5]
theorem zgs : TabOk Tryz.prog tabRd := zz _
@[go_sem] theorem ztU (args : List AV) : tabRd 89 args = (zbN).e args := rfl
@[go_sem] theorem zke (args : List AV) : tabRd 90 args = (zaL).e args := rfl
@[go_sem] theorem zsb (args : List AV) : tabRd 91 args = (zg5).e args := rfl
theorem zmL (d : Disk) (at_ : Int) (hd : DiskOk d) : ACall Tryz.prog 32 0 [diskA d, .d (.int .i64 at_)] [] (fun r _ => r = .tup [.d (.str (dread d at_).1), .d (.int .i64 (dread d at_).2)]) := by
 refine zk Tryz.func32 rfl (zu Tryz.func32 (by kernel_rfl) rfl) Tryz.ntmps32 (by simp) (fun base => ?_)
 have hbl := hd.bad
 have hdl := hd.data
 repeat' ((fail_if_success refine hds 7 (by rfl) ?_); first | ((first | refine za tabRd (zgs) (fun K hK => ?_) | refine zc tabRd (zgs) ?_ | refine zh ?_ | refine zi ?_ | refine zn ?_ | refine zal ?_); simp only [go_sem, aeq, aeq.aeqF, simprocAttr, Tryz.results32]) | refine zq (fun K hK => ?_) | refine zo ?_ | refine zan ?_ | refine zf rfl ?_ | refine zg rfl ?_ | refine zp rfl (fun hc => ?_) (fun hc => ?_) | (refine hK _ ?_; clear hK K) | ((first | refine (show AS.le _ _ from ?_) | refine (show leH _ _ from ?_) | refine (show inH _ _ from ?_)); simp only [AS.le, leT, leH, zr, AsgK, AV.le, AV.leL, AObj.le, inH, idsT, idsH, AV.ids, AV.idsL, AV.idsR, AObj.ids, lk, hget, go_sem, aeq, aeq.aeqF, simprocAttr]) | refine fun (r2 : Rnd _) => ?_ | with_reducible refine And.intro ?_ ?_ | exact ‹_ <+: _› | omega | assumption | clear hK K)
 all_goals first | (simp_all [dread]; done) | skip
 have ht : there d at_ = true := by simp_all
 obtain ⟨ht0, ht1⟩ := there_iff.mp ht
 have hm : IntKind.i64.wrap (at_ * 64) = at_ * 64 := zD (by omega) (by omega)
 have hr : dread d at_ = (sees d at_, 0) := by simp_all [dread]
 repeat' (first | ((first | refine za tabRd (zgs) (fun K hK => ?_) | refine zc tabRd (zgs) ?_ | refine zh ?_ | refine zi ?_ | refine zn ?_ | refine zal ?_); simp only [go_sem, aeq, aeq.aeqF, simprocAttr, hm, Tryz.results32]) | refine zq (fun K hK => ?_) | refine zo ?_ | refine zan ?_ | refine zf rfl ?_ | refine zg rfl ?_ | refine zp rfl (fun hc => ?_) (fun hc => ?_) | (refine hK _ ?_; clear hK K) | ((first | refine (show AS.le _ _ from ?_) | refine (show leH _ _ from ?_) | refine (show inH _ _ from ?_)); simp only [AS.le, leT, leH, zr, AsgK, AV.le, AV.leL, AObj.le, inH, idsT, idsH, AV.ids, AV.idsL, AV.idsR, AObj.ids, lk, hget, go_sem, aeq, aeq.aeqF, simprocAttr, hm]) | refine fun (r2 : Rnd _) => ?_ | with_reducible refine And.intro ?_ ?_ | exact ‹_ <+: _› | omega | assumption | clear hK K)
 ·rw [List.length_drop]; omega
 obtain ⟨S0, hS0⟩ : ∃ S0, S0 = (d.data.drop (at_ * 64).toNat).take 64 := ⟨_, rfl⟩
 rw [← hS0]
 obtain ⟨I, hI⟩ : ∃ I : List (List AV) → AHeap × Option (List (List AV)), I = fun xs => ([(2, .var [.d (.str S0)]), (1, .var [.d (.int .i64 at_)]), (0, (.var [.d (.str d.data), .d (.sl 2 (d.cache.map putD)), .d (.int .i64 d.fuse), .d (.bool d.off), .d (.sl 1 (d.bad.map intD))]))], some []) := ⟨_, rfl⟩
 obtain ⟨G, hG⟩ : ∃ G : List (List AV) → Prop, G = fun xs => xs.any (hitI at_) = false := ⟨_, rfl⟩
 obtain ⟨J, hJ⟩ : ∃ J : Code → AHeap → Option (List (List AV)) → Prop, J = fun c h g => c = .exit 1 ∧ g = some [] ∧ ∃ q, d.cache.reverse.find? (isPut at_) = some q ∧ h = [(100, .var [.d (.int .i64 q.1), .d (.str q.2)]), (2, .var [.d (.str q.2)]), (1, .var [.d (.int .i64 at_)]), (0, (.var [.d (.str d.data), .d (.sl 2 (d.cache.map putD)), .d (.int .i64 d.fuse), .d (.bool d.off), .d (.sl 1 (d.bad.map intD))]))] := ⟨_, rfl⟩
 refine za0 100 G I J (zkC d hd) (by simp only [go_sem, aeq, aeq.aeqF, simprocAttr]) rfl (zT rfl) (by simp [cxOf, cxY]) rfl (by rw [hG]; first | trivial | rfl | simp) (by rw [hI]; simp only [AS.le, leT, leH, zr, AsgK, AV.le, AV.leL, AObj.le, inH, idsT, idsH, AV.ids, AV.idsL, AV.idsR, AObj.ids, lk, hget, go_sem, aeq, aeq.aeqF, simprocAttr] <;> simp [AV.leL, AV.le]) (by rw [hI]; simp only [AS.le, leT, leH, zr, AsgK, AV.le, AV.leL, AObj.le, inH, idsT, idsH, AV.ids, AV.idsL, AV.idsR, AObj.ids, lk, hget, go_sem, aeq, aeq.aeqF, simprocAttr] <;> simp) (by rw [hI] <;> rfl) (by intro x hx; obtain ⟨q, _, rfl⟩ := List.mem_map.1 hx; rfl) (by intro t ht; simp at ht; first | (rcases ht with rfl | rfl <;> simp [cxOf, cxY] <;> done) | (subst ht; simp [cxOf, cxY])) ?_ ?_ ?_
 ·intro xs x hpre hgd l1 r1
  obtain ⟨ys, ⟨n, s⟩, zs, rfl, rfl, hl⟩ := zcV hpre
  rw [hG, ziI] at hgd
  simp only [zbX, putAV]
  refine aw_le ⟨[(28, true, .agg [.d (.int .i64 n), .d (.str s)]), (3, true, .vp 1 0), (6, true, .vp 2 0)], [(2, .var [.d (.str S0)]), (1, .var [.d (.int .i64 at_)]), (0, (.var [.d (.str d.data), .d (.sl 2 (d.cache.map putD)), .d (.int .i64 d.fuse), .d (.bool d.off), .d (.sl 1 (d.bad.map intD))]))], some []⟩ (by rw [hI]; simp only [AS.le, leT, leH, zr, AsgK, AV.le, AV.leL, AObj.le, inH, idsT, idsH, AV.ids, AV.idsL, AV.idsR, AObj.ids, lk, hget, go_sem, aeq, aeq.aeqF, simprocAttr]) ?_
  repeat' (first | ((first | refine za noTab (zb _) (fun K hK => ?_) | refine zc noTab (zb _) ?_ | refine zh ?_ | refine zi ?_ | refine zn ?_ | refine zal ?_); simp only [go_sem, aeq, aeq.aeqF, simprocAttr, hI, Tryz.results32]) | refine zq (fun K hK => ?_) | refine zo ?_ | refine zan ?_ | refine zf rfl ?_ | refine zg rfl ?_ | refine zp rfl (fun hc => ?_) (fun hc => ?_) | (refine hK _ ?_; clear hK K) | ((first | refine (show AS.le _ _ from ?_) | refine (show leH _ _ from ?_) | refine (show inH _ _ from ?_)); simp only [AS.le, leT, leH, zr, AsgK, AV.le, AV.leL, AObj.le, inH, idsT, idsH, AV.ids, AV.idsL, AV.idsR, AObj.ids, lk, hget, go_sem, aeq, aeq.aeqF, simprocAttr, hI]) | refine fun (r2 : Rnd _) => ?_ | with_reducible refine And.intro ?_ ?_ | exact ‹_ <+: _› | omega | assumption | clear hK K)
  ·rw [hJ]
   exact ⟨rfl, rfl, (n, s), by rw [hl]; exact zmJ hgd hc, rfl⟩
  ·rw [hG]
   show List.any (_ ++ _) _ = false
   rw [List.any_append, ziI, hgd]
   simpa [hitI] using hc
 ·intro hgd
  rw [hG, ziI] at hgd
  rw [hI]
  repeat' (first | ((first | refine za noTab (zb _) (fun K hK => ?_) | refine zc noTab (zb _) ?_ | refine zh ?_ | refine zi ?_ | refine zn ?_ | refine zal ?_); simp only [go_sem, aeq, aeq.aeqF, simprocAttr, Tryz.results32]) | refine zq (fun K hK => ?_) | refine zo ?_ | refine zan ?_ | refine zf rfl ?_ | refine zg rfl ?_ | refine zp rfl (fun hc => ?_) (fun hc => ?_) | (refine hK _ ?_; clear hK K) | ((first | refine (show AS.le _ _ from ?_) | refine (show leH _ _ from ?_) | refine (show inH _ _ from ?_)); simp only [AS.le, leT, leH, zr, AsgK, AV.le, AV.leL, AObj.le, inH, idsT, idsH, AV.ids, AV.idsL, AV.idsR, AObj.ids, lk, hget, go_sem, aeq, aeq.aeqF, simprocAttr]) | refine fun (r2 : Rnd _) => ?_ | with_reducible refine And.intro ?_ ?_ | exact ‹_ <+: _› | omega | assumption | clear hK K)
  rw [hr, sees, List.find?_eq_none.2 (fun x hx => by simpa using List.any_eq_false.1 hgd x hx), hS0]
 ·rw [hJ]
  rintro c h3 g3 ⟨rfl, rfl, ⟨n, s⟩, hq, rfl⟩
  repeat' (first | ((first | refine za noTab (zb _) (fun K hK => ?_) | refine zc noTab (zb _) ?_ | refine zh ?_ | refine zi ?_ | refine zn ?_ | refine zal ?_); simp only [go_sem, aeq, aeq.aeqF, simprocAttr, Tryz.results32]) | refine zq (fun K hK => ?_) | refine zo ?_ | refine zan ?_ | refine zf rfl ?_ | refine zg rfl ?_ | refine zp rfl (fun hc => ?_) (fun hc => ?_) | (refine hK _ ?_; clear hK K) | ((first | refine (show AS.le _ _ from ?_) | refine (show leH _ _ from ?_) | refine (show inH _ _ from ?_)); simp only [AS.le, leT, leH, zr, AsgK, AV.le, AV.leL, AObj.le, inH, idsT, idsH, AV.ids, AV.idsL, AV.idsR, AObj.ids, lk, hget, go_sem, aeq, aeq.aeqF, simprocAttr]) | refine fun (r2 : Rnd _) => ?_ | with_reducible refine And.intro ?_ ?_ | exact ‹_ <+: _› | omega | assumption | clear hK K)
  rw [hr, sees, hq]
noncomputable def zaT : Ent Tryz.prog := .ofL 32 (consL zM (consL (intT .i64) nilL)) (fun (d, at_, _) => DiskOk d) (fun (d, at_, _) => .tup [.d (.str (dread d at_).1), .d (.int .i64 (dread d at_).2)]) (fun (d, at_, _) hp => ⟨rfl, zmL d at_ hp⟩)
attribute [go_sem] zaT
open Go Go.Proofs
def putN (n : Nat) : Nat → Txt
 | 0 => []
 | k + 1 => putN (n / 256) k ++ [UInt8.ofNat n]
def takeN (l : Txt) : Nat := l.foldl (fun n c => n * 256 + c.toNat) 0
theorem zjA (l : Txt) (i : Nat) (b : UInt8) : (zy l).set i (zdl b) = zy (l.set i b) := by
 simp [zy, List.map_set]
theorem zbc (l : Txt) : (zy l).length = l.length := by simp [zy]
theorem zgd {b : Txt} {k : Nat} (hk : k < b.length) : (zy b).getD k [] = [.int .u8 (b.getD k 0).toNat] := by
 simp [zy, List.getD_eq_getElem?_getD, hk, zdl]
theorem zjB {b : Txt} {k : Nat} {x : Int} (hk : k < b.length) (c : UInt8) (hx : x = c.toNat) : (zy b).set k (((zy b).getD k []).set 0 (D.int .u8 x)) = zy (b.set k c) := by
 rw [zgd hk, List.set_cons_zero, hx]
 exact zjA b k c
theorem zsc {b : Txt} {k : Nat} (hk : k < b.length) (c : UInt8) : (b.set k c).drop k = c :: b.drop (k + 1) := by
 rw [List.drop_set, if_neg (by omega), Nat.sub_self, List.drop_eq_getElem_cons hk, List.set_cons_zero]
theorem zar (n k : Nat) : (putN n k).length = k := by
 induction k generalizing n with
 | zero => rfl
 | succ k ih => rw [putN, List.length_append, ih]; rfl
theorem zjC (n i : Nat) : putN n (i + 1) = UInt8.ofNat (n / 256 ^ i) :: putN n i := by
 induction i generalizing n with
 | zero => simp [putN]
 | succ i ih =>
  rw [putN, ih, putN, List.cons_append, Nat.div_div_eq_div_mul, Nat.pow_succ, Nat.mul_comm 256]
theorem ztV (n k : Nat) (hk : k ≤ 64) : ishr .u64 (n : Int) (k : Int) = ((n / 2 ^ k : Nat) : Int) := by
 unfold ishr
 rw [show min ((k : Int).toNat) IntKind.u64.bits = k by show min ((k : Int).toNat) 64 = k; omega]
 rw [Int.fdiv_eq_ediv_of_nonneg _ (Int.le_of_lt (Int.pow_pos (by decide)))]
 norm_cast
theorem u8_of (n : Nat) : IntKind.u8.wrap (n : Int) = ((UInt8.ofNat n).toNat : Int) := by
 rw [IntKind.wrap_u8]
 simp
theorem zsd {n : Int} (h0 : 0 ≤ n) {i : Nat} (hi : i ≤ 8) : IntKind.u8.wrap (ishr .u64 n ((8 * i : Nat) : Int)) = ((UInt8.ofNat (n.toNat / 256 ^ i)).toNat : Int) := by
 obtain ⟨m, rfl⟩ : ∃ m : Nat, n = m := ⟨n.toNat, by omega⟩
 rw [ztV m _ (by omega), u8_of, Int.toNat_natCast, Nat.pow_mul]
theorem zfB (l : Txt) (c : UInt8) : takeN (l ++ [c]) = takeN l * 256 + c.toNat := by
 simp [takeN, List.foldl_append]
theorem zlJ (l : Txt) : takeN l < 256 ^ l.length := by
 rcases List.eq_nil_or_concat l with rfl | ⟨l', c, rfl⟩
 ·decide
 ·rw [List.concat_eq_append, zfB, List.length_append, List.length_singleton, Nat.pow_succ]
  have := zlJ l'
  have := c.toNat_lt
  have h2 : takeN l' + 1 ≤ 256 ^ l'.length := by omega
  have := Nat.mul_le_mul_right 256 h2
  omega
termination_by l.length
decreasing_by subst_vars; simp
theorem zcW {l : Txt} {i : Nat} (h : l.length ≤ i) : takeN l < 256 ^ i := Nat.lt_of_lt_of_le (zlJ l) (Nat.pow_le_pow_right (by decide) h)
theorem zaH {x : Int} (h0 : 0 ≤ x) (h1 : x < 18446744073709551616) : IntKind.u64.wrap x = x := by
 rw [IntKind.wrap_u64]; omega
theorem zpg {l : Txt} {i : Nat} {c : UInt8} (hq : l[i]? = some c) (hi : i < 8) : IntKind.u64.wrap (IntKind.u64.wrap ((takeN (l.take i) : Nat) * 256) + IntKind.u64.wrap (c.toNat : Int)) = ((takeN (l.take (i + 1)) : Nat) : Int) := by
 have h1 : takeN (l.take i) < 256 ^ 7 := zcW (by rw [List.length_take]; omega)
 have h2 := c.toNat_lt
 rw [zaH (x := (takeN (l.take i) : Nat) * 256) (by omega) (by omega), zaH (x := (c.toNat : Int)) (by omega) (by omega), zaH (by omega) (by omega), zcn hq, zfB]
 omega
open Go Go.Proofs
def padS (s : Txt) (n : Int) : Txt × Int := if n < s.length ∨ 65536 < n then ([], 11) else (s ++ List.replicate (n - s.length).toNat 0, 0)
def overS (s : Txt) (at_ : Int) (t : Txt) : Txt × Int := if at_ < 0 ∨ (s.length : Int) - t.length < at_ then ([], 10) else (s.take at_.toNat ++ t ++ s.drop (at_ + t.length).toNat, 0)
def putS8 (n : Int) (size : Int) : Txt := if size < 1 ∨ 8 < size then [] else putN n.toNat size.toNat
def takeS (s : Txt) (size : Int) : Int × Txt × Int := if size < 1 ∨ 8 < size then (0, [], 25) else if (s.length : Int) < size then (0, [], 22) else ((takeN (s.take size.toNat) : Int), s.drop size.toNat, 0)
def nameB (c : UInt8) : Bool := decide (33 ≤ c.toNat) && decide (c.toNat ≤ 126)
def zbY (s : Txt) : Bool := s.all nameB && (s != [] && decide (s.length ≤ 8))
theorem zse (s : Txt) (n : Int) (hs : s.length ≤ 9223372036854775807) : ACall Tryz.prog 120 0 [.d (.str s), .d (.int .i64 n)] [] (fun r _ => r = .tup [.d (.str (padS s n).1), .d (.int .i64 (padS s n).2)]) := by
 refine zA ?_
 refine zk Tryz.func120 rfl (zu Tryz.func120 (by kernel_rfl) rfl) Tryz.ntmps120 (by simp) (fun base => ?_)
 by_cases h : n < s.length ∨ 65536 < n
 ·have hdec : (decide (n < (s.length : Int)) || decide (65536 < n)) = true := by simpa using h
  repeat' (first | ((first | refine za noTab (zb _) (fun K hK => ?_) | refine zc noTab (zb _) ?_ | refine zh ?_ | refine zi ?_ | refine zn ?_); simp only [go_sem, aeq, aeq.aeqF, simprocAttr, hdec, Tryz.results120]) | refine zq (fun K hK => ?_) | refine zf rfl ?_ | refine zg rfl ?_ | refine zp rfl (fun hc => ?_) (fun hc => ?_) | (refine hK _ ?_; clear hK K) | with_reducible refine And.intro ?_ ?_ | omega | assumption | refine fun (hg : (_ : Bool) = (_ : Bool)) => ?_ | clear hK K)
  rw [padS, if_pos h]
 ·have hdec : (decide (n < (s.length : Int)) || decide (65536 < n)) = false := by simpa using h
  have hm : IntKind.i64.wrap (n - s.length) = n - s.length := zD (by omega) (by omega)
  repeat' (first | ((first | refine za noTab (zb _) (fun K hK => ?_) | refine zc noTab (zb _) ?_ | refine zh ?_ | refine zi ?_ | refine zn ?_); simp only [go_sem, aeq, aeq.aeqF, simprocAttr, hdec, hm, zd3, zjs, zly, if_true, Tryz.results120]) | refine zq (fun K hK => ?_) | refine zf rfl ?_ | refine zg rfl ?_ | refine zp rfl (fun hc => ?_) (fun hc => ?_) | (refine hK _ ?_; clear hK K) | with_reducible refine And.intro ?_ ?_ | omega | assumption | refine fun (hg : (_ : Bool) = (_ : Bool)) => ?_ | clear hK K)
  ·exact zbk _
  ·rw [zat, List.length_replicate]; omega
  ·simp only [padS, if_neg h, zat]
noncomputable def zfC : Ent Tryz.prog := .ofL 120 (consL strT (consL (intT .i64) nilL)) (fun (s, n, _) => s.length ≤ 9223372036854775807) (fun (s, n, _) => .tup [.d (.str (padS s n).1), .d (.int .i64 (padS s n).2)]) (fun (s, n, _) hp => ⟨rfl, zse s n hp⟩)
attribute [go_sem] zfC
theorem zlK {a b c : Int} : (decide (a < 0) || decide (b < c) || decide (b - c < a)) = (decide (a < 0) || decide (b - c < a)) := by
 by_cases h1 : a < 0
 ·simp [h1]
 ·by_cases h2 : b < c
  ·rw [decide_eq_true h2, decide_eq_true (p := b - c < a) (by omega)]; simp
  ·rw [decide_eq_false h2]; simp
theorem zph (s : Txt) (at_ : Int) (t : Txt) (hs : s.length ≤ 9223372036854775807) (ht : t.length ≤ 9223372036854775807) : ACall Tryz.prog 23 0 [.d (.str s), .d (.int .i64 at_), .d (.str t)] [] (fun r _ => r = .tup [.d (.str (overS s at_ t).1), .d (.int .i64 (overS s at_ t).2)]) := by
 refine zk Tryz.func23 rfl (zu Tryz.func23 (by kernel_rfl) rfl) Tryz.ntmps23 (by simp) (fun base => ?_)
 have hm : IntKind.i64.wrap ((s.length : Int) - t.length) = (s.length : Int) - t.length := zD (by omega) (by omega)
 by_cases h : at_ < 0 ∨ (s.length : Int) - t.length < at_
 ·have hdec : (decide (at_ < 0) || decide ((s.length : Int) - t.length < at_)) = true := by simpa using h
  repeat' (first | ((first | refine za noTab (zb _) (fun K hK => ?_) | refine zc noTab (zb _) ?_ | refine ze noTab (zb _) mx (fun K hK => ?_) | refine zj noTab (zb _) mx ?_ | refine zh ?_ | refine zi ?_ | refine zn ?_); simp only [go_sem, aeq, aeq.aeqF, simprocAttr, hm, zlK, hdec, Tryz.results23]) | refine zq (fun K hK => ?_) | refine zf rfl ?_ | refine zg rfl ?_ | refine zp rfl (fun hc => ?_) (fun hc => ?_) | (refine hK _ ?_; clear hK K) | with_reducible refine And.intro ?_ ?_ | (refine (show zt _ _ = true from ?_); kernel_rfl) | omega | assumption | refine fun (hg : (_ : Bool) = (_ : Bool)) => ?_ | clear hK K)
  rw [overS, if_pos h]
 ·have hdec : (decide (at_ < 0) || decide ((s.length : Int) - t.length < at_)) = false := by simpa using h
  have hm2 : IntKind.i64.wrap (at_ + t.length) = at_ + t.length := zD (by omega) (by omega)
  repeat' (first | ((first | refine za noTab (zb _) (fun K hK => ?_) | refine zc noTab (zb _) ?_ | refine ze noTab (zb _) mx (fun K hK => ?_) | refine zj noTab (zb _) mx ?_ | refine zh ?_ | refine zi ?_ | refine zn ?_); simp only [go_sem, aeq, aeq.aeqF, simprocAttr, hm, zlK, hdec, hm2, Tryz.results23]) | refine zq (fun K hK => ?_) | refine zf rfl ?_ | refine zg rfl ?_ | refine zp rfl (fun hc => ?_) (fun hc => ?_) | (refine hK _ ?_; clear hK K) | with_reducible refine And.intro ?_ ?_ | (refine (show zt _ _ = true from ?_); kernel_rfl) | omega | assumption | refine fun (hg : (_ : Bool) = (_ : Bool)) => ?_ | clear hK K)
  ·rw [List.length_take]; omega
  ·simp; omega
  ·simp only [overS, if_neg h]
noncomputable def zeu : Ent Tryz.prog := .ofL 23 (consL strT (consL (intT .i64) (consL strT nilL))) (fun (s, at_, t, _) => (s.length ≤ 9223372036854775807) ∧ (t.length ≤ 9223372036854775807)) (fun (s, at_, t, _) => .tup [.d (.str (overS s at_ t).1), .d (.int .i64 (overS s at_ t).2)]) (fun (s, at_, t, _) hp => ⟨rfl, zph s at_ t hp.1 hp.2⟩)
attribute [go_sem] zeu
theorem zsf (n : Int) (size : Int) (h0 : 0 ≤ n) (h1 : n < 18446744073709551616) : ACall Tryz.prog 119 0 [.d (.int .u64 n), .d (.int .i64 size)] [] (fun r _ => r = .d (.str (putS8 n size))) := by
 refine zA ?_
 refine zk Tryz.func119 rfl (zu Tryz.func119 (by kernel_rfl) rfl) Tryz.ntmps119 (by simp) (fun base => ?_)
 by_cases h : size < 1 ∨ 8 < size
 ·have hdec : (decide (size < 1) || decide (8 < size)) = true := by simpa using h
  repeat' (first | ((first | refine za noTab (zb _) (fun K hK => ?_) | refine zc noTab (zb _) ?_ | refine zh ?_ | refine zi ?_ | refine zn ?_); simp only [go_sem, aeq, aeq.aeqF, simprocAttr, hdec, Tryz.results119]) | refine zq (fun K hK => ?_) | refine zo ?_ | refine zf rfl ?_ | refine zg rfl ?_ | refine zp rfl (fun hc => ?_) (fun hc => ?_) | (refine hK _ ?_; clear hK K) | with_reducible refine And.intro ?_ ?_ | omega | assumption | refine fun (hg : (_ : Bool) = (_ : Bool)) => ?_ | clear hK K)
  rw [putS8, if_pos h]
 ·have hdec : (decide (size < 1) || decide (8 < size)) = false := by simpa using h
  obtain ⟨z, rfl, hz8⟩ : ∃ z : Nat, size = (z : Int) ∧ z ≤ 8 := ⟨size.toNat, by omega, by omega⟩
  repeat' (first | ((first | refine za noTab (zb _) (fun K hK => ?_) | refine zc noTab (zb _) ?_ | refine zh ?_ | refine zi ?_ | refine zn ?_); simp only [go_sem, aeq, aeq.aeqF, simprocAttr, hdec, Int.toNat_natCast, Tryz.results119]) | refine zq (fun K hK => ?_) | refine zo ?_ | refine zf rfl ?_ | refine zg rfl ?_ | refine zp rfl (fun hc => ?_) (fun hc => ?_) | (refine hK _ ?_; clear hK K) | with_reducible refine And.intro ?_ ?_ | omega | assumption | refine fun (hg : (_ : Bool) = (_ : Bool)) => ?_ | clear hK K)
  refine zL (fun q : { q : Nat × Txt // q.1 ≤ z ∧ q.2.length = z ∧ q.2.drop (z - q.1) = putN n.toNat q.1 } => ⟨[(0, true, .d (.int .u64 n)), (1, true, .d (.int .i64 z)), (5, true, .osl 0 1 z 0 z), (6, true, .d (.int .i64 q.1.1))], [(0, .arr 1 (zy q.1.2))], some []⟩) (fun q => z - q.1.1) ⟨(0, List.replicate z 0), Nat.zero_le _, by simp, by simp [putN]⟩ (by simp only [AS.le, leT, leH, zr, AsgK, AV.le, AV.leL, AObj.le, inH, idsT, idsH, AV.ids, AV.idsL, AV.idsR, AObj.ids, lk, hget, go_sem, aeq, aeq.aeqF, simprocAttr, zd3] <;> and_intros <;> rfl) (fun q => ?_)
  obtain ⟨⟨i, b⟩, hi, hbl, hbd⟩ := q
  simp only at hi hbl hbd ⊢
  rcases Nat.lt_or_ge i z with hlt | hge
  ·have hcmp : decide ((i : Int) < (z : Int)) = true := decide_eq_true (by omega)
   have hwi := zP (i := i) (by omega)
   have hm1 : IntKind.i64.wrap ((z : Int) - 1) = (z : Int) - 1 := zD (by omega) (by omega)
   have hm2 : IntKind.i64.wrap ((z : Int) - 1 - i) = ((z - 1 - i : Nat) : Int) := by rw [zD (by omega) (by omega)]; omega
   have hm3 : IntKind.i64.wrap (8 * (i : Int)) = ((8 * i : Nat) : Int) := by rw [zD (by omega) (by omega)]; omega
   have hb0 : (zy b).length = z := by rw [zy, List.length_map, hbl]
   have hbp := zjB (b := b) (k := z - 1 - i) (by omega) _ (zsd h0 (i := i) (by omega))
   have hzi : z - 1 - i + 1 = z - i := by omega
   repeat' (first | ((first | refine za noTab (zb _) (fun K hK => ?_) | refine zc noTab (zb _) ?_ | refine zh ?_ | refine zi ?_ | refine zn ?_); simp only [go_sem, aeq, aeq.aeqF, simprocAttr, hcmp, hm1, hm2, hm3, hb0, Int.toNat_natCast, Tryz.results119]) | refine zq (fun K hK => ?_) | refine zo ?_ | refine zf rfl ?_ | refine zg rfl ?_ | refine zp rfl (fun hc => ?_) (fun hc => ?_) | (refine hK _ ?_; clear hK K) | with_reducible refine And.intro ?_ ?_ | omega | assumption | refine fun (hg : (_ : Bool) = (_ : Bool)) => ?_ | clear hK K)
   exact ⟨⟨(i + 1, b.set (z - 1 - i) (UInt8.ofNat (n.toNat / 256 ^ i))), by omega, by simpa using hbl, by rw [zjC, ← hbd, ← hzi, ← zsc (by omega)]; congr 1; omega⟩, by simp only [AS.le, leT, leH, zr, AsgK, AV.le, AV.leL, AObj.le, inH, idsT, idsH, AV.ids, AV.idsL, AV.idsR, AObj.ids, lk, hget, go_sem, aeq, aeq.aeqF, simprocAttr, hwi, hbp], by simp; omega⟩
  ·have hcmp : decide ((i : Int) < (z : Int)) = false := decide_eq_false (by omega)
   have hb1 : (z = (zy b).length) = True := eq_true (by rw [zy, List.length_map, hbl])
   have hb2 : List.take z (zy b) = zy b := List.take_of_length_le (by rw [zy, List.length_map, hbl]; omega)
   repeat' (first | ((first | refine za noTab (zb _) (fun K hK => ?_) | refine zc noTab (zb _) ?_ | refine zh ?_ | refine zi ?_ | refine zn ?_); simp only [go_sem, aeq, aeq.aeqF, simprocAttr, hcmp, hb1, hb2, if_true, zat, zbk, Tryz.results119]) | refine zq (fun K hK => ?_) | refine zo ?_ | refine zf rfl ?_ | refine zg rfl ?_ | refine zp rfl (fun hc => ?_) (fun hc => ?_) | (refine hK _ ?_; clear hK K) | with_reducible refine And.intro ?_ ?_ | omega | assumption | refine fun (hg : (_ : Bool) = (_ : Bool)) => ?_ | clear hK K)
   have : i = z := by omega
   subst this
   rw [Nat.sub_self, List.drop_zero] at hbd
   rw [putS8, if_neg h, Int.toNat_natCast, hbd]
noncomputable def zcz : Ent Tryz.prog := .ofL 119 (consL (intT .u64) (consL (intT .i64) nilL)) (fun (n, size, _) => (0 ≤ n) ∧ (n < 18446744073709551616)) (fun (n, size, _) => .d (.str (putS8 n size))) (fun (n, size, _) hp => ⟨rfl, zsf n size hp.1 hp.2⟩)
attribute [go_sem] zcz
theorem zpi (s : Txt) (size : Int) (hs : s.length ≤ 9223372036854775807) : ACall Tryz.prog 57 0 [.d (.str s), .d (.int .i64 size)] [] (fun r _ => r = .tup [.d (.int .u64 (takeS s size).1), .d (.str (takeS s size).2.1), .d (.int .i64 (takeS s size).2.2)]) := by
 refine zk Tryz.func57 rfl (zu Tryz.func57 (by kernel_rfl) rfl) Tryz.ntmps57 (by simp) (fun base => ?_)
 by_cases h : size < 1 ∨ 8 < size
 ·have hdec : (decide (size < 1) || decide (8 < size)) = true := by simpa using h
  repeat' (first | ((first | refine za noTab (zb _) (fun K hK => ?_) | refine zc noTab (zb _) ?_ | refine ze noTab (zb _) mx (fun K hK => ?_) | refine zj noTab (zb _) mx ?_ | refine zh ?_ | refine zi ?_ | refine zn ?_); simp only [go_sem, aeq, aeq.aeqF, simprocAttr, hdec, Tryz.results57]) | refine zq (fun K hK => ?_) | refine zo ?_ | refine zf rfl ?_ | refine zg rfl ?_ | refine zp rfl (fun hc => ?_) (fun hc => ?_) | (refine hK _ ?_; clear hK K) | with_reducible refine And.intro ?_ ?_ | (refine (show zt _ _ = true from ?_); kernel_rfl) | omega | assumption | refine fun (hg : (_ : Bool) = (_ : Bool)) => ?_ | clear hK K)
  rw [takeS, if_pos h]
 ·have hdec : (decide (size < 1) || decide (8 < size)) = false := by simpa using h
  obtain ⟨z, rfl, hz8⟩ : ∃ z : Nat, size = (z : Int) ∧ z ≤ 8 := ⟨size.toNat, by omega, by omega⟩
  repeat' (first | ((first | refine za noTab (zb _) (fun K hK => ?_) | refine zc noTab (zb _) ?_ | refine ze noTab (zb _) mx (fun K hK => ?_) | refine zj noTab (zb _) mx ?_ | refine zh ?_ | refine zi ?_ | refine zn ?_); simp only [go_sem, aeq, aeq.aeqF, simprocAttr, hdec, Int.toNat_natCast, Tryz.results57]) | refine zq (fun K hK => ?_) | refine zo ?_ | refine zf rfl ?_ | refine zg rfl ?_ | refine zp rfl (fun hc => ?_) (fun hc => ?_) | (refine hK _ ?_; clear hK K) | with_reducible refine And.intro ?_ ?_ | (refine (show zt _ _ = true from ?_); kernel_rfl) | omega | assumption | refine fun (hg : (_ : Bool) = (_ : Bool)) => ?_ | clear hK K)
  ·have hc : (s.length : Int) < z := by simpa using hc
   simp only [takeS, if_neg h, if_pos hc]
  have hc : ¬ (s.length : Int) < z := by simpa using hc
  refine zL (fun q : { i : Nat // i ≤ z } => ⟨[(0, true, .d (.str s)), (1, true, .d (.int .i64 z)), (7, true, .d (.int .u64 (takeN (s.take q.1)))), (8, true, .d (.int .i64 q.1))], [], some []⟩) (fun q => z - q.1) ⟨0, Nat.zero_le _⟩ (by simp only [AS.le, leT, leH, zr, AsgK, AV.le, AV.leL, AObj.le, inH, idsT, idsH, AV.ids, AV.idsL, AV.idsR, AObj.ids, lk, hget, go_sem, aeq, aeq.aeqF, simprocAttr] <;> and_intros <;> rfl) (fun q => ?_)
  obtain ⟨i, hi⟩ := q
  simp only at hi ⊢
  rcases Nat.lt_or_ge i z with hlt | hge
  ·have hcmp : decide ((i : Int) < (z : Int)) = true := decide_eq_true (by omega)
   have hwi := zP (i := i) (by omega)
   obtain ⟨c, hq⟩ := zae (l := s) (i := i) (by omega)
   have hgd : s.getD i 0 = c := by rw [List.getD_eq_getElem?_getD, hq]; rfl
   have hst := zpg hq (by omega)
   repeat' (first | ((first | refine za noTab (zb _) (fun K hK => ?_) | refine zc noTab (zb _) ?_ | refine ze noTab (zb _) mx (fun K hK => ?_) | refine zj noTab (zb _) mx ?_ | refine zh ?_ | refine zi ?_ | refine zn ?_); simp only [go_sem, aeq, aeq.aeqF, simprocAttr, hcmp, hgd, Int.toNat_natCast, Tryz.results57]) | refine zq (fun K hK => ?_) | refine zo ?_ | refine zf rfl ?_ | refine zg rfl ?_ | refine zp rfl (fun hc => ?_) (fun hc => ?_) | (refine hK _ ?_; clear hK K) | with_reducible refine And.intro ?_ ?_ | (refine (show zt _ _ = true from ?_); kernel_rfl) | omega | assumption | refine fun (hg : (_ : Bool) = (_ : Bool)) => ?_ | clear hK K)
   exact ⟨⟨i + 1, by omega⟩, by simp only [AS.le, leT, leH, zr, AsgK, AV.le, AV.leL, AObj.le, inH, idsT, idsH, AV.ids, AV.idsL, AV.idsR, AObj.ids, lk, hget, go_sem, aeq, aeq.aeqF, simprocAttr, hwi, hst], by simp; omega⟩
  ·have hcmp : decide ((i : Int) < (z : Int)) = false := decide_eq_false (by omega)
   repeat' (first | ((first | refine za noTab (zb _) (fun K hK => ?_) | refine zc noTab (zb _) ?_ | refine ze noTab (zb _) mx (fun K hK => ?_) | refine zj noTab (zb _) mx ?_ | refine zh ?_ | refine zi ?_ | refine zn ?_); simp only [go_sem, aeq, aeq.aeqF, simprocAttr, hcmp, Int.toNat_natCast, Tryz.results57]) | refine zq (fun K hK => ?_) | refine zo ?_ | refine zf rfl ?_ | refine zg rfl ?_ | refine zp rfl (fun hc => ?_) (fun hc => ?_) | (refine hK _ ?_; clear hK K) | with_reducible refine And.intro ?_ ?_ | (refine (show zt _ _ = true from ?_); kernel_rfl) | omega | assumption | refine fun (hg : (_ : Bool) = (_ : Bool)) => ?_ | clear hK K)
   have : i = z := by omega
   subst this
   simp only [takeS, if_neg h, if_neg hc, Int.toNat_natCast]
noncomputable def zev : Ent Tryz.prog := .ofL 57 (consL strT (consL (intT .i64) nilL)) (fun (s, size, _) => s.length ≤ 9223372036854775807) (fun (s, size, _) => .tup [.d (.int .u64 (takeS s size).1), .d (.str (takeS s size).2.1), .d (.int .i64 (takeS s size).2.2)]) (fun (s, size, _) hp => ⟨rfl, zpi s size hp⟩)
attribute [go_sem] zev
theorem zeX (c : UInt8) : (decide ((c.toNat : Int) < 33) || decide ((126 : Int) < c.toNat)) = !nameB c := by
 rw [nameB, Bool.not_and]
 congr 1
 ·by_cases h : c.toNat < 33
  ·rw [decide_eq_true (p := (c.toNat : Int) < 33) (by omega), decide_eq_false (by omega)]; rfl
  ·rw [decide_eq_false (p := (c.toNat : Int) < 33) (by omega), decide_eq_true (by omega)]; rfl
 ·by_cases h : 126 < c.toNat
  ·rw [decide_eq_true (p := (126 : Int) < c.toNat) (by omega), decide_eq_false (by omega)]; rfl
  ·rw [decide_eq_false (p := (126 : Int) < c.toNat) (by omega), decide_eq_true (by omega)]; rfl
theorem zpj (n k : Nat) : decide ((n : Int) ≤ k) = decide (n ≤ k) := by
 by_cases h : n ≤ k
 ·rw [decide_eq_true h, decide_eq_true (by omega)]
 ·rw [decide_eq_false h, decide_eq_false (by omega)]
theorem zmM (s : Txt) (hs : s.length ≤ 9223372036854775807) : ACall Tryz.prog 67 0 [.d (.str s)] [] (fun r _ => r = .d (.bool (zbY s))) := by
 refine zk Tryz.func67 rfl (zu Tryz.func67 (by kernel_rfl) rfl) Tryz.ntmps67 (by simp) (fun base => ?_)
 repeat' (first | ((first | refine za noTab (zb _) (fun K hK => ?_) | refine zc noTab (zb _) ?_ | refine zh ?_ | refine zi ?_ | refine zn ?_); simp only [go_sem, aeq, aeq.aeqF, simprocAttr, Tryz.results67]) | refine zq (fun K hK => ?_) | refine zo ?_ | refine zf rfl ?_ | refine zg rfl ?_ | refine zp rfl (fun hc => ?_) (fun hc => ?_) | (refine hK _ ?_; clear hK K) | with_reducible refine And.intro ?_ ?_ | omega | assumption | refine fun (hg : (_ : Bool) = (_ : Bool)) => ?_ | clear hK K)
 refine zL (fun q : { i : Nat // i ≤ s.length ∧ s.all nameB = (s.drop i).all nameB } => ⟨[(0, true, .d (.str s)), (3, true, .d (.int .i64 q.1))], [], some []⟩) (fun q => s.length - q.1) ⟨0, Nat.zero_le _, rfl⟩ (by simp only [AS.le, leT, leH, zr, AsgK, AV.le, AV.leL, AObj.le, inH, idsT, idsH, AV.ids, AV.idsL, AV.idsR, AObj.ids, lk, hget, go_sem, aeq, aeq.aeqF, simprocAttr] <;> and_intros <;> rfl) (fun q => ?_)
 obtain ⟨i, hi, hf⟩ := q
 simp only at hi hf ⊢
 rcases Nat.lt_or_ge i s.length with hlt | hge
 ·have hcmp : decide ((i : Int) < (s.length : Int)) = true := decide_eq_true (by omega)
  have hwi := zP (i := i) (by omega)
  obtain ⟨c, hq⟩ := zae (l := s) (i := i) (by omega)
  have hgd : s.getD i 0 = c := by rw [List.getD_eq_getElem?_getD, hq]; rfl
  rw [zcS hq, List.all_cons] at hf
  repeat' (first | ((first | refine za noTab (zb _) (fun K hK => ?_) | refine zc noTab (zb _) ?_ | refine zh ?_ | refine zi ?_ | refine zn ?_); simp only [go_sem, aeq, aeq.aeqF, simprocAttr, hcmp, hgd, Int.toNat_natCast, Tryz.results67]) | refine zq (fun K hK => ?_) | refine zo ?_ | refine zf rfl ?_ | refine zg rfl ?_ | refine zp rfl (fun hc => ?_) (fun hc => ?_) | (refine hK _ ?_; clear hK K) | with_reducible refine And.intro ?_ ?_ | omega | assumption | refine fun (hg : (_ : Bool) = (_ : Bool)) => ?_ | clear hK K)
  ·rw [zeX] at hc
   have hc : nameB c = false := by simpa using hc
   rw [zbY, hf, hc]; rfl
  ·rw [zeX] at hc
   have hc : nameB c = true := by simpa using hc
   rw [hc, Bool.true_and] at hf
   exact ⟨⟨i + 1, by omega, hf⟩, by simp only [AS.le, leT, leH, zr, AsgK, AV.le, AV.leL, AObj.le, inH, idsT, idsH, AV.ids, AV.idsL, AV.idsR, AObj.ids, lk, hget, go_sem, aeq, aeq.aeqF, simprocAttr, hwi], by simp; omega⟩
 ·have hcmp : decide ((i : Int) < (s.length : Int)) = false := decide_eq_false (by omega)
  repeat' (first | ((first | refine za noTab (zb _) (fun K hK => ?_) | refine zc noTab (zb _) ?_ | refine zh ?_ | refine zi ?_ | refine zn ?_); simp only [go_sem, aeq, aeq.aeqF, simprocAttr, hcmp, Int.toNat_natCast, Tryz.results67]) | refine zq (fun K hK => ?_) | refine zo ?_ | refine zf rfl ?_ | refine zg rfl ?_ | refine zp rfl (fun hc => ?_) (fun hc => ?_) | (refine hK _ ?_; clear hK K) | with_reducible refine And.intro ?_ ?_ | omega | assumption | refine fun (hg : (_ : Bool) = (_ : Bool)) => ?_ | clear hK K)
  rw [zbY, hf, List.drop_of_length_le (by omega), show (8 : Int) = ((8 : Nat) : Int) from rfl, zpj]
  rfl
noncomputable def zdz : Ent Tryz.prog := .ofL 67 (consL strT nilL) (fun (s, _) => s.length ≤ 9223372036854775807) (fun (s, _) => .d (.bool (zbY s))) (fun (s, _) hp => ⟨rfl, zmM s hp⟩)
attribute [go_sem] zdz
open Go Go.Proofs
theorem zpk (n : Int) (h0 : 0 ≤ n) (h1 : n ≤ 140737488355328) : ACall Tryz.prog 30 0 [.d (.str [0]), .d (.int .i64 n)] [] (fun r _ => r = .d (.str (List.replicate n.toNat 0))) := by
 obtain ⟨m, rfl⟩ : ∃ m : Nat, n = m := ⟨n.toNat, by omega⟩
 exact zrX m (by omega)
noncomputable def za9 : Ent Tryz.prog := .ofL 30 (consL (zjq (.d (.str [0]))) (consL (intT .i64) nilL)) (fun (_, n, _) => (0 ≤ n) ∧ (n ≤ 140737488355328)) (fun (_, n, _) => .d (.str (List.replicate n.toNat 0))) (fun (_, n, _) hp => ⟨rfl, zpk n hp.1 hp.2⟩)
attribute [go_sem] za9
noncomputable def tabZ : Tab := tabOf [za9]
theorem zpl : TabOk Tryz.prog tabZ := zz _
@[go_sem] theorem zq9 (args : List AV) : tabZ 30 args = (za9).e args := rfl
theorem zvB (s : Txt) (n : Int) (hs : s.length ≤ 9223372036854775807) : ACall Tryz.prog 124 0 [.d (.str s), .d (.int .i64 n)] [] (fun r _ => r = .tup [.d (.str (padS s n).1), .d (.int .i64 (padS s n).2)]) := by
 refine zk Tryz.func124 rfl (zu Tryz.func124 (by kernel_rfl) rfl) Tryz.ntmps124 (by simp) (fun base => ?_)
 by_cases h : n < s.length ∨ 65536 < n
 ·have hdec : (decide (n < (s.length : Int)) || decide (65536 < n)) = true := by simpa using h
  repeat' (first | ((first | refine za noTab (zb _) (fun K hK => ?_) | refine zc noTab (zb _) ?_ | refine zh ?_ | refine zi ?_ | refine zn ?_); simp only [go_sem, aeq, aeq.aeqF, simprocAttr, hdec, Tryz.results124]) | refine zq (fun K hK => ?_) | refine zf rfl ?_ | refine zg rfl ?_ | refine zp rfl (fun hc => ?_) (fun hc => ?_) | (refine hK _ ?_; clear hK K) | with_reducible refine And.intro ?_ ?_ | omega | assumption | refine fun (hg : (_ : Bool) = (_ : Bool)) => ?_ | clear hK K)
  rw [padS, if_pos h]
 ·have hdec : (decide (n < (s.length : Int)) || decide (65536 < n)) = false := by simpa using h
  have hm : IntKind.i64.wrap (n - s.length) = n - s.length := zD (by omega) (by omega)
  repeat' (first | ((first | refine za tabZ (zpl) (fun K hK => ?_) | refine zc tabZ (zpl) ?_ | refine zh ?_ | refine zi ?_ | refine zn ?_); simp only [go_sem, aeq, aeq.aeqF, simprocAttr, hdec, hm, Tryz.results124]) | refine zq (fun K hK => ?_) | refine zf rfl ?_ | refine zg rfl ?_ | refine zp rfl (fun hc => ?_) (fun hc => ?_) | (refine hK _ ?_; clear hK K) | with_reducible refine And.intro ?_ ?_ | omega | assumption | refine fun (hg : (_ : Bool) = (_ : Bool)) => ?_ | clear hK K)
  ·rw [List.length_replicate]; omega
  ·simp only [padS, if_neg h]
noncomputable def zcX : Ent Tryz.prog := .ofL 124 (consL strT (consL (intT .i64) nilL)) (fun (s, n, _) => s.length ≤ 9223372036854775807) (fun (s, n, _) => .tup [.d (.str (padS s n).1), .d (.int .i64 (padS s n).2)]) (fun (s, n, _) hp => ⟨rfl, zvB s n hp⟩)
attribute [go_sem] zcX
theorem zux (s : Txt) (at_ : Int) (t : Txt) (hs : s.length ≤ 9223372036854775807) (ht : t.length ≤ 9223372036854775807) : ACall Tryz.prog 96 0 [.d (.str s), .d (.int .i64 at_), .d (.str t)] [] (fun r _ => r = .tup [.d (.str (overS s at_ t).1), .d (.int .i64 (overS s at_ t).2)]) := by
 refine zk Tryz.func96 rfl (zu Tryz.func96 (by kernel_rfl) rfl) Tryz.ntmps96 (by simp) (fun base => ?_)
 have hm : IntKind.i64.wrap ((s.length : Int) - t.length) = (s.length : Int) - t.length := zD (by omega) (by omega)
 by_cases h : at_ < 0 ∨ (s.length : Int) - t.length < at_
 ·have hdec : (decide (at_ < 0) || decide ((s.length : Int) - t.length < at_)) = true := by simpa using h
  repeat' (first | ((first | refine za noTab (zb _) (fun K hK => ?_) | refine zc noTab (zb _) ?_ | refine ze noTab (zb _) mx (fun K hK => ?_) | refine zj noTab (zb _) mx ?_ | refine zh ?_ | refine zi ?_ | refine zn ?_); simp only [go_sem, aeq, aeq.aeqF, simprocAttr, hm, hdec, Tryz.results96]) | refine zq (fun K hK => ?_) | refine zf rfl ?_ | refine zg rfl ?_ | refine zp rfl (fun hc => ?_) (fun hc => ?_) | (refine hK _ ?_; clear hK K) | with_reducible refine And.intro ?_ ?_ | (refine (show zt _ _ = true from ?_); kernel_rfl) | omega | assumption | refine fun (hg : (_ : Bool) = (_ : Bool)) => ?_ | clear hK K)
  rw [overS, if_pos h]
 ·have hdec : (decide (at_ < 0) || decide ((s.length : Int) - t.length < at_)) = false := by simpa using h
  have hm2 : IntKind.i64.wrap (at_ + t.length) = at_ + t.length := zD (by omega) (by omega)
  repeat' (first | ((first | refine za noTab (zb _) (fun K hK => ?_) | refine zc noTab (zb _) ?_ | refine ze noTab (zb _) mx (fun K hK => ?_) | refine zj noTab (zb _) mx ?_ | refine zh ?_ | refine zi ?_ | refine zn ?_); simp only [go_sem, aeq, aeq.aeqF, simprocAttr, hm, hdec, hm2, Tryz.results96]) | refine zq (fun K hK => ?_) | refine zf rfl ?_ | refine zg rfl ?_ | refine zp rfl (fun hc => ?_) (fun hc => ?_) | (refine hK _ ?_; clear hK K) | with_reducible refine And.intro ?_ ?_ | (refine (show zt _ _ = true from ?_); kernel_rfl) | omega | assumption | refine fun (hg : (_ : Bool) = (_ : Bool)) => ?_ | clear hK K)
  ·rw [List.length_take]; omega
  ·simp; omega
  ·simp only [overS, if_neg h]
noncomputable def zdA : Ent Tryz.prog := .ofL 96 (consL strT (consL (intT .i64) (consL strT nilL))) (fun (s, at_, t, _) => (s.length ≤ 9223372036854775807) ∧ (t.length ≤ 9223372036854775807)) (fun (s, at_, t, _) => .tup [.d (.str (overS s at_ t).1), .d (.int .i64 (overS s at_ t).2)]) (fun (s, at_, t, _) hp => ⟨rfl, zux s at_ t hp.1 hp.2⟩)
attribute [go_sem] zdA
theorem zvC (k s : Nat) (hs : s ≤ 64) (h : k * 2 ^ s < 18446744073709551616) : ishl .u64 (k : Int) (s : Int) = ((k * 2 ^ s : Nat) : Int) := by
 unfold ishl
 rw [show min ((s : Int).toNat) IntKind.u64.bits = s by show min ((s : Int).toNat) 64 = s; omega, IntKind.wrap_u64]
 have : (k : Int) * 2 ^ s = ((k * 2 ^ s : Nat) : Int) := by norm_cast
 rw [this]
 omega
theorem zmN (a b : Nat) (ha : a < 18446744073709551616) (hb : b < 18446744073709551616) : ibits .or .u64 (a : Int) (b : Int) = ((a ||| b : Nat) : Int) := by
 have hab : a ||| b < 18446744073709551616 := Nat.or_lt_two_pow (n := 64) ha hb
 unfold ibits
 simp only [show IntKind.u64.bits = 64 from rfl, BitVec.ofInt_natCast, BitVec.toNat_or, BitVec.toNat_ofNat]
 rw [Nat.mod_eq_of_lt (by omega), Nat.mod_eq_of_lt (by omega), IntKind.wrap_u64]
 omega
theorem zmO {l : Txt} {i : Nat} {c : UInt8} (hq : l[i]? = some c) (hi : i < 8) : ibits .or .u64 (ishl .u64 ((takeN (l.take i) : Nat) : Int) 8) (IntKind.u64.wrap (c.toNat : Int)) = ((takeN (l.take (i + 1)) : Nat) : Int) := by
 have h1 : takeN (l.take i) < 256 ^ 7 := zcW (by rw [List.length_take]; omega)
 have h2 := c.toNat_lt
 rw [zaH (x := (c.toNat : Int)) (by omega) (by omega), show (8 : Int) = ((8 : Nat) : Int) from rfl, zvC _ _ (by omega) (by omega), zmN _ _ (by omega) (by omega), zcn hq, zfB, ← Nat.shiftLeft_eq, ← Nat.shiftLeft_add_eq_or_of_lt (i := 8) (by omega), Nat.shiftLeft_eq]
theorem zuy (s : Txt) (size : Int) (hs : s.length ≤ 9223372036854775807) : ACall Tryz.prog 131 0 [.d (.str s), .d (.int .i64 size)] [] (fun r _ => r = .tup [.d (.int .u64 (takeS s size).1), .d (.str (takeS s size).2.1), .d (.int .i64 (takeS s size).2.2)]) := by
 refine zA ?_
 refine zk Tryz.func131 rfl (zu Tryz.func131 (by kernel_rfl) rfl) Tryz.ntmps131 (by simp) (fun base => ?_)
 by_cases h : size < 1 ∨ 8 < size
 ·have hdec : (decide (size < 1) || decide (8 < size)) = true := by simpa using h
  repeat' (first | ((first | refine za noTab (zb _) (fun K hK => ?_) | refine zc noTab (zb _) ?_ | refine ze noTab (zb _) mx (fun K hK => ?_) | refine zj noTab (zb _) mx ?_ | refine zh ?_ | refine zi ?_ | refine zn ?_); simp only [go_sem, aeq, aeq.aeqF, simprocAttr, hdec, Tryz.results131]) | refine zq (fun K hK => ?_) | refine zo ?_ | refine zf rfl ?_ | refine zg rfl ?_ | refine zp rfl (fun hc => ?_) (fun hc => ?_) | (refine hK _ ?_; clear hK K) | with_reducible refine And.intro ?_ ?_ | (refine (show zt _ _ = true from ?_); kernel_rfl) | omega | assumption | refine fun (hg : (_ : Bool) = (_ : Bool)) => ?_ | clear hK K)
  rw [takeS, if_pos h]
 ·have hdec : (decide (size < 1) || decide (8 < size)) = false := by simpa using h
  obtain ⟨z, rfl, hz8⟩ : ∃ z : Nat, size = (z : Int) ∧ z ≤ 8 := ⟨size.toNat, by omega, by omega⟩
  repeat' (first | ((first | refine za noTab (zb _) (fun K hK => ?_) | refine zc noTab (zb _) ?_ | refine ze noTab (zb _) mx (fun K hK => ?_) | refine zj noTab (zb _) mx ?_ | refine zh ?_ | refine zi ?_ | refine zn ?_); simp only [go_sem, aeq, aeq.aeqF, simprocAttr, hdec, Int.toNat_natCast, Tryz.results131]) | refine zq (fun K hK => ?_) | refine zo ?_ | refine zf rfl ?_ | refine zg rfl ?_ | refine zp rfl (fun hc => ?_) (fun hc => ?_) | (refine hK _ ?_; clear hK K) | with_reducible refine And.intro ?_ ?_ | (refine (show zt _ _ = true from ?_); kernel_rfl) | omega | assumption | refine fun (hg : (_ : Bool) = (_ : Bool)) => ?_ | clear hK K)
  ·have hc : (s.length : Int) < z := by simpa using hc
   simp only [takeS, if_neg h, if_pos hc]
  ·have hc : ¬ (s.length : Int) < z := by simpa using hc
   omega
  ·rw [zbc]
  have hc : ¬ (s.length : Int) < z := by simpa using hc
  have hlz : (s.take z).length = z := by rw [List.length_take]; omega
  simp only [hlz]
  refine zL (fun q : { i : Nat // i ≤ z } => ⟨[(0, true, .d (.str s)), (1, true, .d (.int .i64 z)), (7, true, .d (.int .u64 (takeN (s.take q.1)))), (25, true, .osl 0 1 z 0 z), (26, true, .d (.int .i64 z)), (27, true, .d (.int .i64 q.1))], [(0, .arr 1 (zy (s.take z)))], some []⟩) (fun q => z - q.1) ⟨0, Nat.zero_le _⟩ (by simp only [AS.le, leT, leH, zr, AsgK, AV.le, AV.leL, AObj.le, inH, idsT, idsH, AV.ids, AV.idsL, AV.idsR, AObj.ids, lk, hget, go_sem, aeq, aeq.aeqF, simprocAttr] <;> and_intros <;> rfl) (fun q => ?_)
  obtain ⟨i, hi⟩ := q
  simp only at hi ⊢
  rcases Nat.lt_or_ge i z with hlt | hge
  ·have hcmp : decide ((i : Int) < (z : Int)) = true := decide_eq_true (by omega)
   have hwi := zP (i := i) (by omega)
   obtain ⟨c, hq⟩ := zae (l := s) (i := i) (by omega)
   have hgd : (zy (s.take z)).getD i [] = [.int .u8 c.toNat] := by
    rw [zgd (by rw [hlz]; omega), List.getD_eq_getElem?_getD, List.getElem?_take, if_pos hlt, hq]; rfl
   have hst := zmO hq (by omega)
   have hb0 : (zy (s.take z)).length = z := by rw [zbc, hlz]
   repeat' (first | ((first | refine za noTab (zb _) (fun K hK => ?_) | refine zc noTab (zb _) ?_ | refine ze noTab (zb _) mx (fun K hK => ?_) | refine zj noTab (zb _) mx ?_ | refine zh ?_ | refine zi ?_ | refine zn ?_); simp only [go_sem, aeq, aeq.aeqF, simprocAttr, hcmp, hgd, hb0, Int.toNat_natCast, Tryz.results131]) | refine zq (fun K hK => ?_) | refine zo ?_ | refine zf rfl ?_ | refine zg rfl ?_ | refine zp rfl (fun hc => ?_) (fun hc => ?_) | (refine hK _ ?_; clear hK K) | with_reducible refine And.intro ?_ ?_ | (refine (show zt _ _ = true from ?_); kernel_rfl) | omega | assumption | refine fun (hg : (_ : Bool) = (_ : Bool)) => ?_ | clear hK K)
   exact ⟨⟨i + 1, by omega⟩, by simp only [AS.le, leT, leH, zr, AsgK, AV.le, AV.leL, AObj.le, inH, idsT, idsH, AV.ids, AV.idsL, AV.idsR, AObj.ids, lk, hget, go_sem, aeq, aeq.aeqF, simprocAttr, hwi, hst], by simp; omega⟩
  ·have hcmp : decide ((i : Int) < (z : Int)) = false := decide_eq_false (by omega)
   repeat' (first | ((first | refine za noTab (zb _) (fun K hK => ?_) | refine zc noTab (zb _) ?_ | refine ze noTab (zb _) mx (fun K hK => ?_) | refine zj noTab (zb _) mx ?_ | refine zh ?_ | refine zi ?_ | refine zn ?_); simp only [go_sem, aeq, aeq.aeqF, simprocAttr, hcmp, Int.toNat_natCast, Tryz.results131]) | refine zq (fun K hK => ?_) | refine zo ?_ | refine zf rfl ?_ | refine zg rfl ?_ | refine zp rfl (fun hc => ?_) (fun hc => ?_) | (refine hK _ ?_; clear hK K) | with_reducible refine And.intro ?_ ?_ | (refine (show zt _ _ = true from ?_); kernel_rfl) | omega | assumption | refine fun (hg : (_ : Bool) = (_ : Bool)) => ?_ | clear hK K)
   have : i = z := by omega
   subst this
   simp only [takeS, if_neg h, if_neg hc, Int.toNat_natCast]
noncomputable def zbZ : Ent Tryz.prog := .ofL 131 (consL strT (consL (intT .i64) nilL)) (fun (s, size, _) => s.length ≤ 9223372036854775807) (fun (s, size, _) => .tup [.d (.int .u64 (takeS s size).1), .d (.str (takeS s size).2.1), .d (.int .i64 (takeS s size).2.2)]) (fun (s, size, _) hp => ⟨rfl, zuy s size hp⟩)
attribute [go_sem] zbZ
open Go Go.Proofs
theorem zpm (c : Int) : ACall Tryz.prog 178 0 [.d (.int .i32 c)] [] (fun r _ => r = .d (.bool (decide (c < 33) || decide (126 < c)))) := by
 refine zk Tryz.func178 rfl (zu Tryz.func178 (by kernel_rfl) rfl) Tryz.ntmps178 (by simp) (fun base => ?_)
 repeat' (first | ((first | refine za noTab (zb _) (fun K hK => ?_) | refine zc noTab (zb _) ?_ | refine zh ?_ | refine zi ?_ | refine zn ?_); simp only [go_sem, aeq, aeq.aeqF, simprocAttr, Tryz.results178]) | refine zq (fun K hK => ?_) | (refine hK _ ?_; clear hK K) | with_reducible refine And.intro ?_ ?_ | omega | assumption | refine fun (hg : (_ : Bool) = (_ : Bool)) => ?_ | clear hK K)
noncomputable def zew : Ent Tryz.prog := .ofL 178 (consL (intT .i32) nilL) (fun (c, _) => True) (fun (c, _) => .d (.bool (decide (c < 33) || decide (126 < c)))) (fun (c, _) hp => ⟨rfl, zpm c⟩)
attribute [go_sem] zew
noncomputable def tabN1 : Tab := tabOf [zew]
theorem zd5 : TabOk Tryz.prog tabN1 := zz _
@[go_sem] theorem zpn (args : List AV) : tabN1 178 args = (zew).e args := rfl
theorem zsg {s : Txt} {i : Nat} {c : UInt8} (hq : s[i]? = some c) (h : c.toNat < 128) : Utf8.decode ⟨s.toArray⟩ i = ((c.toNat : Nat), 1) := by
 obtain ⟨hi, hc⟩ := List.getElem?_eq_some_iff.1 hq
 have := decode_ascii ⟨s.toArray⟩ i (by simpa [ByteArray.size] using hi) (by show ((s.toArray)[i]).toNat < 128; simpa [hc] using h)
 rw [this]
 show (((s.toArray)[i]).toNat, 1) = _
 simp [hc]
theorem zpo {s : Txt} {i : Nat} {c : UInt8} (hq : s[i]? = some c) (h : 128 ≤ c.toNat) : 128 ≤ (Utf8.decode ⟨s.toArray⟩ i).1 := by
 obtain ⟨hi, hc⟩ := List.getElem?_eq_some_iff.1 hq
 exact (decode_high ⟨s.toArray⟩ i (by simpa [ByteArray.size] using hi) (by show 128 ≤ ((s.toArray)[i]).toNat; simpa [hc] using h)).1
theorem zmP (s : Txt) (hs : s.length ≤ 9223372036854775807) : ACall Tryz.prog 207 0 [.d (.str s), .fn (.func 178) [] [], .d (.bool true)] [] (fun r _ => r = .d (.int .i64 (idxP (fun c => !nameB c) s 0))) := by
 refine zk Tryz.func207 rfl (zu Tryz.func207 (by kernel_rfl) rfl) Tryz.ntmps207 (by simp) (fun base => ?_)
 repeat' (first | ((first | refine za tabN1 (zd5) (fun K hK => ?_) | refine zc tabN1 (zd5) ?_ | refine zh ?_ | refine zi ?_ | refine zn ?_); simp only [go_sem, aeq, aeq.aeqF, simprocAttr, Tryz.results207]) | refine zq (fun K hK => ?_) | refine zo ?_ | refine zf rfl ?_ | refine zg rfl ?_ | refine zp rfl (fun hc => ?_) (fun hc => ?_) | (refine hK _ ?_; clear hK K) | with_reducible refine And.intro ?_ ?_ | omega | assumption | clear hK K)
 refine zL (fun q : Idst (fun c => !nameB c) s => ⟨[(1, true, .fn (.func 178) [] []), (2, true, .d (.bool true)), (10, true, .itr 0)], [(0, .strit s q.1)], some []⟩) (fun q => s.length - q.1) ⟨0, Nat.zero_le _, rfl⟩ (by simp only [AS.le, leT, leH, zr, AsgK, AV.le, AV.leL, AObj.le, inH, idsT, idsH, AV.ids, AV.idsL, AV.idsR, AObj.ids, lk, hget, go_sem, aeq, aeq.aeqF, simprocAttr]) (fun q => ?_)
 obtain ⟨i, hi, hf⟩ := q
 simp only at hi hf ⊢
 rcases Nat.lt_or_ge i s.length with hlt | hge
 ·obtain ⟨c, hq⟩ := zae (l := s) (i := i) (by omega)
  rw [zcS hq, idxP] at hf
  have h1 : (i < s.length) = True := eq_true hlt
  rcases Nat.lt_or_ge c.toNat 128 with hlow | hhigh
  ·have hr := zsg hq hlow
   repeat' (first | ((first | refine za tabN1 (zd5) (fun K hK => ?_) | refine zc tabN1 (zd5) ?_ | refine zh ?_ | refine zi ?_ | refine zn ?_); simp only [go_sem, aeq, aeq.aeqF, simprocAttr, h1, if_true, hr, Tryz.results207]) | refine zq (fun K hK => ?_) | refine zo ?_ | refine zf rfl ?_ | refine zg rfl ?_ | refine zp rfl (fun hc => ?_) (fun hc => ?_) | (refine hK _ ?_; clear hK K) | with_reducible refine And.intro ?_ ?_ | omega | assumption | clear hK K)
   ·rw [zeX] at hc
    rw [hf, if_pos hc]
   ·rw [zeX] at hc
    rw [if_neg (by rw [hc]; exact Bool.false_ne_true)] at hf
    exact ⟨⟨i + 1, by omega, hf⟩, by simp only [AS.le, leT, leH, zr, AsgK, AV.le, AV.leL, AObj.le, inH, idsT, idsH, AV.ids, AV.idsL, AV.idsR, AObj.ids, lk, hget, go_sem, aeq, aeq.aeqF, simprocAttr], by simp; omega⟩
  ·have hr := zpo hq hhigh
   have hnb : (!nameB c) = true := by rw [nameB, decide_eq_false (p := c.toNat ≤ 126) (by omega), Bool.and_false]; rfl
   repeat' (first | ((first | refine za tabN1 (zd5) (fun K hK => ?_) | refine zc tabN1 (zd5) ?_ | refine zh ?_ | refine zi ?_ | refine zn ?_); simp only [go_sem, aeq, aeq.aeqF, simprocAttr, h1, if_true, Tryz.results207]) | refine zq (fun K hK => ?_) | refine zo ?_ | refine zf rfl ?_ | refine zg rfl ?_ | refine zp rfl (fun hc => ?_) (fun hc => ?_) | (refine hK _ ?_; clear hK K) | with_reducible refine And.intro ?_ ?_ | omega | assumption | clear hK K)
   ·rw [hf, if_pos hnb]
   ·rw [decide_eq_true (p := (126 : Int) < ((Utf8.decode ⟨s.toArray⟩ i).1 : Nat)) (by omega), Bool.or_true] at hc
    cases hc
 ·have h1 : (i < s.length) = False := eq_false (by omega)
  repeat' (first | ((first | refine za noTab (zb _) (fun K hK => ?_) | refine zc noTab (zb _) ?_ | refine zh ?_ | refine zi ?_ | refine zn ?_); simp only [go_sem, aeq, aeq.aeqF, simprocAttr, h1, if_false, Tryz.results207]) | refine zq (fun K hK => ?_) | refine zo ?_ | refine zf rfl ?_ | refine zg rfl ?_ | refine zp rfl (fun hc => ?_) (fun hc => ?_) | (refine hK _ ?_; clear hK K) | with_reducible refine And.intro ?_ ?_ | omega | assumption | clear hK K)
  rw [hf, List.drop_of_length_le (by omega)]
  rfl
noncomputable def zdB : Ent Tryz.prog := .ofL 207 (consL strT (consL (fnT 178 nilL) (consL (zjq (.d (.bool true))) nilL))) (fun (s, _, _, _) => s.length ≤ 9223372036854775807) (fun (s, _, _, _) => .d (.int .i64 (idxP (fun c => !nameB c) s 0))) (fun (s, _, _, _) hp => ⟨rfl, zmP s hp⟩)
attribute [go_sem] zdB
noncomputable def tabN2 : Tab := tabOf [zdB]
theorem zlL : TabOk Tryz.prog tabN2 := zz _
@[go_sem] theorem znW (args : List AV) : tabN2 207 args = (zdB).e args := rfl
theorem zjD (s : Txt) (hs : s.length ≤ 9223372036854775807) : ACall Tryz.prog 177 0 [.d (.str s), .fn (.func 178) [] []] [] (fun r _ => r = .d (.int .i64 (idxP (fun c => !nameB c) s 0))) := by
 refine zk Tryz.func177 rfl (zu Tryz.func177 (by kernel_rfl) rfl) Tryz.ntmps177 (by simp) (fun base => ?_)
 repeat' (first | ((first | refine za tabN2 (zlL) (fun K hK => ?_) | refine zc tabN2 (zlL) ?_ | refine zh ?_ | refine zi ?_ | refine zn ?_); simp only [go_sem, aeq, aeq.aeqF, simprocAttr, Tryz.results177]) | refine zq (fun K hK => ?_) | (refine hK _ ?_; clear hK K) | with_reducible refine And.intro ?_ ?_ | omega | assumption | clear hK K)
noncomputable def zcq : Ent Tryz.prog := .ofL 177 (consL strT (consL (fnT 178 nilL) nilL)) (fun (s, _, _) => s.length ≤ 9223372036854775807) (fun (s, _, _) => .d (.int .i64 (idxP (fun c => !nameB c) s 0))) (fun (s, _, _) hp => ⟨rfl, zjD s hp⟩)
attribute [go_sem] zcq
noncomputable def tabN3 : Tab := tabOf [zcq]
theorem zlM : TabOk Tryz.prog tabN3 := zz _
@[go_sem] theorem zlN (args : List AV) : tabN3 177 args = (zcq).e args := rfl
theorem zuz (s : Txt) (k : Nat) : decide (idxP (fun c => !nameB c) s k < 0) = s.all nameB := by
 have h := zg2 (fun c => !nameB c) s k
 rw [List.all_eq_not_any_not, ← h]
 by_cases h0 : idxP (fun c => !nameB c) s k < 0
 ·rw [decide_eq_true h0, decide_eq_false (by omega)]; rfl
 ·rw [decide_eq_false h0, decide_eq_true (by omega)]; rfl
theorem zsh (s : Txt) (hs : s.length ≤ 9223372036854775807) : ACall Tryz.prog 123 0 [.d (.str s)] [] (fun r _ => r = .d (.bool (zbY s))) := by
 refine zk Tryz.func123 rfl (zu Tryz.func123 (by kernel_rfl) rfl) Tryz.ntmps123 (by simp) (fun base => ?_)
 repeat' (first | ((first | refine za tabN3 (zlM) (fun K hK => ?_) | refine zc tabN3 (zlM) ?_ | refine zh ?_ | refine zi ?_ | refine zn ?_); simp only [go_sem, aeq, aeq.aeqF, simprocAttr, Tryz.results123]) | refine zq (fun K hK => ?_) | (refine hK _ ?_; clear hK K) | with_reducible refine And.intro ?_ ?_ | omega | assumption | refine fun (hg : (_ : Bool) = (_ : Bool)) => ?_ | clear hK K)
 rw [zbY, zuz, show (8 : Int) = ((8 : Nat) : Int) from rfl, zpj, Bool.and_comm]
noncomputable def zfD : Ent Tryz.prog := .ofL 123 (consL strT nilL) (fun (s, _) => s.length ≤ 9223372036854775807) (fun (s, _) => .d (.bool (zbY s))) (fun (s, _) hp => ⟨rfl, zsh s hp⟩)
attribute [go_sem] zfD
noncomputable def tabN4 : Tab := tabOf [zfD, zcX]
theorem zlO : TabOk Tryz.prog tabN4 := zz _
@[go_sem] theorem zra (args : List AV) : tabN4 123 args = (zfD).e args := rfl
@[go_sem] theorem ztW (args : List AV) : tabN4 124 args = (zcX).e args := rfl
def nameS (s : Txt) : Txt × Int := if zbY s then padS s 8 else ([], 19)
theorem zuA (s : Txt) (hs : s.length ≤ 9223372036854775807) : ACall Tryz.prog 73 0 [.d (.str s)] [] (fun r _ => r = .tup [.d (.str (nameS s).1), .d (.int .i64 (nameS s).2)]) := by
 refine zk Tryz.func73 rfl (zu Tryz.func73 (by kernel_rfl) rfl) Tryz.ntmps73 (by simp) (fun base => ?_)
 repeat' (first | ((first | refine za tabN4 (zlO) (fun K hK => ?_) | refine zc tabN4 (zlO) ?_ | refine zh ?_ | refine zi ?_ | refine zn ?_); simp only [go_sem, aeq, aeq.aeqF, simprocAttr, Tryz.results73]) | refine zq (fun K hK => ?_) | refine zf rfl ?_ | refine zg rfl ?_ | refine zp rfl (fun hc => ?_) (fun hc => ?_) | (refine hK _ ?_; clear hK K) | with_reducible refine And.intro ?_ ?_ | omega | assumption | clear hK K)
 all_goals simp_all [nameS]
noncomputable def zg6 : Ent Tryz.prog := .ofL 73 (consL strT nilL) (fun (s, _) => s.length ≤ 9223372036854775807) (fun (s, _) => .tup [.d (.str (nameS s).1), .d (.int .i64 (nameS s).2)]) (fun (s, _) hp => ⟨rfl, zuA s hp⟩)
attribute [go_sem] zg6
end Go.Aw
