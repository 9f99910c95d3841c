/-
  strings.Builder.WriteString and String at a builder anywhere in a variable, told of the world. (After the kit's shelf, turned to this program's numbers and to any place.)
-/
import Derived.Test.YtioccpkcnnkpjaaGreatBldA
import Derived.Lib.AppendStr
import Derived.Lib.Strings
import Derived.Lib.Slices
import Derived.RegionCalls
namespace Go.Proofs.YtioccpkcnnkpjaaGreat
set_option maxRecDepth 100000
set_option linter.unusedSimpArgs false
set_option linter.unusedVariables false
open Go

section
variable {P : Program}
open Go.Lib
/-- (After the kit's law on appends of strings onto owned rows, its lines; what is new: whose block the result has.) -/
theorem run_append_str2 (w : World) (base : Nat) (t u ty e : TypeId) (i : TypeInfo) (ht : P.underlying t = some (.slice e)) (hu : P.underlying u = some .string) (hi : P.info? e = some i) (hz : i.zero = some (.int .u8 0))
    (hsize : i.size = 1) (hby : i.bytes = 1)
    (v : Value) (n : Nat) (xs : List Value) (hown : w.ownsRow base e 1 v n xs) (s : ByteArray)
    (h63 : n + s.size ≤ maxLen) (hbytes : n + s.size ≤ 140737488355328) (hbase : base ≤ w.heap.size) :
    ∃ v' w', (Builtin.append_ #[t, u] ty #[v, .string s]).run P w = .ok v' w' ∧ w'.ownsRow base e 1 v' (n + s.size) (xs ++ strCells s) ∧ w.grownBy w' v.ownBlock ∧
      ((∀ g, v'.ownBlock = some g → v.ownBlock = some g ∨ (w.heap.size ≤ g ∧ g < w'.heap.size)) ∧ (s.size = 0 → v' = v)) := by
  have hsmall : n + s.size ≤ 9223372036854775807 := by simp only [maxLen] at h63; omega
  have hxl : xs.length = n := by simpa using hown.1
  have hlen : (xs ++ strCells s).length = (n + s.size) * 1 := by rw [List.length_append, hxl, strCells_length, Nat.mul_one]
  have grown : ∀ (old : Nat), old < n + s.size → ∀ (row : Option Nat),
      (w.drew.alloc (.cells (xs.toArray ++ (strCells s).toArray ++ Builtin.zeroCells (Value.int .u8 0).cells (grownCap w (n + s.size) old e - (n + s.size))) e)).ownsRow base e 1
        (.slice (some ⟨w.heap.size, 0, none⟩) (n + s.size) (grownCap w (n + s.size) old e)) (n + s.size) (xs ++ strCells s) ∧
      w.grownBy (w.drew.alloc (.cells (xs.toArray ++ (strCells s).toArray ++ Builtin.zeroCells (Value.int .u8 0).cells (grownCap w (n + s.size) old e - (n + s.size))) e)) row := by
    intro old ho row
    have hge := grownCap_ge w (n + s.size) old e
    have hcm : grownCap w (n + s.size) old e ≤ maxLen := grownCap_le_maxLen w (n + s.size) old e h63
    refine ⟨⟨hlen, .inr ⟨w.heap.size, _, _, rfl, hbase, Go.heap_alloc_new w.drew _, hge, hcm, ?_, ?_⟩⟩, ⟨rfl, rfl, rfl, by simp, fun k hk _ => Go.heap_alloc_old w.drew _ hk⟩⟩
    · have hz1 : (Value.int IntKind.u8 0).cells.size = 1 := rfl
      simp only [Array.size_append, List.size_toArray, size_zeroCells, hz1, hxl, strCells_length]
      omega
    · simp only [Array.toList_append, List.append_assoc]
      rw [← List.append_assoc, ← hlen]
      exact List.take_left
  rcases hown.2 with ⟨rfl, rfl⟩ | ⟨g, cap, cur, rfl, hbg, hg, hnc, hcm, hcs, htake⟩
  · have hx : xs = [] := List.eq_nil_of_length_eq_zero hxl
    subst hx
    by_cases hm : s.size = 0
    · have hn : strCells s = [] := List.eq_nil_of_length_eq_zero (by rw [strCells_length]; exact hm)
      refine ⟨.slice none 0 0, w, ?_, by rw [hm, hn]; exact World.ownsRow_nil w base e 1, ⟨rfl, rfl, rfl, Nat.le_refl _, fun _ _ _ => rfl⟩, fun g hg => .inl hg, fun _ => rfl⟩
      have hf := run_firstCells_string (P := P) w 1 s
      rw [hm] at hf
      simp [Builtin.append_, run_underlying ht, run_underlying hu, sizeOf, typeInfo, hi, hsize, Builtin.lenOf, hm, hf]
    · have hr := run_append_nil_string (P := P) w t u ty e i (.int .u8 0) ht hu hi hz s (by omega) (by omega) (by rw [hby]; omega)
      have hgr := grown 0 (by omega) (Value.ownBlock (.slice none 0 0))
      simp only [Nat.zero_add, List.nil_append, Array.empty_append] at hgr ⊢
      have e1 : (s.data.map fun b => Value.int .u8 b.toNat) = (strCells s).toArray := by
        apply Array.ext'
        simp [strCells]
      rw [e1] at hr
      exact ⟨_, _, hr, hgr.1, hgr.2, fun g hg => .inr (by simp [Value.ownBlock] at hg; subst hg; simp), fun e => absurd e hm⟩
  · by_cases hroom : n + s.size ≤ cap
    · have hcs' : cur.size = cap := by simpa using hcs
      have hr := run_append_room_string (P := P) w t u ty e i ht hu hi hsize g n cap cur hg s hroom (by omega)
      refine ⟨_, _, hr, ⟨hlen, .inr ⟨g, cap, _, rfl, hbg, setRow_heap w g cur _ e _ hg, hroom, hcm, ?_, ?_⟩⟩, ⟨rfl, rfl, rfl, by simp, fun k _ hk => setRow_other w g k _ (fun e => hk (by simp [Value.ownBlock, e]))⟩, fun g hg => .inl hg, fun e => by rw [e]; rfl⟩
      · simp only [List.size_toArray, List.length_append, List.length_take, List.length_drop, Array.length_toList, strCells_length]
        omega
      · have ht' : cur.toList.take n = xs := by simpa using htake
        rw [ht', ← hlen]
        exact List.take_left
    · have holds : ∀ j u, xs[j]? = some u → w.cell? ((⟨g, 0, none⟩ : Addr).add j) = some u := hown.cells (g := g) rfl
      have hr := run_append_grow_string (P := P) w t u ty e i (.int .u8 0) ht hu hi hz ⟨g, 0, none⟩ n cap xs (by rw [hsize]; simpa using hxl) holds s (by omega) (by omega) (by rw [hby]; exact growslice_fits (by omega) (by omega))
      have hgr := grown cap (by omega) (Value.ownBlock (.slice (some ⟨g, 0, none⟩) n cap))
      exact ⟨_, _, hr, hgr.1, hgr.2, fun g hg => .inr (by simp [Value.ownBlock] at hg; subst hg; simp), fun e => by omega⟩

theorem wpList_append_str2 (w : World) {ops : Array Oper} {rest : List Oper} {o : Oper} {a : Act} {Q : Exit → Act → World → Prop} (hgd : o.guard = none) (sl x : Operand) (t u : TypeId)
    (ho : o.op = .call { callee := .builtin .append, args := #[sl, x], argTypes := #[t, u] })
    (base : Nat) (e : TypeId) (i : TypeInfo) (ht : P.underlying t = some (.slice e)) (hu : P.underlying u = some .string) (hi : P.info? e = some i) (hz : i.zero = some (.int .u8 0))
    (hsize : i.size = 1) (hby : i.bytes = 1)
    (v : Value) (n : Nat) (xs : List Value) (hs : a.eval sl = v) (hown : w.ownsRow base e 1 v n xs) (s : ByteArray) (hx : a.eval x = .string s)
    (h63 : n + s.size ≤ maxLen) (hbytes : n + s.size ≤ 140737488355328) (hbase : base ≤ w.heap.size)
    (h : ∀ v' w', w'.ownsRow base e 1 v' (n + s.size) (xs ++ strCells s) → w.grownBy w' v.ownBlock → ((∀ g, v'.ownBlock = some g → v.ownBlock = some g ∨ (w.heap.size ≤ g ∧ g < w'.heap.size)) ∧ (s.size = 0 → v' = v)) → wpList P ops Q rest (a.put o.dst v') w') : wpList P ops Q (o :: rest) a w := by
  refine wpList_plain hgd fun K hK => ?_
  obtain ⟨v', w', hr, h2, h3, h4⟩ := run_append_str2 (P := P) w base t u o.type e i ht hu hi hz hsize hby v n xs hown s h63 hbytes hbase
  unfold Oper.wp execOp
  simp only [ho, resolve, invoke, builtin, Sem.run_bind, Sem.run_pure, Result.andThen_ok, List.map_toArray, List.map_cons, List.map_nil, hs, hx, hr]
  exact hK _ _ (h v' w' h2 h3 h4)

end

open Go.RowKit

theorem cell_set_other {w : World} {b o o' : Nat} {v : Value} (h : o ≠ o') : (w.setCell ⟨b, o, none⟩ v).cell? ⟨b, o', none⟩ = w.cell? ⟨b, o', none⟩ := by
  unfold World.setCell World.cell?
  simp only [Array.getElem?_modify, if_true]
  cases w.heap[b]? with
  | none => rfl
  | some ob =>
    cases ob <;> simp [Array.getElem?_setIfInBounds_ne h]

theorem frozen_set_other {w : World} {b o o' : Nat} {v : Value} : (w.setCell ⟨b, o, none⟩ v).frozen? ⟨b, o', none⟩ = w.frozen? ⟨b, o', none⟩ := by
  unfold World.setCell World.frozen?
  simp only [Array.getElem?_modify, if_true]
  cases w.heap[b]? with
  | none => rfl
  | some ob =>
    cases ob <;> simp

theorem ownsRow_set {w : World} {e : TypeId} {v : Value} {k : Nat} {bs : List Value} {b o : Nat} {x : Value} (h : w.ownsRow 0 e 1 v k bs) (hne : v.ownBlock ≠ some b) : (w.setCell ⟨b, o, none⟩ x).ownsRow 0 e 1 v k bs := by
  refine ⟨h.1, ?_⟩
  rcases h.2 with hn | ⟨g, cap, cur, rfl, hb, hgg, rest⟩
  · exact .inl hn
  · refine .inr ⟨g, cap, cur, rfl, hb, ?_, rest⟩
    have : b ≠ g := fun e => hne (by simp [Value.ownBlock, e])
    unfold World.setCell
    rw [Array.getElem?_modify, if_neg this]
    exact hgg

theorem copy_calls (b o n : Nat) (T : TypeId) (w : World) (h0 : w.cell? ⟨b, o, none⟩ = some (.pointer none) ∨ w.cell? ⟨b, o, none⟩ = some (.pointer (some ⟨b, o, none⟩))) (hsh : w.shape? b = some (T, n)) (hlt : o < n) (hl : liesAt Tryz.prog Tryz.prog.depth T (n / Tryz.prog.cellsOf T) o 82 1 = true) (hfz : w.frozen? ⟨b, o, none⟩ = false) :
    Calls Tryz.prog 106 #[.pointer (some ⟨b, o, none⟩)] w fun e w' => e = .returned (.tuple #[]) ∧ ((w' = w ∧ w.cell? ⟨b, o, none⟩ = some (.pointer (some ⟨b, o, none⟩))) ∨ w' = w.setCell ⟨b, o, none⟩ (.pointer (some ⟨b, o, none⟩))) := by
  rcases h0 with h0 | h0
  · refine (copy_fresh b o n T w h0 hsh hlt hl hfz).mono ?_
    rintro e w' ⟨rfl, rfl⟩
    exact ⟨rfl, .inr rfl⟩
  · refine (copy_used b o w h0).mono ?_
    rintro e w' ⟨rfl, rfl⟩
    exact ⟨rfl, .inl ⟨rfl, h0⟩⟩

theorem write_calls (b o n : Nat) (T : TypeId) (w : World) (v : Value) (k : Nat) (bs : List Value) (s : ByteArray) (h0 : w.cell? ⟨b, o, none⟩ = some (.pointer none) ∨ w.cell? ⟨b, o, none⟩ = some (.pointer (some ⟨b, o, none⟩))) (h1 : w.cell? ⟨b, o + 1, none⟩ = some v)
    (hsh : w.shape? b = some (T, n)) (hlt : o < n) (hl : liesAt Tryz.prog Tryz.prog.depth T (n / Tryz.prog.cellsOf T) o 82 1 = true) (hfz : w.frozen? ⟨b, o, none⟩ = false) (hfz1 : w.frozen? ⟨b, o + 1, none⟩ = false)
    (hown : w.ownsRow 0 5 1 v k bs) (hne : v.ownBlock ≠ some b) (hlen : k + s.size ≤ 140737488355328) :
    Calls Tryz.prog 83 #[.pointer (some ⟨b, o, none⟩), .string s] w fun e w' => e = .returned (.tuple #[.int .i64 s.size, .nilIface]) ∧
      ∃ w1 v' w2, ((w1 = w ∧ w.cell? ⟨b, o, none⟩ = some (.pointer (some ⟨b, o, none⟩))) ∨ w1 = w.setCell ⟨b, o, none⟩ (.pointer (some ⟨b, o, none⟩))) ∧ w2.ownsRow 0 5 1 v' (k + s.size) (bs ++ Lib.strCells s) ∧ w1.grownBy w2 v.ownBlock ∧ ((∀ g, v'.ownBlock = some g → v.ownBlock = some g ∨ (w1.heap.size ≤ g ∧ g < w2.heap.size)) ∧ (s.size = 0 → v' = v)) ∧ w' = w2.setCell ⟨b, o + 1, none⟩ v' := by
  obtain ⟨i0, hi, hz0⟩ := Option.map_eq_some_iff.1 (show (Tryz.prog.info? 5).map (fun i => (i.zero, i.size, i.bytes)) = some (some (.int .u8 0), 1, 1) by kernel_rfl)
  simp only [Prod.mk.injEq] at hz0
  obtain ⟨hz0, hz1, hz2⟩ := hz0
  go_enter Tryz.func83, Tryz.ntmps83
  go_wp2_with (go_at_call 106; refine (copy_calls b o n T _ h0 hsh hlt hl hfz).mono ?_)
  rintro e w1 ⟨rfl, hw1⟩
  have c1 : w1.cell? ⟨b, o + 1, none⟩ = some v := by
    rcases hw1 with ⟨rfl, _⟩ | rfl
    · exact h1
    · rw [cell_set_other (by omega)]; exact h1
  have f1 : w1.frozen? ⟨b, o + 1, none⟩ = false := by
    rcases hw1 with ⟨rfl, _⟩ | rfl
    · exact hfz1
    · rw [frozen_set_other]; exact hfz1
  have hown1 : w1.ownsRow 0 5 1 v k bs := by
    rcases hw1 with ⟨rfl, _⟩ | rfl
    · exact hown
    · exact ownsRow_set hown hne
  go_wp2_with (at_builtin; refine wpList_append_str2 _ rfl _ _ 80 9 rfl 0 5 i0 Tryz.underlying80 Tryz.underlying9 hi hz0 hz1 hz2 _ _ _ rfl hown1 s rfl ?c3 ?c4 ?c5 ?_)
  case c3 => unfold maxLen; omega
  case c4 => omega
  case c5 => omega
  intro v' w2 hown' hgrow hnew hnew2
  have hlt1 : b < w1.heap.size := by
    rcases Nat.lt_or_ge b w1.heap.size with h' | h'
    · exact h'
    · simp [World.cell?, Array.getElem?_eq_none h'] at c1
  have hb2 : w2.heap[b]? = w1.heap[b]? := hgrow.block b hlt1 (fun e => hne e.symm)
  have d1 : w2.cell? ⟨b, o + 1, none⟩ = some v := by
    rw [← c1]; simp only [World.cell?, hb2]
  have f2 : w2.frozen? ⟨b, o + 1, none⟩ = false := by
    rw [← f1]; simp only [World.frozen?, hb2]
  obtain ⟨ao, n', cap, rfl⟩ : ∃ ao n' cap, v' = .slice ao n' cap := by
    rcases hown'.2 with ⟨hv, _⟩ | ⟨g, cap, cur, hv, _⟩
    · exact ⟨_, _, _, hv⟩
    · exact ⟨_, _, _, hv⟩
  go_wp2
  go_ret2
  exact ⟨rfl, w1, _, w2, hw1, hown', hgrow, ⟨hnew, fun e => hnew2 (by simpa using e)⟩, rfl⟩
end Go.Proofs.YtioccpkcnnkpjaaGreat
