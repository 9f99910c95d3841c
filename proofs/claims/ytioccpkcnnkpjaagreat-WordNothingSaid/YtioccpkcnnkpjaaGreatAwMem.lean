/-
  Reading memory; addresses; slices.
-/
import Derived.Test.YtioccpkcnnkpjaaGreatAwVal
import Derived.Laws.Cells
namespace Go.Aw
set_option maxRecDepth 100000
set_option linter.unusedSimpArgs false
set_option linter.unusedVariables false
open Go

theorem cell_of_block {W : World} {b : Nat} {c : Array Value} {T : TypeId} {fz : Nat × Nat} (h : W.heap[b]? = some (.cells c T fz)) (off : Nat) : W.cell? ⟨b, off, none⟩ = c[off]? := by
  simp [World.cell?, h]
theorem frozen_of_block {W : World} {b : Nat} {c : Array Value} {T : TypeId} {fz : Nat × Nat} (h : W.heap[b]? = some (.cells c T fz)) (off : Nat) : W.frozen? ⟨b, off, none⟩ = (fz.1 ≤ off && off < fz.2) := by
  simp [World.frozen?, h]
theorem shape_of_block {W : World} {b : Nat} {c : Array Value} {T : TypeId} {fz : Nat × Nat} (h : W.heap[b]? = some (.cells c T fz)) : W.shape? b = some (T, c.size) := by
  simp [World.shape?, h]

theorem Addr.add_none (b off n : Nat) : (⟨b, off, none⟩ : Addr).add n = ⟨b, off + n, none⟩ := by
  unfold Addr.add; split <;> simp_all

section
variable {P : Program} {W : World} {E : Env} {h : AHeap}

theorem getD_some {α : Type} {l : List α} {i : Nat} {d : α} (hi : i < l.length) : l[i]? = some (l.getD i d) := by
  rw [List.getD_eq_getElem?_getD, List.getElem?_eq_getElem hi]; rfl

theorem Reps.of_get : ∀ {as : List AV} {vs : List Value}, vs.length = as.length → (∀ j, j < as.length → ∃ v, vs[j]? = some v ∧ Rep W E h (as.getD j .any) v) → Reps W E h as vs
  | [], vs, hl, _ => by simp at hl; subst hl; simp [Reps]
  | a :: as, [], hl, _ => by simp at hl
  | a :: as, v :: vs, hl, hg => by
    simp only [Reps]
    obtain ⟨u, hu, hr⟩ := hg 0 (by simp)
    simp at hu; subst hu
    refine ⟨_, vs, rfl, by simpa using hr, Reps.of_get (by simpa using hl) (fun j hj => ?_)⟩
    obtain ⟨u, hu, hr⟩ := hg (j + 1) (by simpa using hj)
    exact ⟨u, by simpa using hu, by simpa using hr⟩

/-- The cells of a variable of type t at a place, said by those of cs from off on. -/
def At (W : World) (E : Env) (h : AHeap) (b o : Nat) (cs : List AV) (off n : Nat) : Prop :=
  ∃ c T fz, W.heap[b]? = some (.cells c T fz) ∧ ∀ j, j < n → ∃ v, c[o + j]? = some v ∧ Rep W E h (cs.getD (off + j) .any) v

theorem at_of_reps {b o : Nat} {c : Array Value} {T : TypeId} {fz : Nat × Nat} {cs : List AV} (hb : W.heap[b]? = some (.cells c T fz)) (hr : Reps W E h cs ((c.toList.drop o).take cs.length)) {off n : Nat} (hn : off + n ≤ cs.length) : At W E h b (o + off) cs off n := by
  refine ⟨c, T, fz, hb, fun j hj => ?_⟩
  obtain ⟨v, hv, hr⟩ := Reps.get hr (getD_some (d := .any) (show off + j < cs.length by omega))
  refine ⟨v, ?_, hr⟩
  rw [List.getElem?_take_of_lt (by omega), List.getElem?_drop] at hv
  rw [← Array.getElem?_toList, show o + off + j = o + (off + j) by omega]
  exact hv

theorem run_loadVar_ok {t : TypeId} {b o : Nat} {cs : List AV} {off : Nat} (ht : (ty P t).td ≠ .other) (ha : At W E h b o cs off (psize P t)) (hl : off + psize P t ≤ cs.length) :
    ∃ v, (loadVar t ⟨b, o, none⟩).run P W = .ok v W ∧ Rep W E h (apart P t cs off) v := by
  obtain ⟨d, hd⟩ := und_ne ht
  obtain ⟨c, T, fz, hb, hc⟩ := ha
  simp only [loadVar, Sem.run_bind, run_isAgg hd ht, Result.andThen_ok]
  unfold apart
  unfold psize at hc hl
  cases hag : (ty P t).td.agg
  · simp only [hag, Bool.false_eq_true, if_false] at hc hl ⊢
    obtain ⟨v, hv, hr⟩ := hc 0 (by omega)
    refine ⟨v, ?_, by simpa using hr⟩
    simp only [run_load, cell_of_block hb]
    rw [show o = o + 0 from rfl, hv]
  · simp only [hag, if_true] at hc hl
    simp only [if_true, Sem.run_bind, run_sizeOf hd, Result.andThen_ok]
    have hlen : ((c.toList.drop o).take (ty P t).size).length = (ty P t).size := by
      rcases Nat.eq_zero_or_pos (ty P t).size with h0 | h0
      · simp [h0]
      · obtain ⟨v, hv, _⟩ := hc ((ty P t).size - 1) (by omega)
        have := (Array.getElem?_eq_some_iff.1 hv).1
        simp; omega
    have hget : ∀ j, j < (ty P t).size → ((c.toList.drop o).take (ty P t).size)[j]? = c[o + j]? := fun j hj => by
      rw [List.getElem?_take_of_lt hj, List.getElem?_drop, ← Array.getElem?_toList]
    have := run_loadCells_list (P := P) W ⟨b, o, none⟩ ((c.toList.drop o).take (ty P t).size) (fun j v hj => by
      rw [Addr.add_none, cell_of_block hb]
      have hjl : j < (ty P t).size := by
        have := (List.getElem?_eq_some_iff.1 hj).1
        omega
      rw [← hget j hjl]; exact hj)
    rw [hlen] at this
    rw [this]
    refine ⟨_, rfl, ?_⟩
    simp only [Rep]
    refine ⟨_, rfl, Reps.of_get ?_ (fun j hj => ?_)⟩
    · rw [hlen]; simp; omega
    · simp at hj
      obtain ⟨v, hv, hr⟩ := hc j (by omega)
      refine ⟨v, by rw [hget j (by omega)]; exact hv, ?_⟩
      rw [List.getD_eq_getElem?_getD, List.getElem?_take_of_lt (by omega), List.getElem?_drop, ← List.getD_eq_getElem?_getD]
      exact hr
end
end Go.Aw
