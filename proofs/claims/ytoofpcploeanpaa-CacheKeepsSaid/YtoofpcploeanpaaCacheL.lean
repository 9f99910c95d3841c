/-
  What an argument of layer 30's laws reads as.
-/
import Derived.Test.YtoofpcploeanpaaAwLaw
import Derived.Test.YtoofpcploeanpaaCacheG
import Derived.Test.YtoofpcploeanpaaCacheM
import Derived.Test.YtoofpcploeanpaaCacheO
namespace Go.Aw
set_option maxRecDepth 100000
set_option linter.unusedSimpArgs false
set_option linter.unusedVariables false
open Go Go.Proofs

theorem blk_dty {x : List D} {n : Nat} (h : DTy Try.prog (n + 2) 44 x) : ∃ q : Blk, x = blkD q := by
  simp only [DTy, DTy.fields, ty44, ty3, ty9, ty4] at h
  obtain ⟨a1, b1, rfl, ⟨n1, rfl, _⟩, a2, b2, rfl, ⟨n2, rfl, _⟩, a3, b3, rfl, ⟨n3, rfl⟩, rfl⟩ := h
  exact ⟨(n1, n2, n3), rfl⟩

theorem blks_dty {x : List D} (h : DTy Try.prog 9 42 x) : ∃ l : List Blk, l.length ≤ 9223372036854775807 ∧ x = [.sl 3 (l.map blkD)] := by
  unfold DTy at h
  simp only [ty42, ty44] at h
  obtain ⟨rows, rfl, hl, hr⟩ := h
  obtain ⟨l, rfl⟩ := rows_map (e := blkD) (fun r hr' => blk_dty (hr r hr'))
  exact ⟨l, by simpa using hl, rfl⟩

theorem ints_dty {x : List D} (h : DTy Try.prog 9 62 x) : ∃ l : List Int, x = [.sl 1 (l.map intD)] := by
  unfold DTy at h
  simp only [ty62] at h
  obtain ⟨rows, rfl, hl, hr⟩ := h
  have hr' : ∀ r ∈ rows, ∃ n, r = intD n := fun r h' => by
    have := hr r h'
    unfold DTy at this
    simp only [ty3] at this
    obtain ⟨n, rfl, _⟩ := this
    exact ⟨n, rfl⟩
  obtain ⟨l, rfl⟩ := rows_map hr'
  exact ⟨l, by rw [ty3]⟩
end Go.Aw
