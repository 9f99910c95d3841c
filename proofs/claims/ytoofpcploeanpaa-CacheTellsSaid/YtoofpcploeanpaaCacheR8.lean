/-
  CacheTells: whatever the input, the law returns true, and each argument reads behind the call as it read before. No further condition.
-/
import Derived.Test.YtoofpcploeanpaaRows
import Derived.Test.YtoofpcploeanpaaAwLaw
import Derived.Test.YtoofpcploeanpaaCacheL
namespace Go.Proofs.Ytoofpcploeanpaa
set_option maxRecDepth 100000
set_option linter.unusedSimpArgs false
set_option linter.unusedVariables false
open Go Go.Aw Go.RowKit Go.ChangeShapes Go.WideShapes

theorem Try.own : ownKnob Try.prog.godebug = none := by kernel_rfl
theorem Try.laidOut : laidOutB Try.prog = true := by kernel_rfl

theorem cacheTells_row (xss : List (List D)) (h : DTys Try.prog [42] xss) : ACall Try.prog 8 0 (argAVs Try.prog [42] xss) [] (fun r _ => r = .d (.bool true)) := by
  obtain ⟨x, r, rfl, h1, h2⟩ := h
  simp only [DTys] at h2
  subst h2
  obtain ⟨l, hl, rfl⟩ := blks_dty h1
  have e : argAV Try.prog 42 [.sl 3 (l.map blkD)] = .d (.sl 3 (l.map blkD)) := by simp only [argAV, ty42]
  simp only [argAVs, e]
  exact cacheTells_law l

theorem CacheTells_lifted (os : Os) (started : os.Started) (H : Type) (enc : TypeId × Value → H) :
    ReturnsInHanded {} Try.checked os 8 .any (Rows.cacheTellsSpec.pre6 enc Try.prog Try.f8 Rows.cacheTellsRow.domain false) (Rows.cacheTellsSpec.post enc Try.prog Try.f8 false true false false) :=
  law_lifted (C := Try.checked) (tb := 4) Try.own started (by kernel_rfl) Try.func8
    (ChangeSpec.witness6 (enc := enc) (C := Try.checked) false ⟨#[], #[.slice none 0 0], []⟩ 8 (by kernel_rfl) (by kernel_rfl) (by kernel_rfl) (by kernel_rfl))
    rfl (fun ds hd => by rw [Try.params8] at hd; match ds, hd with | [_], _ => rfl) (by kernel_rfl) (by show (ty Try.prog 4).td = _; rw [ty4])
    Try.laidOut (by kernel_rfl) (by kernel_rfl) (fun xss h => by rw [Try.params8] at h ⊢; exact cacheTells_row xss h)

theorem CacheTells_holds : Rows.CacheTellsSaid :=
  OpenClaim.holds_of_wide 8 Try.f8 rfl rfl rfl rfl rfl rfl rfl ⟨rfl, rfl, rfl, rfl, rfl⟩ rfl rfl rfl rfl rfl (by kernel_rfl) Try.func8 (by kernel_rfl)
    (of_decide_eq_true (by kernel_rfl)) (by unfold Func.isWrapper; first | (rw [if_pos (by decide +kernel)]; kernel_rfl) | (rw [if_neg (by decide +kernel)]; exact ⟨rfl, rfl⟩))
    (fun os started H enc _ => CacheTells_lifted os started H enc)

end Go.Proofs.Ytoofpcploeanpaa
