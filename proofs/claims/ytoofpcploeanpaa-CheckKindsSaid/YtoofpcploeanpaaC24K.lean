/-
  CheckKinds: whatever the input, the law returns true, and each argument reads behind the call as it read before. No further condition.
-/
import Derived.Test.YtoofpcploeanpaaC24L
namespace Go.Proofs.Ytoofpcploeanpaa
set_option maxRecDepth 100000
set_option linter.unusedSimpArgs false
set_option linter.unusedVariables false
open Go Go.Aw Go.RowKit Go.ChangeShapes Go.WideShapes

theorem kinds_row (xss : List (List D)) (h : DTys Try.prog [3] xss) : ACall Try.prog 6 0 (argAVs Try.prog [3] xss) [] (fun r _ => r = .d (.bool true)) := by
  obtain ⟨x, r, rfl, h1, h2⟩ := h
  simp only [DTy, ty3] at h1
  obtain ⟨n, rfl, _⟩ := h1
  simp only [DTys] at h2
  subst h2
  simp only [argAVs, argAV, ty3]
  exact kinds_law n

set_option maxRecDepth 100000 in
theorem CheckKinds_lifted (os : Os) (started : os.Started) (H : Type) (enc : TypeId × Value → H) :
    ReturnsInHanded {} Try.checked os 6 .any (Rows.checkKindsSpec.pre6 enc Try.prog Try.f6 Rows.checkKindsRow.domain false) (Rows.checkKindsSpec.post enc Try.prog Try.f6 false true false false) :=
  law_lifted (C := Try.checked) (tb := 4) Try.own started (by kernel_rfl) Try.func6
    (ChangeSpec.witness6 (enc := enc) (C := Try.checked) false ⟨#[], #[.int .i64 0], []⟩ 8 (by kernel_rfl) (by kernel_rfl) (by kernel_rfl) (by kernel_rfl))
    rfl (fun ds hd => by rw [Try.params6] at hd; match ds, hd with | [_], _ => rfl) (by kernel_rfl) (by show (ty Try.prog 4).td = _; rw [ty4])
    Try.laidOut (by kernel_rfl) (by kernel_rfl) (fun xss h => by rw [Try.params6] at h ⊢; exact kinds_row xss h)

theorem CheckKinds_holds : Rows.CheckKindsSaid :=
  OpenClaim.holds_of_wide 6 Try.f6 rfl rfl rfl rfl rfl rfl rfl ⟨rfl, rfl, rfl, rfl, rfl⟩ rfl rfl rfl rfl rfl (by kernel_rfl) Try.func6 (by kernel_rfl)
    (of_decide_eq_true (by kernel_rfl)) (by unfold Func.isWrapper; first | (rw [if_pos (by decide +kernel)]; kernel_rfl) | (rw [if_neg (by decide +kernel)]; exact ⟨rfl, rfl⟩))
    (fun os started H enc _ => CheckKinds_lifted os started H enc)

end Go.Proofs.Ytoofpcploeanpaa
