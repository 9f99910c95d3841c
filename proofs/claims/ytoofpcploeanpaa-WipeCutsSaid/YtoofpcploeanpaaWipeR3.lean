/-
  WipeCuts: whatever the input, the law returns true, and each argument reads behind the call as it read before. No further condition.
-/
import Derived.Test.YtoofpcploeanpaaRows
import Derived.Test.YtoofpcploeanpaaAwLaw
import Derived.Test.YtoofpcploeanpaaWipeQ
namespace Go.Proofs.Ytoofpcploeanpaa
set_option maxRecDepth 100000
set_option linter.unusedSimpArgs false
set_option linter.unusedVariables false
open Go Go.Aw Go.RowKit Go.ChangeShapes Go.WideShapes

theorem Try.own : ownKnob Try.prog.godebug = none := by kernel_rfl
theorem Try.laidOut : laidOutB Try.prog = true := by kernel_rfl

theorem wipeCuts_row (xss : List (List D)) (h : DTys Try.prog [3, 3] xss) : ACall Try.prog 3 0 (argAVs Try.prog [3, 3] xss) [] (fun r _ => r = .d (.bool true)) := by
  obtain ⟨x, r, rfl, h1, y, r2, rfl, h2, h4⟩ := h
  simp only [DTy, ty3] at h1 h2
  obtain ⟨n, rfl, hn0, hn1⟩ := h1
  obtain ⟨m, rfl, hm0, hm1⟩ := h2
  simp only [DTys] at h4
  subst h4
  simp only [argAVs, argAV, ty3]
  exact wipeCuts_law n m

theorem WipeCuts_lifted (os : Os) (started : os.Started) (H : Type) (enc : TypeId × Value → H) :
    ReturnsInHanded {} Try.checked os 3 .any (Rows.wipeCutsSpec.pre6 enc Try.prog Try.f3 Rows.wipeCutsRow.domain false) (Rows.wipeCutsSpec.post enc Try.prog Try.f3 false true false false) :=
  law_lifted (C := Try.checked) (tb := 4) Try.own started (by kernel_rfl) Try.func3
    (ChangeSpec.witness6 (enc := enc) (C := Try.checked) false ⟨#[], #[.int .i64 0, .int .i64 0], []⟩ 8 (by kernel_rfl) (by kernel_rfl) (by kernel_rfl) (by kernel_rfl))
    rfl (fun ds hd => by rw [Try.params3] at hd; match ds, hd with | [_, _], _ => rfl) (by kernel_rfl) (by show (ty Try.prog 4).td = _; rw [ty4])
    Try.laidOut (by kernel_rfl) (by kernel_rfl) (fun xss h => by rw [Try.params3] at h ⊢; exact wipeCuts_row xss h)

theorem WipeCuts_holds : Rows.WipeCutsSaid :=
  OpenClaim.holds_of_wide 3 Try.f3 rfl rfl rfl rfl rfl rfl rfl ⟨rfl, rfl, rfl, rfl, rfl⟩ rfl rfl rfl rfl rfl (by kernel_rfl) Try.func3 (by kernel_rfl)
    (of_decide_eq_true (by kernel_rfl)) (by unfold Func.isWrapper; first | (rw [if_pos (by decide +kernel)]; kernel_rfl) | (rw [if_neg (by decide +kernel)]; exact ⟨rfl, rfl⟩))
    (fun os started H enc _ => WipeCuts_lifted os started H enc)

end Go.Proofs.Ytoofpcploeanpaa
