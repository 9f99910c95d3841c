/-
  CheckWithin: whatever the input, the law returns true, and each argument reads behind the call as it read before. No further condition.
-/
import Derived.Test.YtoofpcploeanpaaC24L
namespace Go.Proofs.Ytoofpcploeanpaa
set_option maxRecDepth 100000
set_option linter.unusedSimpArgs false
set_option linter.unusedVariables false
open Go Go.Aw Go.RowKit Go.ChangeShapes Go.WideShapes

theorem within_row (xss : List (List D)) (h : DTys Try.prog [30, 33, 36] xss) : ACall Try.prog 4 0 (argAVs Try.prog [30, 33, 36] xss) [] (fun r _ => r = .d (.bool true)) := by
  obtain ⟨x, r, rfl, h1, y, r, rfl, h2, z, r, rfl, h3, rfl⟩ := h
  obtain ⟨fl, kind, ck, ofs, len, s, rfl, hl, e1⟩ := req_dty h1
  obtain ⟨size, maps, rfl, e2⟩ := export_dty h2
  obtain ⟨a, b, c, ch, metas, rfl, e3⟩ := nego_dty h3
  simp only [argAVs, e1, e2, e3]
  exact within_law fl kind ck ofs len size a s b maps metas c ch hl

set_option maxRecDepth 100000 in
theorem CheckWithin_lifted (os : Os) (started : os.Started) (H : Type) (enc : TypeId × Value → H) :
    ReturnsInHanded {} Try.checked os 4 .any (Rows.checkWithinSpec.pre6 enc Try.prog Try.f4 Rows.checkWithinRow.domain false) (Rows.checkWithinSpec.post enc Try.prog Try.f4 false true false false) :=
  law_lifted (C := Try.checked) (tb := 4) Try.own started (by kernel_rfl) Try.func4
    (ChangeSpec.witness6 (enc := enc) (C := Try.checked) false ⟨#[], #[.agg #[.int .i64 0, .int .i64 0, .int .u64 0, .int .u64 0, .int .u32 0, .string ⟨#[]⟩], .agg #[.int .u64 0, .slice none 0 0], .agg #[.int .i64 0, .string ⟨#[]⟩, .bool false, .bool false, .slice none 0 0]], []⟩ 8 (by kernel_rfl) (by kernel_rfl) (by kernel_rfl) (by kernel_rfl))
    rfl (fun ds hd => by rw [Try.params4] at hd; match ds, hd with | [_, _, _], _ => rfl) (by kernel_rfl) (by show (ty Try.prog 4).td = _; rw [ty4])
    Try.laidOut (by kernel_rfl) (by kernel_rfl) (fun xss h => by rw [Try.params4] at h ⊢; exact within_row xss h)

theorem CheckWithin_holds : Rows.CheckWithinSaid :=
  OpenClaim.holds_of_wide 4 Try.f4 rfl rfl rfl rfl rfl rfl rfl ⟨rfl, rfl, rfl, rfl, rfl⟩ rfl rfl rfl rfl rfl (by kernel_rfl) Try.func4 (by kernel_rfl)
    (of_decide_eq_true (by kernel_rfl)) (by unfold Func.isWrapper; first | (rw [if_pos (by decide +kernel)]; kernel_rfl) | (rw [if_neg (by decide +kernel)]; exact ⟨rfl, rfl⟩))
    (fun os started H enc _ => CheckWithin_lifted os started H enc)

end Go.Proofs.Ytoofpcploeanpaa
