/-
  CacheDoes: whatever the input, the law returns true, and each argument reads behind the call as it read before. No further condition.
-/
import Derived.Test.YtoofpcploeanpaaRows
import Derived.Test.YtoofpcploeanpaaAwLaw
import Derived.Test.YtoofpcploeanpaaCacheL
namespace Go.Proofs.Ytoofpcploeanpaa
set_option maxRecDepth 100000
set_option linter.unusedSimpArgs false
set_option linter.unusedVariables false
open Go Go.Aw Go.RowKit Go.ChangeShapes Go.WideShapes

theorem Try.own : ownKnob Try.prog.godebug = none := by kernel_rfl
theorem Try.laidOut : laidOutB Try.prog = true := by kernel_rfl

theorem cacheDoes_row (xss : List (List D)) (h : DTys Try.prog [42, 44, 3] xss) : ACall Try.prog 15 0 (argAVs Try.prog [42, 44, 3] xss) [] (fun r _ => r = .d (.bool true)) := by
  obtain ⟨x, r, rfl, h1, y, r2, rfl, h2, z, r3, rfl, h3, h4⟩ := h
  simp only [DTys] at h4
  subst h4
  obtain ⟨l, hl, rfl⟩ := blks_dty h1
  obtain ⟨q, rfl⟩ := blk_dty h2
  simp only [DTy, ty3] at h3
  obtain ⟨n, rfl, _⟩ := h3
  have e : argAV Try.prog 42 [.sl 3 (l.map blkD)] = .d (.sl 3 (l.map blkD)) := by simp only [argAV, ty42]
  have e2 : argAV Try.prog 44 (blkD q) = .agg [.d (.int .i64 q.1), .d (.str q.2.1), .d (.bool q.2.2)] := by simp only [argAV, ty44]; rfl
  have e3 : argAV Try.prog 3 [.int .i64 n] = .d (.int .i64 n) := by simp only [argAV, ty3]
  simp only [argAVs, e, e2, e3]
  exact cacheDoes_law l q.1 q.2.1 q.2.2 n hl

theorem CacheDoes_lifted (os : Os) (started : os.Started) (H : Type) (enc : TypeId × Value → H) :
    ReturnsInHanded {} Try.checked os 15 .any (Rows.cacheDoesSpec.pre6 enc Try.prog Try.f15 Rows.cacheDoesRow.domain false) (Rows.cacheDoesSpec.post enc Try.prog Try.f15 false true false false) :=
  law_lifted (C := Try.checked) (tb := 4) Try.own started (by kernel_rfl) Try.func15
    (ChangeSpec.witness6 (enc := enc) (C := Try.checked) false ⟨#[], #[.slice none 0 0, .agg #[.int .i64 0, .string ⟨#[]⟩, .bool false], .int .i64 0], []⟩ 8 (by kernel_rfl) (by kernel_rfl) (by kernel_rfl) (by kernel_rfl))
    rfl (fun ds hd => by rw [Try.params15] at hd; match ds, hd with | [_, _, _], _ => rfl) (by kernel_rfl) (by show (ty Try.prog 4).td = _; rw [ty4])
    Try.laidOut (by kernel_rfl) (by kernel_rfl) (fun xss h => by rw [Try.params15] at h ⊢; exact cacheDoes_row xss h)

theorem CacheDoes_holds : Rows.CacheDoesSaid :=
  OpenClaim.holds_of_wide 15 Try.f15 rfl rfl rfl rfl rfl rfl rfl ⟨rfl, rfl, rfl, rfl, rfl⟩ rfl rfl rfl rfl rfl (by kernel_rfl) Try.func15 (by kernel_rfl)
    (of_decide_eq_true (by kernel_rfl)) (by unfold Func.isWrapper; first | (rw [if_pos (by decide +kernel)]; kernel_rfl) | (rw [if_neg (by decide +kernel)]; exact ⟨rfl, rfl⟩))
    (fun os started H enc _ => CacheDoes_lifted os started H enc)

end Go.Proofs.Ytoofpcploeanpaa
