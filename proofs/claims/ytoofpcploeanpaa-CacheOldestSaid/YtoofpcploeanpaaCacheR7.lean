/-
  CacheOldest: whatever the input, the law returns true, and each argument reads behind the call as it read before. No further condition.
-/
import Derived.Test.YtoofpcploeanpaaRows
import Derived.Test.YtoofpcploeanpaaAwLaw
import Derived.Test.YtoofpcploeanpaaCacheL
namespace Go.Proofs.Ytoofpcploeanpaa
set_option maxRecDepth 100000
set_option linter.unusedSimpArgs false
set_option linter.unusedVariables false
open Go Go.Aw Go.RowKit Go.ChangeShapes Go.WideShapes

theorem Try.own : ownKnob Try.prog.godebug = none := by kernel_rfl
theorem Try.laidOut : laidOutB Try.prog = true := by kernel_rfl

theorem cacheOldest_row (xss : List (List D)) (h : DTys Try.prog [42, 44] xss) : ACall Try.prog 7 0 (argAVs Try.prog [42, 44] xss) [] (fun r _ => r = .d (.bool true)) := by
  obtain ⟨x, r, rfl, h1, y, r2, rfl, h2, h3⟩ := h
  simp only [DTys] at h3
  subst h3
  obtain ⟨l, hl, rfl⟩ := blks_dty h1
  obtain ⟨q, rfl⟩ := blk_dty h2
  have e : argAV Try.prog 42 [.sl 3 (l.map blkD)] = .d (.sl 3 (l.map blkD)) := by simp only [argAV, ty42]
  have e2 : argAV Try.prog 44 (blkD q) = .agg [.d (.int .i64 q.1), .d (.str q.2.1), .d (.bool q.2.2)] := by simp only [argAV, ty44]; rfl
  simp only [argAVs, e, e2]
  exact cacheOldest_law l q.1 q.2.1 q.2.2 hl

theorem CacheOldest_lifted (os : Os) (started : os.Started) (H : Type) (enc : TypeId × Value → H) :
    ReturnsInHanded {} Try.checked os 7 .any (Rows.cacheOldestSpec.pre6 enc Try.prog Try.f7 Rows.cacheOldestRow.domain false) (Rows.cacheOldestSpec.post enc Try.prog Try.f7 false true false false) :=
  law_lifted (C := Try.checked) (tb := 4) Try.own started (by kernel_rfl) Try.func7
    (ChangeSpec.witness6 (enc := enc) (C := Try.checked) false ⟨#[], #[.slice none 0 0, .agg #[.int .i64 0, .string ⟨#[]⟩, .bool false]], []⟩ 8 (by kernel_rfl) (by kernel_rfl) (by kernel_rfl) (by kernel_rfl))
    rfl (fun ds hd => by rw [Try.params7] at hd; match ds, hd with | [_, _], _ => rfl) (by kernel_rfl) (by show (ty Try.prog 4).td = _; rw [ty4])
    Try.laidOut (by kernel_rfl) (by kernel_rfl) (fun xss h => by rw [Try.params7] at h ⊢; exact cacheOldest_row xss h)

theorem CacheOldest_holds : Rows.CacheOldestSaid :=
  OpenClaim.holds_of_wide 7 Try.f7 rfl rfl rfl rfl rfl rfl rfl ⟨rfl, rfl, rfl, rfl, rfl⟩ rfl rfl rfl rfl rfl (by kernel_rfl) Try.func7 (by kernel_rfl)
    (of_decide_eq_true (by kernel_rfl)) (by unfold Func.isWrapper; first | (rw [if_pos (by decide +kernel)]; kernel_rfl) | (rw [if_neg (by decide +kernel)]; exact ⟨rfl, rfl⟩))
    (fun os started H enc _ => CacheOldest_lifted os started H enc)

end Go.Proofs.Ytoofpcploeanpaa
