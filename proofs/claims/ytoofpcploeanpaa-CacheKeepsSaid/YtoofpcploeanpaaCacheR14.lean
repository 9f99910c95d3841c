/-
  CacheKeeps: whatever the input, the law returns true, and each argument reads behind the call as it read before. No further condition.
-/
import Derived.Test.YtoofpcploeanpaaRows
import Derived.Test.YtoofpcploeanpaaAwLaw
import Derived.Test.YtoofpcploeanpaaCacheL
namespace Go.Proofs.Ytoofpcploeanpaa
set_option maxRecDepth 100000
set_option linter.unusedSimpArgs false
set_option linter.unusedVariables false
open Go Go.Aw Go.RowKit Go.ChangeShapes Go.WideShapes

theorem Try.own : ownKnob Try.prog.godebug = none := by kernel_rfl
theorem Try.laidOut : laidOutB Try.prog = true := by kernel_rfl

theorem cacheKeeps_row (xss : List (List D)) (h : DTys Try.prog [42, 62] xss) : ACall Try.prog 14 0 (argAVs Try.prog [42, 62] xss) [] (fun r _ => r = .d (.bool true)) := by
  obtain ⟨x, r, rfl, h1, y, r2, rfl, h2, h3⟩ := h
  simp only [DTys] at h3
  subst h3
  obtain ⟨l, hl, rfl⟩ := blks_dty h1
  obtain ⟨g, rfl⟩ := ints_dty h2
  have e : argAV Try.prog 42 [.sl 3 (l.map blkD)] = .d (.sl 3 (l.map blkD)) := by simp only [argAV, ty42]
  have e2 : argAV Try.prog 62 [.sl 1 (g.map intD)] = .d (.sl 1 (g.map intD)) := by simp only [argAV, ty62]
  simp only [argAVs, e, e2]
  exact cacheKeeps_law l g hl

theorem CacheKeeps_lifted (os : Os) (started : os.Started) (H : Type) (enc : TypeId × Value → H) :
    ReturnsInHanded {} Try.checked os 14 .any (Rows.cacheKeepsSpec.pre6 enc Try.prog Try.f14 Rows.cacheKeepsRow.domain false) (Rows.cacheKeepsSpec.post enc Try.prog Try.f14 false true false false) :=
  law_lifted (C := Try.checked) (tb := 4) Try.own started (by kernel_rfl) Try.func14
    (ChangeSpec.witness6 (enc := enc) (C := Try.checked) false ⟨#[], #[.slice none 0 0, .slice none 0 0], []⟩ 8 (by kernel_rfl) (by kernel_rfl) (by kernel_rfl) (by kernel_rfl))
    rfl (fun ds hd => by rw [Try.params14] at hd; match ds, hd with | [_, _], _ => rfl) (by kernel_rfl) (by show (ty Try.prog 4).td = _; rw [ty4])
    Try.laidOut (by kernel_rfl) (by kernel_rfl) (fun xss h => by rw [Try.params14] at h ⊢; exact cacheKeeps_row xss h)

theorem CacheKeeps_holds : Rows.CacheKeepsSaid :=
  OpenClaim.holds_of_wide 14 Try.f14 rfl rfl rfl rfl rfl rfl rfl ⟨rfl, rfl, rfl, rfl, rfl⟩ rfl rfl rfl rfl rfl (by kernel_rfl) Try.func14 (by kernel_rfl)
    (of_decide_eq_true (by kernel_rfl)) (by unfold Func.isWrapper; first | (rw [if_pos (by decide +kernel)]; kernel_rfl) | (rw [if_neg (by decide +kernel)]; exact ⟨rfl, rfl⟩))
    (fun os started H enc _ => CacheKeeps_lifted os started H enc)

end Go.Proofs.Ytoofpcploeanpaa
