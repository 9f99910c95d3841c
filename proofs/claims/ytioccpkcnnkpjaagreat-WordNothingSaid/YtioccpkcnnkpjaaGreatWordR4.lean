/-
  WordNothing: whatever the input, the law returns true, and each argument reads behind the call as it read before. No further condition.
-/
import Derived.Test.YtioccpkcnnkpjaaGreatRows
import Derived.Test.YtioccpkcnnkpjaaGreatAwLaw
import Derived.Test.YtioccpkcnnkpjaaGreatWordD
namespace Go.Proofs.YtioccpkcnnkpjaaGreat
set_option maxRecDepth 100000
set_option linter.unusedSimpArgs false
set_option linter.unusedVariables false
open Go Go.Aw Go.RowKit Go.ChangeShapes Go.WideShapes

theorem Tryz.own : ownKnob Tryz.prog.godebug = none := by kernel_rfl
theorem Tryz.laidOut : laidOutB Tryz.prog = true := by kernel_rfl

theorem texts_dty {x : List D} {n : Nat} (h : DTy Tryz.prog (n + 2) 23 x) : ∃ l : List Txt, l.length ≤ 9223372036854775807 ∧ (∀ s ∈ l, s.length ≤ 9223372036854775807) ∧ x = [.sl 1 (l.map strD)] := by
  unfold DTy at h
  simp only [ty23, ty9] at h
  obtain ⟨rows, rfl, hl, hr⟩ := h
  have hr' : ∀ r ∈ rows, ∃ s : Txt, s.length ≤ 9223372036854775807 ∧ r = strD s := fun r h' => by
    have := hr r h'
    unfold DTy at this
    simp only [ty9] at this
    obtain ⟨s, rfl, hs⟩ := this
    exact ⟨s, by simpa using hs, rfl⟩
  obtain ⟨l, rfl⟩ := rows_map (e := strD) (fun r h' => (hr' r h').imp fun s h => h.2)
  refine ⟨l, by simpa using hl, fun s hs => ?_, rfl⟩
  obtain ⟨s', h1, h2⟩ := hr' (strD s) (List.mem_map_of_mem hs)
  rw [strD_inj _ _ h2]
  exact h1

theorem wordNothing_row (xss : List (List D)) (h : DTys Tryz.prog [25, 9] xss) : ACall Tryz.prog 4 0 (argAVs Tryz.prog [25, 9] xss) [] (fun r _ => r = .d (.bool true)) := by
  obtain ⟨x, r, rfl, h1, y, r2, rfl, h2, h3⟩ := h
  simp only [DTys] at h3
  subst h3
  unfold DTy at h1 h2
  simp only [ty25, ty9] at h1 h2
  obtain ⟨l, rfl, hl⟩ := h2
  simp only [DTy.fields] at h1
  obtain ⟨a1, b1, rfl, g1, a2, b2, rfl, g2, rfl⟩ := h1
  obtain ⟨names, q1, q2, rfl⟩ := texts_dty g2
  unfold DTy at g1
  simp only [ty22] at g1
  obtain ⟨n1, rfl, _⟩ := g1
  simp only [argAVs, argAV, ty9, ty25]
  exact wordNothing_law n1 names l q1 q2 (by simpa using hl)

theorem WordNothing_lifted (os : Os) (started : os.Started) (H : Type) (enc : TypeId × Value → H) :
    ReturnsInHanded {} Tryz.checked os 4 .any (Rows.wordNothingSpec.pre6 enc Tryz.prog Tryz.f4 Rows.wordNothingRow.domain false) (Rows.wordNothingSpec.post enc Tryz.prog Tryz.f4 false true false false) :=
  law_lifted (C := Tryz.checked) (tb := 4) Tryz.own started (by kernel_rfl) Tryz.func4
    (ChangeSpec.witness6 (enc := enc) (C := Tryz.checked) false ⟨#[], #[.agg #[.int .u64 0, .slice none 0 0], .string ⟨#[]⟩], []⟩ 8 (by kernel_rfl) (by kernel_rfl) (by kernel_rfl) (by kernel_rfl))
    rfl (fun ds hd => by rw [Tryz.params4] at hd; match ds, hd with | [_, _], _ => rfl) (by kernel_rfl) (by show (ty Tryz.prog 4).td = _; rw [ty4])
    Tryz.laidOut (by kernel_rfl) (by kernel_rfl) (fun xss h => by rw [Tryz.params4] at h ⊢; exact wordNothing_row xss h)

theorem WordNothing_holds : Rows.WordNothingSaid :=
  OpenClaim.holds_of_wide 4 Tryz.f4 rfl rfl rfl rfl rfl rfl rfl ⟨rfl, rfl, rfl, rfl, rfl⟩ rfl rfl rfl rfl rfl (by kernel_rfl) Tryz.func4 (by kernel_rfl)
    (of_decide_eq_true (by kernel_rfl)) (by unfold Func.isWrapper; first | (rw [if_pos (by decide +kernel)]; kernel_rfl) | (rw [if_neg (by decide +kernel)]; exact ⟨rfl, rfl⟩))
    (fun os started H enc _ => WordNothing_lifted os started H enc)

end Go.Proofs.YtioccpkcnnkpjaaGreat
