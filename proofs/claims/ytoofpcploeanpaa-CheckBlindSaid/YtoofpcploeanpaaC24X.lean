/-
  CheckBlind: whatever the input, the law returns true, and each argument reads behind the call as it read before. No further condition.
-/
import Derived.Test.YtoofpcploeanpaaC24L
import Derived.Test.YtoofpcploeanpaaAwDraw4
namespace Go.Proofs.Ytoofpcploeanpaa
set_option maxRecDepth 100000
set_option linter.unusedSimpArgs false
set_option linter.unusedVariables false
open Go Go.Aw Go.RowKit Go.ChangeShapes Go.WideShapes

theorem blind_law (fl kind ck ofs len size a n : Int) (s b l : List UInt8) (maps metas : List (List D)) (c ch : Bool) :
    ACall Try.prog 5 0 [.agg [.d (.int .i64 fl), .d (.int .i64 kind), .d (.int .u64 ck), .d (.int .u64 ofs), .d (.int .u32 len), .d (.str s)], .agg [.d (.int .u64 size), .d (.sl 1 maps)], .agg [.d (.int .i64 a), .d (.str b), .d (.bool c), .d (.bool ch), .d (.sl 1 metas)], .d (.int .u64 n), .d (.str l)] []
      (fun r _ => r = .d (.bool true)) := by
  refine acall_of_body Try.func5 rfl (enters Try.func5 (by kernel_rfl) rfl) Try.ntmps5 (by simp) (fun base => ?_)
  refine aw_seq_regionT noTab (noTab_ok _) (fun K hK => ?_); simp only [go_sem, List.append_toArray, List.range_zero, ↓reduceIte, List.append_eq, Int.toNat_natCast, Nat.reduceAdd, Nat.reduceMul, Nat.reduceSub, Nat.reduceLT, Nat.reduceLeDiff, Nat.reduceEqDiff, Nat.reduceBEq, Int.reduceToNat, Int.reduceLT, Int.reduceLE, Int.reduceAdd, Int.reduceSub, Int.reduceMul, Int.reduceNeg, Int.reduceEq]
  refine hK _ ?_; clear hK K
  refine aw_seq_regionT noTab (noTab_ok _) (fun K hK => ?_); simp only [go_sem, List.append_toArray, List.range_zero, ↓reduceIte, List.append_eq, Int.toNat_natCast, Nat.reduceAdd, Nat.reduceMul, Nat.reduceSub, Nat.reduceLT, Nat.reduceLeDiff, Nat.reduceEqDiff, Nat.reduceBEq, Int.reduceToNat, Int.reduceLT, Int.reduceLE, Int.reduceAdd, Int.reduceSub, Int.reduceMul, Int.reduceNeg, Int.reduceEq]
  refine hK _ ?_; clear hK K
  refine aw_seq_regionT noTab (noTab_ok _) (fun K hK => ?_); simp only [go_sem, List.append_toArray, List.range_zero, ↓reduceIte, List.append_eq, Int.toNat_natCast, Nat.reduceAdd, Nat.reduceMul, Nat.reduceSub, Nat.reduceLT, Nat.reduceLeDiff, Nat.reduceEqDiff, Nat.reduceBEq, Int.reduceToNat, Int.reduceLT, Int.reduceLE, Int.reduceAdd, Int.reduceSub, Int.reduceMul, Int.reduceNeg, Int.reduceEq]
  refine hK _ ?_; clear hK K
  refine aw_seq_region_draw tabD (tabD_ok) (by kernel_rfl) (by kernel_rfl) (fun K hK => ?_); simp only [go_sem, List.append_toArray, List.range_zero, ↓reduceIte, List.append_eq, Int.toNat_natCast, Nat.reduceAdd, Nat.reduceMul, Nat.reduceSub, Nat.reduceLT, Nat.reduceLeDiff, Nat.reduceEqDiff, Nat.reduceBEq, Int.reduceToNat, Int.reduceLT, Int.reduceLE, Int.reduceAdd, Int.reduceSub, Int.reduceMul, Int.reduceNeg, Int.reduceEq]
  refine hK _ ?_; clear hK K
  refine aw_ret ?_; simp only [go_sem, List.append_toArray, List.range_zero, ↓reduceIte, List.append_eq, Int.toNat_natCast, Nat.reduceAdd, Nat.reduceMul, Nat.reduceSub, Nat.reduceLT, Nat.reduceLeDiff, Nat.reduceEqDiff, Nat.reduceBEq, Int.reduceToNat, Int.reduceLT, Int.reduceLE, Int.reduceAdd, Int.reduceSub, Int.reduceMul, Int.reduceNeg, Int.reduceEq, Try.results5]

theorem blind_row (xss : List (List D)) (h : DTys Try.prog [30, 33, 36, 27, 9] xss) : ACall Try.prog 5 0 (argAVs Try.prog [30, 33, 36, 27, 9] xss) [] (fun r _ => r = .d (.bool true)) := by
  obtain ⟨x, r, rfl, h1, y, r, rfl, h2, z, r, rfl, h3, u, r, rfl, h4, v, r, rfl, h5, rfl⟩ := h
  obtain ⟨fl, kind, ck, ofs, len, s, rfl, hl, e1⟩ := req_dty h1
  obtain ⟨size, maps, rfl, e2⟩ := export_dty h2
  obtain ⟨a, b, c, ch, metas, rfl, e3⟩ := nego_dty h3
  simp only [DTy, ty27] at h4
  obtain ⟨n, rfl, _⟩ := h4
  simp only [DTy, ty9] at h5
  obtain ⟨l, rfl, _⟩ := h5
  have e4 : argAV Try.prog 27 [.int .u64 n] = .d (.int .u64 n) := by simp only [argAV, ty27]
  have e5 : argAV Try.prog 9 [.str l] = .d (.str l) := by simp only [argAV, ty9]
  simp only [argAVs, e1, e2, e3, e4, e5]
  exact blind_law fl kind ck ofs len size a n s b l maps metas c ch

theorem CheckBlind_lifted (os : Os) (started : os.Started) (H : Type) (enc : TypeId × Value → H) :
    ReturnsInHanded {} Try.checked os 5 .any (Rows.checkBlindSpec.pre6 enc Try.prog Try.f5 Rows.checkBlindRow.domain false) (Rows.checkBlindSpec.post enc Try.prog Try.f5 false true false false) :=
  law_lifted (C := Try.checked) (tb := 4) Try.own started (by kernel_rfl) Try.func5
    (ChangeSpec.witness6 (enc := enc) (C := Try.checked) false ⟨#[], #[.agg #[.int .i64 0, .int .i64 0, .int .u64 0, .int .u64 0, .int .u32 0, .string ⟨#[]⟩], .agg #[.int .u64 0, .slice none 0 0], .agg #[.int .i64 0, .string ⟨#[]⟩, .bool false, .bool false, .slice none 0 0], .int .u64 0, .string ⟨#[]⟩], []⟩ 8 (by kernel_rfl) (by kernel_rfl) (by kernel_rfl) (by kernel_rfl))
    rfl (fun ds hd => by rw [Try.params5] at hd; match ds, hd with | [_, _, _, _, _], _ => rfl) (by kernel_rfl) (by show (ty Try.prog 4).td = _; rw [ty4])
    Try.laidOut (by kernel_rfl) (by kernel_rfl) (fun xss h => by rw [Try.params5] at h ⊢; exact blind_row xss h)

theorem CheckBlind_holds : Rows.CheckBlindSaid :=
  OpenClaim.holds_of_wide 5 Try.f5 rfl rfl rfl rfl rfl rfl rfl ⟨rfl, rfl, rfl, rfl, rfl⟩ rfl rfl rfl rfl rfl (by kernel_rfl) Try.func5 (by kernel_rfl)
    (of_decide_eq_true (by kernel_rfl)) (by unfold Func.isWrapper; first | (rw [if_pos (by decide +kernel)]; kernel_rfl) | (rw [if_neg (by decide +kernel)]; exact ⟨rfl, rfl⟩))
    (fun os started H enc _ => CheckBlind_lifted os started H enc)

end Go.Proofs.Ytoofpcploeanpaa
