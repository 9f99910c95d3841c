/-
  What an argument of layer 24's laws reads as.
-/
import Derived.Test.YtoofpcploeanpaaRows
import Derived.Test.YtoofpcploeanpaaAwLaw
import Derived.Test.YtoofpcploeanpaaC24B
namespace Go.Proofs.Ytoofpcploeanpaa
set_option maxRecDepth 100000
set_option linter.unusedSimpArgs false
set_option linter.unusedVariables false
open Go Go.Aw Go.RowKit Go.ChangeShapes Go.WideShapes

theorem Try.own : ownKnob Try.prog.godebug = none := by kernel_rfl
theorem Try.laidOut : laidOutB Try.prog = true := by kernel_rfl

theorem req_dty {x : List D} (h : DTy Try.prog 9 30 x) : ∃ fl kind ck ofs len s, x = [.int .i64 fl, .int .i64 kind, .int .u64 ck, .int .u64 ofs, .int .u32 len, .str s] ∧ 0 ≤ len ∧ argAV Try.prog 30 x = .agg [.d (.int .i64 fl), .d (.int .i64 kind), .d (.int .u64 ck), .d (.int .u64 ofs), .d (.int .u32 len), .d (.str s)] := by
  simp only [DTy, DTy.fields, ty30, ty3, ty27, ty28, ty9] at h
  obtain ⟨a1, b1, rfl, ⟨n1, rfl, _⟩, a2, b2, rfl, ⟨n2, rfl, _⟩, a3, b3, rfl, ⟨n3, rfl, _⟩, a4, b4, rfl, ⟨n4, rfl, _⟩, a5, b5, rfl, ⟨n5, rfl, h5, _⟩, a6, b6, rfl, ⟨n6, rfl, _⟩, rfl⟩ := h
  exact ⟨n1, n2, n3, n4, n5, n6, rfl, h5, by simp only [argAV, ty30]; rfl⟩

theorem export_dty {x : List D} (h : DTy Try.prog 9 33 x) : ∃ size maps, x = [.int .u64 size, .sl 1 maps] ∧ argAV Try.prog 33 x = .agg [.d (.int .u64 size), .d (.sl 1 maps)] := by
  simp only [DTy, DTy.fields, ty33, ty27, ty31, ty9] at h
  obtain ⟨a1, b1, rfl, ⟨n1, rfl, _⟩, a2, b2, rfl, ⟨n2, rfl, _⟩, rfl⟩ := h
  exact ⟨n1, n2, rfl, by simp only [argAV, ty33]; rfl⟩

theorem nego_dty {x : List D} (h : DTy Try.prog 9 36 x) : ∃ a b c ch metas, x = [.int .i64 a, .str b, .bool c, .bool ch, .sl 1 metas] ∧ argAV Try.prog 36 x = .agg [.d (.int .i64 a), .d (.str b), .d (.bool c), .d (.bool ch), .d (.sl 1 metas)] := by
  simp only [DTy, DTy.fields, ty36, ty3, ty9, ty4, ty34, ty28] at h
  obtain ⟨a1, b1, rfl, ⟨n1, rfl, _⟩, a2, b2, rfl, ⟨n2, rfl, _⟩, a3, b3, rfl, ⟨n3, rfl⟩, a4, b4, rfl, ⟨n4, rfl⟩, a5, b5, rfl, ⟨n5, rfl, _⟩, rfl⟩ := h
  exact ⟨n1, n2, n3, n4, n5, rfl, by simp only [argAV, ty36]; rfl⟩
end Go.Proofs.Ytoofpcploeanpaa
