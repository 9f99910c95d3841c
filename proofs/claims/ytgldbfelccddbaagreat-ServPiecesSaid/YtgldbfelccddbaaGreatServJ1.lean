/-
 The closed facts of the row of ServPieces, joined.
-/
import Derived.Test.YtgldbfelccddbaaGreatRows
import Derived.Test.YtgldbfelccddbaaGreatServK1
set_option maxRecDepth 100000
set_option maxHeartbeats 2000000
set_option linter.unusedSimpArgs false
set_option linter.unusedVariables false
namespace Go.Proofs.YtgldbfelccddbaaGreat
open Go Go.RowKit Go.ChangeShapes Go.WideShapes
theorem zgS:joinedFacts Tryz.checked.prog 4 Tryz.f4 Rows.servPiecesSpec Rows.servPiecesRow=true:=by
 unfold joinedFacts
 repeat' (with_reducible refine Bool.and_eq_true_iff.2 ⟨?_,?_⟩)
 all_goals first|with_reducible exact zkl|with_reducible exact zkm|with_reducible exact zkn|with_reducible exact zko|with_reducible exact zkp|with_reducible exact zkq|with_reducible exact zkr|with_reducible exact zks|with_reducible exact zkt|with_reducible exact zku|with_reducible exact zi0|with_reducible exact zi1|with_reducible exact zi2|with_reducible exact zi3|kernel_rfl
end Go.Proofs.YtgldbfelccddbaaGreat
