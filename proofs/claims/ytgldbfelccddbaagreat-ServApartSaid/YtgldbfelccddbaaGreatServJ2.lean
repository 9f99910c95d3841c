/-
 The closed facts of the row of ServApart, joined.
-/
import Derived.Test.YtgldbfelccddbaaGreatRows
import Derived.Test.YtgldbfelccddbaaGreatServK2
set_option maxRecDepth 100000
set_option maxHeartbeats 2000000
set_option linter.unusedSimpArgs false
set_option linter.unusedVariables false
namespace Go.Proofs.YtgldbfelccddbaaGreat
open Go Go.RowKit Go.ChangeShapes Go.WideShapes
theorem zjD:joinedFacts Tryz.checked.prog 5 Tryz.f5 Rows.servApartSpec Rows.servApartRow=true:=by
 unfold joinedFacts;repeat' (with_reducible refine Bool.and_eq_true_iff.2 ⟨?_,?_⟩)
 all_goals first|with_reducible exact zof|with_reducible exact zog|with_reducible exact zoh|with_reducible exact zoi|with_reducible exact zoj|with_reducible exact zok|with_reducible exact zol|with_reducible exact zom|with_reducible exact zon|with_reducible exact zoo|with_reducible exact zmC|with_reducible exact zmD|with_reducible exact zmE|with_reducible exact zmF|kernel_rfl
end Go.Proofs.YtgldbfelccddbaaGreat
