/-
 The closed facts of the row SnapR1, joined.
-/
import Derived.Test.YtglmbboafmmnpaaGreatDoorRows
import Derived.Test.YtglmbboafmmnpaaGreatDoorSnapK1
import Derived.Test.YtglmbboafmmnpaaGreatDoorCards
import Derived.Test.YtglmbboafmmnpaaGreatDoorTie
import Derived.Test.YtglmbboafmmnpaaGreatDoorPart2
import Derived.Test.YtglmbboafmmnpaaGreatDoorPart9
import Derived.SevenTiedAt
set_option maxRecDepth 100000
set_option maxHeartbeats 2000000
set_option linter.unusedSimpArgs false
set_option linter.unusedVariables false
namespace Go.Proofs.YtglmbboafmmnpaaGreatDoor
open Go Go.Aw Go.RowKit Go.ChangeShapes Go.WideShapes
theorem zhR:joinedFacts Tryz.pinned.checked.prog 6 Tryz.f6 Rows.snapDoesSpec Rows.snapDoesRow=true:=by
 unfold joinedFacts
 repeat' (refine Bool.and_eq_true_iff.2 ⟨?_,?_⟩)
 all_goals first|with_reducible exact zmD|with_reducible exact zmE|with_reducible exact zmF|with_reducible exact zmG|with_reducible exact zmH|with_reducible exact zmI|with_reducible exact zmJ|with_reducible exact zmK|with_reducible exact zmL|with_reducible exact zmM|with_reducible exact zk8|with_reducible exact zla|with_reducible exact zlb|with_reducible exact zlc|kernel_rfl
end Go.Proofs.YtglmbboafmmnpaaGreatDoor
