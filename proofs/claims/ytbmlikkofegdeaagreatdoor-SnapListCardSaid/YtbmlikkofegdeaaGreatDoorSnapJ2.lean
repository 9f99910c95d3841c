/-
 The closed facts of the row SnapR2, joined.
-/
import Derived.Test.YtbmlikkofegdeaaGreatDoorRows
import Derived.Test.YtbmlikkofegdeaaGreatDoorSnapK2
import Derived.Test.YtbmlikkofegdeaaGreatDoorCards
import Derived.Test.YtbmlikkofegdeaaGreatDoorTie
import Derived.Test.YtbmlikkofegdeaaGreatDoorPart8
import Derived.Test.YtbmlikkofegdeaaGreatDoorPart37
import Derived.SevenTiedAt
set_option maxRecDepth 100000
set_option maxHeartbeats 2000000
set_option linter.unusedSimpArgs false
set_option linter.unusedVariables false
namespace Go.Proofs.YtbmlikkofegdeaaGreatDoor
open Go Go.Aw Go.RowKit Go.ChangeShapes Go.WideShapes
theorem zib:joinedFacts Tryz.pinned.checked.prog 4 Tryz.f4 Rows.snapListSpec Rows.snapListRow=true:=by
 unfold joinedFacts
 repeat' (refine Bool.and_eq_true_iff.2 ⟨?_,?_⟩)
 all_goals first|with_reducible exact znp|with_reducible exact znq|with_reducible exact znr|with_reducible exact zns|with_reducible exact znt|with_reducible exact znu|with_reducible exact znv|with_reducible exact znw|with_reducible exact znx|with_reducible exact zny|with_reducible exact zlJ|with_reducible exact zlK|with_reducible exact zlL|with_reducible exact zlM|kernel_rfl
end Go.Proofs.YtbmlikkofegdeaaGreatDoor
