/-
 The closed facts of the row SnapR1, joined.
-/
import Derived.Test.YtbmlikkofegdeaaGreatDoorRows
import Derived.Test.YtbmlikkofegdeaaGreatDoorSnapK1
import Derived.Test.YtbmlikkofegdeaaGreatDoorCards
import Derived.Test.YtbmlikkofegdeaaGreatDoorTie
import Derived.Test.YtbmlikkofegdeaaGreatDoorPart8
import Derived.Test.YtbmlikkofegdeaaGreatDoorPart36
import Derived.SevenTiedAt
set_option maxRecDepth 100000
set_option maxHeartbeats 2000000
set_option linter.unusedSimpArgs false
set_option linter.unusedVariables false
namespace Go.Proofs.YtbmlikkofegdeaaGreatDoor
open Go Go.Aw Go.RowKit Go.ChangeShapes Go.WideShapes
theorem zh8:joinedFacts Tryz.pinned.checked.prog 3 Tryz.f3 Rows.snapDoesSpec Rows.snapDoesRow=true:=by
 unfold joinedFacts
 repeat' (refine Bool.and_eq_true_iff.2 ⟨?_,?_⟩)
 all_goals first|with_reducible exact zne|with_reducible exact znf|with_reducible exact zng|with_reducible exact znh|with_reducible exact zni|with_reducible exact znj|with_reducible exact znk|with_reducible exact znl|with_reducible exact znm|with_reducible exact znn|with_reducible exact zly|with_reducible exact zlz|with_reducible exact zlA|with_reducible exact zlB|kernel_rfl
end Go.Proofs.YtbmlikkofegdeaaGreatDoor
