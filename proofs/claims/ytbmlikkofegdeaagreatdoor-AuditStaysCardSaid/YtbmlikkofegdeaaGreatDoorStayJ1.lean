/-
 The closed facts of the row StayR1, joined.
-/
import Derived.Test.YtbmlikkofegdeaaGreatDoorRows
import Derived.Test.YtbmlikkofegdeaaGreatDoorStayK1
import Derived.Test.YtbmlikkofegdeaaGreatDoorCards
import Derived.Test.YtbmlikkofegdeaaGreatDoorTie
import Derived.Test.YtbmlikkofegdeaaGreatDoorPiece8
import Derived.Test.YtbmlikkofegdeaaGreatDoorPiece42
import Derived.SevenTiedAt
set_option maxRecDepth 100000
set_option maxHeartbeats 2000000
set_option linter.unusedSimpArgs false
set_option linter.unusedVariables false
namespace Go.Proofs.YtbmlikkofegdeaaGreatDoor
open Go Go.Aw Go.RowKit Go.ChangeShapes Go.WideShapes
theorem zhB:joinedFacts Tryz.pinned.checked.prog 5 Tryz.f5 Rows.auditStaysSpec Rows.auditStaysRow=true:=by
 unfold joinedFacts;repeat' (refine Bool.and_eq_true_iff.2 ⟨?_,?_⟩)
 all_goals first|with_reducible exact zlL|with_reducible exact zlM|with_reducible exact zlN|with_reducible exact zlO|with_reducible exact zlP|with_reducible exact zlQ|with_reducible exact zlR|with_reducible exact zlS|with_reducible exact zlT|with_reducible exact zlU|with_reducible exact zjT|with_reducible exact zjU|with_reducible exact zjV|with_reducible exact zjW|kernel_rfl
end Go.Proofs.YtbmlikkofegdeaaGreatDoor
