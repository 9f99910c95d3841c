/-
 The closed facts of the row AuditR3, joined.
-/
import Derived.Test.YtglmbboafmmnpaaGreatDoorRows
import Derived.Test.YtglmbboafmmnpaaGreatDoorAuditK3
import Derived.Test.YtglmbboafmmnpaaGreatDoorCards
import Derived.Test.YtglmbboafmmnpaaGreatDoorTie
import Derived.Test.YtglmbboafmmnpaaGreatDoorPart2
import Derived.Test.YtglmbboafmmnpaaGreatDoorPart8
import Derived.SevenTiedAt
set_option maxRecDepth 100000
set_option maxHeartbeats 2000000
set_option linter.unusedSimpArgs false
set_option linter.unusedVariables false
namespace Go.Proofs.YtglmbboafmmnpaaGreatDoor
open Go Go.Aw Go.RowKit Go.ChangeShapes Go.WideShapes
theorem zfL:joinedFacts Tryz.pinned.checked.prog 5 Tryz.f5 Rows.auditFindsSpec Rows.auditFindsRow=true:=by
 unfold joinedFacts
 repeat' (refine Bool.and_eq_true_iff.2 ⟨?_,?_⟩)
 all_goals first|with_reducible exact zjH|with_reducible exact zjI|with_reducible exact zjJ|with_reducible exact zjK|with_reducible exact zjL|with_reducible exact zjM|with_reducible exact zjN|with_reducible exact zjO|with_reducible exact zjP|with_reducible exact zjQ|with_reducible exact zhU|with_reducible exact zhV|with_reducible exact zhW|with_reducible exact zhX|kernel_rfl
end Go.Proofs.YtglmbboafmmnpaaGreatDoor
