/-
 The closed facts of the row AuditR2, joined.
-/
import Derived.Test.YtglmbboafmmnpaaGreatDoorRows
import Derived.Test.YtglmbboafmmnpaaGreatDoorAuditK2
import Derived.Test.YtglmbboafmmnpaaGreatDoorCards
import Derived.Test.YtglmbboafmmnpaaGreatDoorTie
import Derived.Test.YtglmbboafmmnpaaGreatDoorPart2
import Derived.Test.YtglmbboafmmnpaaGreatDoorPart8
import Derived.SevenTiedAt
set_option maxRecDepth 100000
set_option maxHeartbeats 2000000
set_option linter.unusedSimpArgs false
set_option linter.unusedVariables false
namespace Go.Proofs.YtglmbboafmmnpaaGreatDoor
open Go Go.Aw Go.RowKit Go.ChangeShapes Go.WideShapes
theorem zfK:joinedFacts Tryz.pinned.checked.prog 4 Tryz.f4 Rows.auditMendsSpec Rows.auditMendsRow=true:=by
 unfold joinedFacts
 repeat' (refine Bool.and_eq_true_iff.2 ⟨?_,?_⟩)
 all_goals first|with_reducible exact zjx|with_reducible exact zjy|with_reducible exact zjz|with_reducible exact zjA|with_reducible exact zjB|with_reducible exact zjC|with_reducible exact zjD|with_reducible exact zjE|with_reducible exact zjF|with_reducible exact zjG|with_reducible exact zhO|with_reducible exact zhP|with_reducible exact zhQ|with_reducible exact zhR|kernel_rfl
end Go.Proofs.YtglmbboafmmnpaaGreatDoor
