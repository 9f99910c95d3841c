/-
  The closed facts on the law AuditDoes's row, joined (short names; see the row's text).
-/
import Derived.Test.YtglmbboafmmnpaaGreatDoorRows
import Derived.Test.YtglmbboafmmnpaaGreatDoorAuditK1
import Derived.Test.YtglmbboafmmnpaaGreatDoorCards
import Derived.Test.YtglmbboafmmnpaaGreatDoorTie
import Derived.Test.YtglmbboafmmnpaaGreatDoorPart2
import Derived.Test.YtglmbboafmmnpaaGreatDoorPart8
import Derived.SevenTiedAt
set_option maxRecDepth 100000
set_option maxHeartbeats 2000000
set_option linter.unusedSimpArgs false
set_option linter.unusedVariables false
namespace Go.Proofs.YtglmbboafmmnpaaGreatDoor
open Go Go.Aw Go.RowKit Go.ChangeShapes Go.WideShapes
theorem zfW:joinedFacts Tryz.pinned.checked.prog 3 Tryz.f3 Rows.auditDoesSpec Rows.auditDoesRow=true:=by
 unfold joinedFacts
 repeat' (refine Bool.and_eq_true_iff.2 ⟨?_,?_⟩)
 all_goals first|with_reducible exact zky|with_reducible exact zkz|with_reducible exact zkA|with_reducible exact zkB|with_reducible exact zkC|with_reducible exact zkD|with_reducible exact zkE|with_reducible exact zkF|with_reducible exact zkG|with_reducible exact zkH|with_reducible exact zi7|with_reducible exact zi8|with_reducible exact zi9|with_reducible exact zja|kernel_rfl
end Go.Proofs.YtglmbboafmmnpaaGreatDoor
