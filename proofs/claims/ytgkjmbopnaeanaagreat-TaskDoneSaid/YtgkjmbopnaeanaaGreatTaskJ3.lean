/-
 The closed facts of the row of TaskDone, joined.
-/
import Derived.Test.YtgkjmbopnaeanaaGreatRows
import Derived.Test.YtgkjmbopnaeanaaGreatTaskK3
set_option maxRecDepth 100000
set_option maxHeartbeats 2000000
set_option linter.unusedSimpArgs false
set_option linter.unusedVariables false
namespace Go.Proofs.YtgkjmbopnaeanaaGreat
open Go Go.RowKit Go.ChangeShapes Go.WideShapes
theorem ziM:joinedFacts Tryz.checked.prog 4 Tryz.f4 Rows.taskDoneSpec Rows.taskDoneRow=true:=by
 unfold joinedFacts
 repeat' (refine Bool.and_eq_true_iff.2 ⟨?_,?_⟩)
 all_goals first|with_reducible exact zoq|with_reducible exact zor|with_reducible exact zos|with_reducible exact zot|with_reducible exact zou|with_reducible exact zov|with_reducible exact zow|with_reducible exact zox|with_reducible exact zoy|with_reducible exact zoz|with_reducible exact zmF|with_reducible exact zmG|with_reducible exact zmH|with_reducible exact zmI|kernel_rfl
end Go.Proofs.YtgkjmbopnaeanaaGreat
