/-
 The closed facts of the row of TaskReplies, joined.
-/
import Derived.Test.YtgkjmbopnaeanaaGreatRows
import Derived.Test.YtgkjmbopnaeanaaGreatTaskK1
set_option maxRecDepth 100000
set_option maxHeartbeats 2000000
set_option linter.unusedSimpArgs false
set_option linter.unusedVariables false
namespace Go.Proofs.YtgkjmbopnaeanaaGreat
open Go Go.RowKit Go.ChangeShapes Go.WideShapes
theorem zgd:joinedFacts Tryz.checked.prog 3 Tryz.f3 Rows.taskRepliesSpec Rows.taskRepliesRow=true:=by
 unfold joinedFacts
 repeat' (refine Bool.and_eq_true_iff.2 ⟨?_,?_⟩)
 all_goals first|with_reducible exact ziS|with_reducible exact ziT|with_reducible exact ziU|with_reducible exact ziV|with_reducible exact ziW|with_reducible exact ziX|with_reducible exact ziY|with_reducible exact ziZ|with_reducible exact zi0|with_reducible exact zi1|with_reducible exact zhS|with_reducible exact zhT|with_reducible exact zhU|with_reducible exact zhV|kernel_rfl
end Go.Proofs.YtgkjmbopnaeanaaGreat
