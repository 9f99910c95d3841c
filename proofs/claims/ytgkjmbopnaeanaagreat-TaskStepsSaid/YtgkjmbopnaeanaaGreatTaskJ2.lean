/-
 The closed facts of the row of TaskSteps, joined.
-/
import Derived.Test.YtgkjmbopnaeanaaGreatRows
import Derived.Test.YtgkjmbopnaeanaaGreatTaskK2
set_option maxRecDepth 100000
set_option maxHeartbeats 2000000
set_option linter.unusedSimpArgs false
set_option linter.unusedVariables false
namespace Go.Proofs.YtgkjmbopnaeanaaGreat
open Go Go.RowKit Go.ChangeShapes Go.WideShapes
theorem zhu:joinedFacts Tryz.checked.prog 5 Tryz.f5 Rows.taskStepsSpec Rows.taskStepsRow=true:=by
 unfold joinedFacts
 repeat' (refine Bool.and_eq_true_iff.2 ⟨?_,?_⟩)
 all_goals first|with_reducible exact zmv|with_reducible exact zmw|with_reducible exact zmx|with_reducible exact zmy|with_reducible exact zmz|with_reducible exact zmA|with_reducible exact zmB|with_reducible exact zmC|with_reducible exact zmD|with_reducible exact zmE|with_reducible exact zkU|with_reducible exact zkV|with_reducible exact zkW|with_reducible exact zkX|kernel_rfl
end Go.Proofs.YtgkjmbopnaeanaaGreat
