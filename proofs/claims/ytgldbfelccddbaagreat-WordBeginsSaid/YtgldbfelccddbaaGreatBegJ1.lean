/-
 The closed facts of the row of WordBegins, joined.
-/
import Derived.Test.YtgldbfelccddbaaGreatRows
import Derived.Test.YtgldbfelccddbaaGreatBegK1
set_option maxRecDepth 100000
set_option maxHeartbeats 2000000
set_option linter.unusedSimpArgs false
set_option linter.unusedVariables false
namespace Go.Proofs.YtgldbfelccddbaaGreat
open Go Go.RowKit Go.ChangeShapes Go.WideShapes
theorem zdA:joinedFacts Tryz.checked.prog 3 Tryz.f3 Rows.wordBeginsSpec Rows.wordBeginsRow=true:=by
 unfold joinedFacts
 repeat' (with_reducible refine Bool.and_eq_true_iff.2 ⟨?_,?_⟩)
 all_goals first|with_reducible exact zf1|with_reducible exact zf2|with_reducible exact zf3|with_reducible exact zf4|with_reducible exact zf5|with_reducible exact zf6|with_reducible exact zf7|with_reducible exact zf8|with_reducible exact zf9|with_reducible exact zga|with_reducible exact ze8|with_reducible exact ze9|with_reducible exact zfa|with_reducible exact zfb|kernel_rfl
end Go.Proofs.YtgldbfelccddbaaGreat
