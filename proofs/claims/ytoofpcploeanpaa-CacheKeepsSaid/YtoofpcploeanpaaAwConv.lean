/-
  Regions with conversions of texts: as all other regions.
-/
import Derived.Test.YtoofpcploeanpaaAwDraw4
namespace Go.Aw
set_option maxRecDepth 100000
set_option linter.unusedSimpArgs false
set_option linter.unusedVariables false
open Go
end Go.Aw
