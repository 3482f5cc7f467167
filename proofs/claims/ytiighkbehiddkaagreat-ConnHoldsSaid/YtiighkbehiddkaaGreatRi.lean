/-
 The reference: equal responses.
-/
import Derived.Test.YtiighkbehiddkaaGreatRh
namespace Go.Proofs.YtiighkbehiddkaaGreat
open Go.RowKit
set_option linter.unusedVariables false
set_option maxRecDepth 4000
end Go.Proofs.YtiighkbehiddkaaGreat