/-
 Responses, plainly: what Read answers is what Write writes. No program in sight. No condition.
-/
import Derived.Test.YtiighkbehiddkaaGreatRp
import Derived.Test.YtiighkbehiddkaaGreatCodec
namespace Go.Proofs.YtiighkbehiddkaaGreat
open Go.RowKit
set_option linter.unusedVariables false
set_option maxRecDepth 4000
end Go.Proofs.YtiighkbehiddkaaGreat