/- Contracts of count.kindOf, caption. -/
import Derived.Test.YtkfnkeflalcphaaGreatDoorMNdW
import Derived.BigGuardPart
namespace Go.Proofs.YtkfnkeflalcphaaGreatDoor
open Go.RowKit
set_option linter.unusedVariables false
set_option linter.unusedSimpArgs false
end Go.Proofs.YtkfnkeflalcphaaGreatDoor

