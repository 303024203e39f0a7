/- Contracts of count.kindOf, caption. -/
import Derived.Test.YtklhajbpfelliaaGreatDoorKNdW
import Derived.BigGuardPart
namespace Go.Proofs.YtklhajbpfelliaaGreatDoor
open Go.RowKit
set_option linter.unusedVariables false
set_option linter.unusedSimpArgs false
end Go.Proofs.YtklhajbpfelliaaGreatDoor

