/- Contracts of count.kindOf, caption. -/
import Derived.Test.YtdneicipdlofiaaGreatDoorKPlNum
import Derived.BigGuardPart
namespace Go.Proofs.YtdneicipdlofiaaGreatDoor
open Go.RowKit
set_option linter.unusedVariables false
set_option linter.unusedSimpArgs false
end Go.Proofs.YtdneicipdlofiaaGreatDoor

