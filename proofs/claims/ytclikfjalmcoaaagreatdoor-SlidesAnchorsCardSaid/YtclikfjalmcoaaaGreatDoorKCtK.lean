/- Contracts of count.kindOf, caption. -/
import Derived.Test.YtclikfjalmcoaaaGreatDoorKPlLd
import Derived.Test.YtclikfjalmcoaaaGreatDoorKChA
import Derived.BigGuardPart
namespace Go.Proofs.YtclikfjalmcoaaaGreatDoor
open Go.RowKit
set_option linter.unusedVariables false
set_option linter.unusedSimpArgs false
end Go.Proofs.YtclikfjalmcoaaaGreatDoor

