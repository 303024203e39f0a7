/- The contract of publisherref38.joined: words with gaps between them. -/
import Derived.Test.YtdneicipdlofiaaGreatDoorKName
namespace Go.Proofs.YtdneicipdlofiaaGreatDoor
open Go.RowKit
set_option linter.unusedVariables false
set_option linter.unusedSimpArgs false
end Go.Proofs.YtdneicipdlofiaaGreatDoor

