/- tree.Each: all blocks, in document order, handed to a loop's body. -/
import Derived.RangeFuncNested
import Derived.RangeFuncBound
import Derived.Shelf.RegionOpen
import Derived.OwnWalkIn
import Derived.LoopNIn
import Derived.Sort.CutIn
import Derived.Test.YtnmldmofggkoeaaGreatDoorKInlines
namespace Go.Proofs.YtnmldmofggkoeaaGreatDoor
open Go.RowKit Go.Shelf
set_option linter.unusedVariables false
set_option linter.unusedSimpArgs false
attribute [local go_sem] Oper.semAt_some
end Go.Proofs.YtnmldmofggkoeaaGreatDoor

