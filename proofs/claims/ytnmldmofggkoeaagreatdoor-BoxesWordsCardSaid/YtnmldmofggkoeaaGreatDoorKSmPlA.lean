/- tree.Each: what the function that it returns does with a loop's body. Plain part: what a small document's parts are bounded by. -/
import Derived.Test.YtnmldmofggkoeaaGreatDoorKEach
import Derived.Test.YtnmldmofggkoeaaGreatDoorKSmall
namespace Go.Proofs.YtnmldmofggkoeaaGreatDoor
open Go.RowKit Go.Shelf
set_option linter.unusedVariables false
set_option linter.unusedSimpArgs false
attribute [local go_sem] Oper.semAt_some
end Go.Proofs.YtnmldmofggkoeaaGreatDoor

