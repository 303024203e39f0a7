/- publisherref04.Deep, List: inlines and blocks with those in them, in document order. publisherref04.List: blocks with those in them, in document order. -/
import Derived.Test.YtnmldmofggkoeaaGreatDoorKSame
import Derived.Test.YtnmldmofggkoeaaGreatDoorKEach
namespace Go.Proofs.YtnmldmofggkoeaaGreatDoor
open Go.RowKit
set_option linter.unusedVariables false
set_option linter.unusedSimpArgs false
section
variable {T:TypeId} {k B:Nat} {w0 w w1 w2:World} {ds es:List D} {rows iP:List (List Value)} {v v':Value}
end
open Go.RowKit
end Go.Proofs.YtnmldmofggkoeaaGreatDoor

