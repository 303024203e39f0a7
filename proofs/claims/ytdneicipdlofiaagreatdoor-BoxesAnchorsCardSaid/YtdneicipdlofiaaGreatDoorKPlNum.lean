/- Plain part: the numbers of a document: sections, figures, tables, equations, notes. -/
import Derived.Test.YtdneicipdlofiaaGreatDoorKRwC
import Derived.Test.YtdneicipdlofiaaGreatDoorKPlParse
namespace Go.Proofs.YtdneicipdlofiaaGreatDoor
set_option linter.unusedVariables false
set_option linter.unusedSimpArgs false
end Go.Proofs.YtdneicipdlofiaaGreatDoor

