/- Plain facts on code points: no program in sight. Plain part: the code points of a text, Fold, and the anchor of a text. -/
import Derived.Lib.DecodeN
import Derived.Lib.RuneBytes
namespace Go.Proofs.YtlbioncagkkkoaaDoor
set_option linter.unusedVariables false
set_option linter.unusedSimpArgs false

end Go.Proofs.YtlbioncagkkkoaaDoor

namespace Go.Proofs.YtlbioncagkkkoaaDoor

end Go.Proofs.YtlbioncagkkkoaaDoor
