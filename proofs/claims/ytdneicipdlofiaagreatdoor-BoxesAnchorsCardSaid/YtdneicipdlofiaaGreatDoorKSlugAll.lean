/- Maps of the call's own with texts as keys: numbers. The contract of slug.All. -/
import Derived.Test.YtdneicipdlofiaaGreatDoorKRowE
import Derived.Lib.AppendIntMem
namespace Go.Proofs.YtdneicipdlofiaaGreatDoor
open Go.RowKit Go.Maps
set_option linter.unusedVariables false
set_option linter.unusedSimpArgs false
open Go.RowKit
def PT (w : World) : Prop := 2 < w.heap.size ∧ Lib.TabIs Tryz.prog w "internal/strconv.uint64pow10" .u64 Lib.pow10Tab
theorem PT.below {w w':World} (h:PT w) (hb:Below w.heap.size w w'):PT w':=by
 refine ⟨Nat.lt_of_lt_of_le h.1 hb.size,?_⟩;have hg : Tryz.prog.globalNamed "internal/strconv.uint64pow10" = some 2 := by kernel_rfl
 have h2:=h.2;unfold Lib.TabIs World.var? at h2 ⊢;rw [hg] at h2 ⊢;simp only [Option.bind_some] at h2 ⊢;rw [hb.block _ h.1];exact h2
end Go.Proofs.YtdneicipdlofiaaGreatDoor

