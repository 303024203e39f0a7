/- The witness of a row that lists five tables of the library: a world in which they are laid; the table of powers of ten lies in memory. -/
import Derived.Test.YtkfnkeflalcphaaGreatDoorRows
import Derived.Test.YtkfnkeflalcphaaGreatDoorMSlugAll
import Derived.Test.YtkfnkeflalcphaaGreatDoorMSame
import Derived.LaidMore
import Derived.Lay
import Derived.Stop.Joined
namespace Go.Proofs.YtkfnkeflalcphaaGreatDoor
open Go.Proofs.Tryz
open Go.ChangeShapes Go.WideShapes Go.ChangeAt Go.RowKit
set_option linter.unusedVariables false
set_option linter.unusedSimpArgs false
theorem own:ownKnob prog.godebug=none:=by kernel_rfl
theorem laidOut:laidOutB prog=true:=by kernel_rfl
theorem jyx : prog.globalNamed "internal/strconv.uint64pow10" = some 1 := by kernel_rfl
theorem jE3:(prog.globals[1]?).map (·.type)=some 235:=by kernel_rfl
abbrev xK : List (String × DataW Unit) := [("math/bits.deBruijn32tab", Rows.laid_math_bits_deBruijn32tab), ("math/bits.deBruijn64tab", Rows.laid_math_bits_deBruijn64tab), ("internal/strconv.uint64pow10", Rows.laid_internal_strconv_uint64pow10), ("unicode/utf8.acceptRanges", Rows.laid_unicode_utf8_acceptRanges), ("unicode/utf8.first", Rows.laid_unicode_utf8_first)]
theorem MQ (os:Os):(World.laidAll prog os xK).Shaped prog:=World.shaped_of_ZipB (by kernel_rfl) (by kernel_rfl)
theorem ZP (os:Os) (args:Array Value):laidMetH prog xK ((World.laidAll prog os xK).forCall (fun _ _=>0) ⟨#[],args,[]⟩).memory:=by rw [MakeChecks.laidMetH_plain _ _ _ (by kernel_rfl)];exact laidMet_laidAll _ (by kernel_rfl) (by kernel_rfl)
theorem ZQ {W:World} (h:laidMetH prog xK W):PT W:=by
 rw [MakeChecks.laidMetH_plain _ _ _ (by kernel_rfl)] at h;obtain ⟨ps,⟨g0,t0,cs0,f0,p0,q0,hg0,ht0,hv0,hd0,hr0,_⟩,_⟩:=h;obtain ⟨g1,t1,cs1,f1,p1,q1,hg1,ht1,hv1,hd1,hr1,_⟩:=hr0;obtain ⟨g2,t2,cs2,f2,p2,q2,hg2,ht2,hv2,hd2,_,_⟩:=hr1;obtain rfl:=Option.some.inj (jyx.symm.trans hg2);obtain rfl:=Option.some.inj (jE3.symm.trans ht2);have ht : Lib.TabIs prog W "internal/strconv.uint64pow10" .u64 Lib.pow10Tab := by
  unfold Lib.TabIs;rw [hv2,<- Lib.cells_of_tab (zs:=Lib.pow10Tab) underlying235 underlying215 (by kernel_rfl) (by kernel_rfl) hd2]
 exact ⟨nX (ht.cell jyx 0 (by decide)),ht⟩
end Go.Proofs.YtkfnkeflalcphaaGreatDoor

