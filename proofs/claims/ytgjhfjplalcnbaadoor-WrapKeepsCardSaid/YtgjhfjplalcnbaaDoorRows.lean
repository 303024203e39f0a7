/-
  NARROWER THAN 'FOR EVERY INPUT', by the rows' own cells (each row's printed sentence says how): WrapLines: laid · WrapCenters: laid · WrapJustifies: laid · WrapKeeps: laid.
  DERIVED. THE GIVEN ROWS OF THIS SEAT. 4 by the template 'for every input the law returns true; each argument reads behind the call as it read before'; 0 by the template 'total and deterministic' (their statements: YtgjhfjplalcnbaaDoorTotals.lean).
  GIVEN WITH THE SEED: the statements are not yours to turn. If you find one false, say at which input.
  Laid BY PROGRAM, IN A SANDBOX (cutbox-rows.mjs): the forced cells as the released guide's own fill.sh prints them over the translation 27154ef193bf3ff7… (all of the seat's roots in one cut). By AI agents, Wed Nov 11 2026. No macro, syntax, notation, axiom, sorry.
-/
import Derived.Test.YtgjhfjplalcnbaaDoorChecked
import GoSem.Claim
import GoSem.ClaimJoined
import GoSem.ClaimMapViews
import Derived.JoinedTies
import Derived.KernelRfl
namespace Go.Proofs.YtgjhfjplalcnbaaDoor
/- THE CELL 'sum', in the pinned program and in every row, IS THE sha256 OF THE DUMP (.gsa) THAT YtgjhfjplalcnbaaDoorProg.lean LOADS. Nothing in Lean hashes anything: it is a label: what it is worth is what the hold of that sum in a sandbox is worth. -/
noncomputable def Tryd.pinned : Pinned := { name := "ytgjhfjplalcnbaadoor", sum := "27154ef193bf3ff79499c2e73ac6d30de1fe002bcdf95591844520eeb40ae74e", checked := Tryd.checked }
namespace Rows
def none {H : Type} : Left H := { results := [], args := [] }

/- WHAT THE LISTED PACKAGE-LEVEL VARIABLES READ AS WHEN THE CALL BEGINS. Each datum BY PROGRAM (the guide's laid-datum.mjs) off the statement by which the dump's own 'gosem.cut.vars' lays the variable. In a bare row this is a premise. The card (YtgjhfjplalcnbaaDoorCards.lean) ties it to the program's text. -/
def laid_publisher_font_ascii {H : Type} : DataW H := .agg [.lit (.int .u8 30), .lit (.int .u8 25), .lit (.int .u8 50), .lit (.int .u8 50), .lit (.int .u8 50), .lit (.int .u8 85), .lit (.int .u8 70), .lit (.int .u8 25), .lit (.int .u8 30), .lit (.int .u8 30), .lit (.int .u8 50), .lit (.int .u8 50), .lit (.int .u8 25), .lit (.int .u8 30), .lit (.int .u8 25), .lit (.int .u8 30), .lit (.int .u8 50), .lit (.int .u8 50), .lit (.int .u8 50), .lit (.int .u8 50), .lit (.int .u8 50), .lit (.int .u8 50), .lit (.int .u8 50), .lit (.int .u8 50), .lit (.int .u8 50), .lit (.int .u8 50), .lit (.int .u8 25), .lit (.int .u8 25), .lit (.int .u8 50), .lit (.int .u8 50), .lit (.int .u8 50), .lit (.int .u8 50), .lit (.int .u8 85), .lit (.int .u8 70), .lit (.int .u8 70), .lit (.int .u8 70), .lit (.int .u8 70), .lit (.int .u8 70), .lit (.int .u8 70), .lit (.int .u8 70), .lit (.int .u8 70), .lit (.int .u8 30), .lit (.int .u8 50), .lit (.int .u8 70), .lit (.int .u8 70), .lit (.int .u8 85), .lit (.int .u8 70), .lit (.int .u8 70), .lit (.int .u8 70), .lit (.int .u8 70), .lit (.int .u8 70), .lit (.int .u8 70), .lit (.int .u8 70), .lit (.int .u8 70), .lit (.int .u8 70), .lit (.int .u8 85), .lit (.int .u8 70), .lit (.int .u8 70), .lit (.int .u8 70), .lit (.int .u8 30), .lit (.int .u8 30), .lit (.int .u8 30), .lit (.int .u8 50), .lit (.int .u8 50), .lit (.int .u8 25), .lit (.int .u8 50), .lit (.int .u8 50), .lit (.int .u8 50), .lit (.int .u8 50), .lit (.int .u8 50), .lit (.int .u8 30), .lit (.int .u8 50), .lit (.int .u8 50), .lit (.int .u8 25), .lit (.int .u8 25), .lit (.int .u8 50), .lit (.int .u8 25), .lit (.int .u8 85), .lit (.int .u8 50), .lit (.int .u8 50), .lit (.int .u8 50), .lit (.int .u8 50), .lit (.int .u8 30), .lit (.int .u8 50), .lit (.int .u8 30), .lit (.int .u8 50), .lit (.int .u8 50), .lit (.int .u8 85), .lit (.int .u8 50), .lit (.int .u8 50), .lit (.int .u8 50), .lit (.int .u8 50), .lit (.int .u8 25), .lit (.int .u8 50), .lit (.int .u8 50)]

/-- 'publisherlaw38.WrapLines': WHATEVER THE INPUT: true; the input reads as it did. -/
def wrapLinesSpec : ChangeSpec := { name := "wrapLines", fn := fun _ => fun
  | [d1, d2] => { results := [.lit (.bool true)], args := [d1, d2] }
  | _ => none }
def wrapLinesRow : OpenClaim := { program := "ytgjhfjplalcnbaadoor", sum := "27154ef193bf3ff79499c2e73ac6d30de1fe002bcdf95591844520eeb40ae74e", func := "publisher/publisherlaw38.WrapLines", spec := "wrapLines", inPlace := ["internal/abi.NoEscape", "internal/bytealg.MakeNoZero"], unfollowed := true, recurses := true, named := ["publisher/font.ascii"], apart := false, laid := [("publisher/font.ascii", laid_publisher_font_ascii)] }
def WrapLinesSaid : Prop := wrapLinesRow.holds Tryd.pinned (OpenSpec.ofChange wrapLinesSpec)

/-- ITS FALSE NEIGHBOUR: 'it returns false'. Refute it at one input. -/
def wrapLinesWrong : ChangeSpec := { name := "wrapLines", fn := fun _ => fun
  | [d1, d2] => { results := [.lit (.bool false)], args := [d1, d2] }
  | _ => none }
def WrapLinesWrongFalsely : Prop := wrapLinesRow.holds Tryd.pinned (OpenSpec.ofChange wrapLinesWrong)

/-- 'publisherlaw38.WrapCenters': WHATEVER THE INPUT: true; the input reads as it did. -/
def wrapCentersSpec : ChangeSpec := { name := "wrapCenters", fn := fun _ => fun
  | [d1, d2] => { results := [.lit (.bool true)], args := [d1, d2] }
  | _ => none }
def wrapCentersRow : OpenClaim := { program := "ytgjhfjplalcnbaadoor", sum := "27154ef193bf3ff79499c2e73ac6d30de1fe002bcdf95591844520eeb40ae74e", func := "publisher/publisherlaw38.WrapCenters", spec := "wrapCenters", inPlace := ["internal/abi.NoEscape", "internal/bytealg.MakeNoZero"], unfollowed := true, recurses := true, named := ["publisher/font.ascii"], apart := false, laid := [("publisher/font.ascii", laid_publisher_font_ascii)] }
def WrapCentersSaid : Prop := wrapCentersRow.holds Tryd.pinned (OpenSpec.ofChange wrapCentersSpec)

/-- ITS FALSE NEIGHBOUR: 'it returns false'. Refute it at one input. -/
def wrapCentersWrong : ChangeSpec := { name := "wrapCenters", fn := fun _ => fun
  | [d1, d2] => { results := [.lit (.bool false)], args := [d1, d2] }
  | _ => none }
def WrapCentersWrongFalsely : Prop := wrapCentersRow.holds Tryd.pinned (OpenSpec.ofChange wrapCentersWrong)

/-- 'publisherlaw38.WrapJustifies': WHATEVER THE INPUT: true; the input reads as it did. -/
def wrapJustifiesSpec : ChangeSpec := { name := "wrapJustifies", fn := fun _ => fun
  | [d1, d2] => { results := [.lit (.bool true)], args := [d1, d2] }
  | _ => none }
def wrapJustifiesRow : OpenClaim := { program := "ytgjhfjplalcnbaadoor", sum := "27154ef193bf3ff79499c2e73ac6d30de1fe002bcdf95591844520eeb40ae74e", func := "publisher/publisherlaw38.WrapJustifies", spec := "wrapJustifies", inPlace := ["internal/abi.NoEscape", "internal/bytealg.MakeNoZero"], unfollowed := true, recurses := true, named := ["publisher/font.ascii"], apart := false, laid := [("publisher/font.ascii", laid_publisher_font_ascii)] }
def WrapJustifiesSaid : Prop := wrapJustifiesRow.holds Tryd.pinned (OpenSpec.ofChange wrapJustifiesSpec)

/-- ITS FALSE NEIGHBOUR: 'it returns false'. Refute it at one input. -/
def wrapJustifiesWrong : ChangeSpec := { name := "wrapJustifies", fn := fun _ => fun
  | [d1, d2] => { results := [.lit (.bool false)], args := [d1, d2] }
  | _ => none }
def WrapJustifiesWrongFalsely : Prop := wrapJustifiesRow.holds Tryd.pinned (OpenSpec.ofChange wrapJustifiesWrong)

/-- 'publisherlaw38.WrapKeeps': WHATEVER THE INPUT: true; the input reads as it did. -/
def wrapKeepsSpec : ChangeSpec := { name := "wrapKeeps", fn := fun _ => fun
  | [d1, d2] => { results := [.lit (.bool true)], args := [d1, d2] }
  | _ => none }
def wrapKeepsRow : OpenClaim := { program := "ytgjhfjplalcnbaadoor", sum := "27154ef193bf3ff79499c2e73ac6d30de1fe002bcdf95591844520eeb40ae74e", func := "publisher/publisherlaw38.WrapKeeps", spec := "wrapKeeps", inPlace := ["internal/abi.NoEscape", "internal/bytealg.MakeNoZero"], unfollowed := true, recurses := true, named := ["publisher/font.ascii"], apart := false, laid := [("publisher/font.ascii", laid_publisher_font_ascii)] }
def WrapKeepsSaid : Prop := wrapKeepsRow.holds Tryd.pinned (OpenSpec.ofChange wrapKeepsSpec)

/-- ITS FALSE NEIGHBOUR: 'it returns false'. Refute it at one input. -/
def wrapKeepsWrong : ChangeSpec := { name := "wrapKeeps", fn := fun _ => fun
  | [d1, d2] => { results := [.lit (.bool false)], args := [d1, d2] }
  | _ => none }
def WrapKeepsWrongFalsely : Prop := wrapKeepsRow.holds Tryd.pinned (OpenSpec.ofChange wrapKeepsWrong)

/- THE SECOND FORM. 'bulk': how many values and letters a reading holds, each counted each time it is reached (what is shared counts as often as it is met; a slice's spare places count too). A statement '..UptoSaid' is the law's where the arguments, and the package variables that the reading takes, are together of bulk at most 1048576: NARROWER than '..Said'. Prove '..Said' where nothing that the law and all that it calls make is longer than what came in: it says more and counts as full. Else prove '..UptoSaid'. A law counts once. -/
mutual
def uptoBulk {H : Type} : DataW H → Nat
  | .lit (.string bytes) => bytes.length + 1
  | .lit _ => 1
  | .nil => 1
  | .ptr d => uptoBulk d + 1
  | .slice elems spare => uptoBulkAll elems + uptoBulkAll spare + 1
  | .agg parts => uptoBulkAll parts + 1
  | .iface _ d => uptoBulk d + 1
  | .map entries => uptoBulkEntries entries + 1
  | .held _ => 1
def uptoBulkAll {H : Type} : List (DataW H) → Nat
  | [] => 0
  | d :: r => uptoBulk d + uptoBulkAll r
def uptoBulkEntries {H : Type} : List (Lit × DataW H) → Nat
  | [] => 0
  | x :: r => uptoBulkEntry x + uptoBulkEntries r
def uptoBulkEntry {H : Type} : Lit × DataW H → Nat
  | (.string bytes, d) => bytes.length + uptoBulk d + 1
  | (_, d) => uptoBulk d + 1
 end
def uptoSmall : (H : Type) → List (DataW H) → Bool := fun _ ds => decide (uptoBulkAll ds ≤ 1048576)
def OpenSpec.upto (s : _root_.Go.ChangeSpec) : _root_.Go.OpenSpec := { _root_.Go.OpenSpec.ofChange s with cond := some uptoSmall }

/-- 'publisherlaw38.WrapLines', WHERE WHAT IT READS IS OF BULK AT MOST 1048576: true; the input reads as it did. -/
def wrapLinesUptoRow : OpenClaim := { program := "ytgjhfjplalcnbaadoor", sum := "27154ef193bf3ff79499c2e73ac6d30de1fe002bcdf95591844520eeb40ae74e", func := "publisher/publisherlaw38.WrapLines", spec := "wrapLines", inPlace := ["internal/abi.NoEscape", "internal/bytealg.MakeNoZero"], unfollowed := true, recurses := true, named := ["publisher/font.ascii"], apart := false, laid := [("publisher/font.ascii", laid_publisher_font_ascii)], narrowed := true }
def WrapLinesUptoSaid : Prop := wrapLinesUptoRow.holds Tryd.pinned (OpenSpec.upto wrapLinesSpec)

/-- 'publisherlaw38.WrapCenters', WHERE WHAT IT READS IS OF BULK AT MOST 1048576: true; the input reads as it did. -/
def wrapCentersUptoRow : OpenClaim := { program := "ytgjhfjplalcnbaadoor", sum := "27154ef193bf3ff79499c2e73ac6d30de1fe002bcdf95591844520eeb40ae74e", func := "publisher/publisherlaw38.WrapCenters", spec := "wrapCenters", inPlace := ["internal/abi.NoEscape", "internal/bytealg.MakeNoZero"], unfollowed := true, recurses := true, named := ["publisher/font.ascii"], apart := false, laid := [("publisher/font.ascii", laid_publisher_font_ascii)], narrowed := true }
def WrapCentersUptoSaid : Prop := wrapCentersUptoRow.holds Tryd.pinned (OpenSpec.upto wrapCentersSpec)

/-- 'publisherlaw38.WrapJustifies', WHERE WHAT IT READS IS OF BULK AT MOST 1048576: true; the input reads as it did. -/
def wrapJustifiesUptoRow : OpenClaim := { program := "ytgjhfjplalcnbaadoor", sum := "27154ef193bf3ff79499c2e73ac6d30de1fe002bcdf95591844520eeb40ae74e", func := "publisher/publisherlaw38.WrapJustifies", spec := "wrapJustifies", inPlace := ["internal/abi.NoEscape", "internal/bytealg.MakeNoZero"], unfollowed := true, recurses := true, named := ["publisher/font.ascii"], apart := false, laid := [("publisher/font.ascii", laid_publisher_font_ascii)], narrowed := true }
def WrapJustifiesUptoSaid : Prop := wrapJustifiesUptoRow.holds Tryd.pinned (OpenSpec.upto wrapJustifiesSpec)

/-- 'publisherlaw38.WrapKeeps', WHERE WHAT IT READS IS OF BULK AT MOST 1048576: true; the input reads as it did. -/
def wrapKeepsUptoRow : OpenClaim := { program := "ytgjhfjplalcnbaadoor", sum := "27154ef193bf3ff79499c2e73ac6d30de1fe002bcdf95591844520eeb40ae74e", func := "publisher/publisherlaw38.WrapKeeps", spec := "wrapKeeps", inPlace := ["internal/abi.NoEscape", "internal/bytealg.MakeNoZero"], unfollowed := true, recurses := true, named := ["publisher/font.ascii"], apart := false, laid := [("publisher/font.ascii", laid_publisher_font_ascii)], narrowed := true }
def WrapKeepsUptoSaid : Prop := wrapKeepsUptoRow.holds Tryd.pinned (OpenSpec.upto wrapKeepsSpec)

end Rows
end Go.Proofs.YtgjhfjplalcnbaaDoor
