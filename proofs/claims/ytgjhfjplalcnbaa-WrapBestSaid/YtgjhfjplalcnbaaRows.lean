/-
  No cell of these rows narrows 'for every input' (looked for: loops, veiled, ifaces, maps, wideKeys, modest, calm, conditions, laid).
  DERIVED. THE GIVEN ROWS OF THIS SEAT. 3 by the template 'for every input the law returns true; each argument reads behind the call as it read before'; 0 by the template 'total and deterministic' (their statements: YtgjhfjplalcnbaaTotals.lean).
  GIVEN WITH THE SEED: the statements are not yours to turn. If you find one false, say at which input.
  Laid BY PROGRAM, IN A SANDBOX (cutbox-rows.mjs): the forced cells as the released guide's own fill.sh prints them over the translation 7f5200e5abd7908f… (all of the seat's roots in one cut). By AI agents, Wed Nov 11 2026. No macro, syntax, notation, axiom, sorry.
-/
import Derived.Test.YtgjhfjplalcnbaaChecked
import GoSem.Claim
import GoSem.ClaimJoined
import GoSem.ClaimMapViews
import Derived.JoinedTies
import Derived.KernelRfl
namespace Go.Proofs.Ytgjhfjplalcnbaa
/- THE CELL 'sum', in the pinned program and in every row, IS THE sha256 OF THE DUMP (.gsa) THAT YtgjhfjplalcnbaaProg.lean LOADS. Nothing in Lean hashes anything: it is a label: what it is worth is what the hold of that sum in a sandbox is worth. -/
noncomputable def Try.pinned : Pinned := { name := "ytgjhfjplalcnbaa", sum := "7f5200e5abd7908f3442b2a92604ea895ab55a5449cfc1388cb4a2a290f8d06a", checked := Try.checked }
namespace Rows
def none {H : Type} : Left H := { results := [], args := [] }

/-- 'publisherlaw38.WrapWords': WHATEVER THE INPUT: true; the input reads as it did. -/
def wrapWordsSpec : ChangeSpec := { name := "wrapWords", fn := fun _ => fun
  | [d] => { results := [.lit (.bool true)], args := [d] }
  | _ => none }
def wrapWordsRow : OpenClaim := { program := "ytgjhfjplalcnbaa", sum := "7f5200e5abd7908f3442b2a92604ea895ab55a5449cfc1388cb4a2a290f8d06a", func := "publisher/publisherlaw38.WrapWords", spec := "wrapWords", unfollowed := true, recurses := true, apart := false }
def WrapWordsSaid : Prop := wrapWordsRow.holds Try.pinned (OpenSpec.ofChange wrapWordsSpec)

/-- ITS FALSE NEIGHBOUR: 'it returns false'. Refute it at one input. -/
def wrapWordsWrong : ChangeSpec := { name := "wrapWords", fn := fun _ => fun
  | [d] => { results := [.lit (.bool false)], args := [d] }
  | _ => none }
def WrapWordsWrongFalsely : Prop := wrapWordsRow.holds Try.pinned (OpenSpec.ofChange wrapWordsWrong)

/-- 'publisherlaw38.WrapBreaks': WHATEVER THE INPUT: true; the input reads as it did. -/
def wrapBreaksSpec : ChangeSpec := { name := "wrapBreaks", fn := fun _ => fun
  | [d1, d2, d3] => { results := [.lit (.bool true)], args := [d1, d2, d3] }
  | _ => none }
def wrapBreaksRow : OpenClaim := { program := "ytgjhfjplalcnbaa", sum := "7f5200e5abd7908f3442b2a92604ea895ab55a5449cfc1388cb4a2a290f8d06a", func := "publisher/publisherlaw38.WrapBreaks", spec := "wrapBreaks", unfollowed := true, recurses := true, apart := false }
def WrapBreaksSaid : Prop := wrapBreaksRow.holds Try.pinned (OpenSpec.ofChange wrapBreaksSpec)

/-- ITS FALSE NEIGHBOUR: 'it returns false'. Refute it at one input. -/
def wrapBreaksWrong : ChangeSpec := { name := "wrapBreaks", fn := fun _ => fun
  | [d1, d2, d3] => { results := [.lit (.bool false)], args := [d1, d2, d3] }
  | _ => none }
def WrapBreaksWrongFalsely : Prop := wrapBreaksRow.holds Try.pinned (OpenSpec.ofChange wrapBreaksWrong)

/-- 'publisherlaw38.WrapBest': WHATEVER THE INPUT: true; the input reads as it did. -/
def wrapBestSpec : ChangeSpec := { name := "wrapBest", fn := fun _ => fun
  | [d1, d2, d3, d4] => { results := [.lit (.bool true)], args := [d1, d2, d3, d4] }
  | _ => none }
def wrapBestRow : OpenClaim := { program := "ytgjhfjplalcnbaa", sum := "7f5200e5abd7908f3442b2a92604ea895ab55a5449cfc1388cb4a2a290f8d06a", func := "publisher/publisherlaw38.WrapBest", spec := "wrapBest", unfollowed := true, recurses := true, apart := false }
def WrapBestSaid : Prop := wrapBestRow.holds Try.pinned (OpenSpec.ofChange wrapBestSpec)

/-- ITS FALSE NEIGHBOUR: 'it returns false'. Refute it at one input. -/
def wrapBestWrong : ChangeSpec := { name := "wrapBest", fn := fun _ => fun
  | [d1, d2, d3, d4] => { results := [.lit (.bool false)], args := [d1, d2, d3, d4] }
  | _ => none }
def WrapBestWrongFalsely : Prop := wrapBestRow.holds Try.pinned (OpenSpec.ofChange wrapBestWrong)

/- THE SECOND FORM. 'bulk': how many values and letters a reading holds, each counted each time it is reached (what is shared counts as often as it is met; a slice's spare places count too). A statement '..UptoSaid' is the law's where the arguments, and the package variables that the reading takes, are together of bulk at most 1048576: NARROWER than '..Said'. Prove '..Said' where nothing that the law and all that it calls make is longer than what came in: it says more and counts as full. Else prove '..UptoSaid'. A law counts once. -/
mutual
def uptoBulk {H : Type} : DataW H → Nat
  | .lit (.string bytes) => bytes.length + 1
  | .lit _ => 1
  | .nil => 1
  | .ptr d => uptoBulk d + 1
  | .slice elems spare => uptoBulkAll elems + uptoBulkAll spare + 1
  | .agg parts => uptoBulkAll parts + 1
  | .iface _ d => uptoBulk d + 1
  | .map entries => uptoBulkEntries entries + 1
  | .held _ => 1
def uptoBulkAll {H : Type} : List (DataW H) → Nat
  | [] => 0
  | d :: r => uptoBulk d + uptoBulkAll r
def uptoBulkEntries {H : Type} : List (Lit × DataW H) → Nat
  | [] => 0
  | x :: r => uptoBulkEntry x + uptoBulkEntries r
def uptoBulkEntry {H : Type} : Lit × DataW H → Nat
  | (.string bytes, d) => bytes.length + uptoBulk d + 1
  | (_, d) => uptoBulk d + 1
 end
def uptoSmall : (H : Type) → List (DataW H) → Bool := fun _ ds => decide (uptoBulkAll ds ≤ 1048576)
def OpenSpec.upto (s : _root_.Go.ChangeSpec) : _root_.Go.OpenSpec := { _root_.Go.OpenSpec.ofChange s with cond := some uptoSmall }

/-- 'publisherlaw38.WrapWords', WHERE WHAT IT READS IS OF BULK AT MOST 1048576: true; the input reads as it did. -/
def wrapWordsUptoRow : OpenClaim := { program := "ytgjhfjplalcnbaa", sum := "7f5200e5abd7908f3442b2a92604ea895ab55a5449cfc1388cb4a2a290f8d06a", func := "publisher/publisherlaw38.WrapWords", spec := "wrapWords", unfollowed := true, recurses := true, apart := false, narrowed := true }
def WrapWordsUptoSaid : Prop := wrapWordsUptoRow.holds Try.pinned (OpenSpec.upto wrapWordsSpec)

/-- 'publisherlaw38.WrapBreaks', WHERE WHAT IT READS IS OF BULK AT MOST 1048576: true; the input reads as it did. -/
def wrapBreaksUptoRow : OpenClaim := { program := "ytgjhfjplalcnbaa", sum := "7f5200e5abd7908f3442b2a92604ea895ab55a5449cfc1388cb4a2a290f8d06a", func := "publisher/publisherlaw38.WrapBreaks", spec := "wrapBreaks", unfollowed := true, recurses := true, apart := false, narrowed := true }
def WrapBreaksUptoSaid : Prop := wrapBreaksUptoRow.holds Try.pinned (OpenSpec.upto wrapBreaksSpec)

/-- 'publisherlaw38.WrapBest', WHERE WHAT IT READS IS OF BULK AT MOST 1048576: true; the input reads as it did. -/
def wrapBestUptoRow : OpenClaim := { program := "ytgjhfjplalcnbaa", sum := "7f5200e5abd7908f3442b2a92604ea895ab55a5449cfc1388cb4a2a290f8d06a", func := "publisher/publisherlaw38.WrapBest", spec := "wrapBest", unfollowed := true, recurses := true, apart := false, narrowed := true }
def WrapBestUptoSaid : Prop := wrapBestUptoRow.holds Try.pinned (OpenSpec.upto wrapBestSpec)

end Rows
end Go.Proofs.Ytgjhfjplalcnbaa
