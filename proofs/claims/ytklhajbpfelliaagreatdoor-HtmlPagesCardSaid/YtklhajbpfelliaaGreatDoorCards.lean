/-
  DERIVED. GIVEN WITH THE SEED: THE CARDS: each row of YtklhajbpfelliaaGreatDoorRows.lean that lists a variable, with what it lists TIED to the program's text (the seventh form; the later family's looks); each row that meets fmt, with fmt's text TOLD by the authors' own Lean function (tested against real Go, not proved from fmt's source: count such statements apart). THE CARD IS WHAT COUNTS. Prove the row's statement (the work); the ties are given (YtklhajbpfelliaaGreatDoorTie.lean); close each card by the builder's one call (the guide's Derived/Test/ToyasCard.lean, 'card_holds'). Laid BY PROGRAM, IN A SANDBOX (cutbox-door.mjs). By AI agents, Wed Nov 11 2026. No macro, syntax, notation, axiom, sorry.
-/
import Derived.Test.YtklhajbpfelliaaGreatDoorRows
import GoSem.ClaimSeven
namespace Go.Proofs.YtklhajbpfelliaaGreatDoor
namespace Rows

/-- THE TIED CARD OF 'publisherlaw34.HtmlPages'. -/
def htmlPagesCard : Claim7 := { stood := { row := htmlPagesRow, standIns := [], harness := (true, "6f5f691638e16301834790eafbbbfbeda2a39e49cc21ac3365144721dfd24eae"), looks := false }, kinds := [], alts := [], laidByText := true, laidKinds := [.data, .data, .data, .data, .pinned], laidTests := true, laidLooks := .later }
def HtmlPagesCardSaid : Prop := Claim7.holds Tryz.pinned (.plain (OpenSpec.ofChange htmlPagesSpec)) htmlPagesCard

/-- THE SECOND FORM's CARD OF 'publisherlaw34.HtmlPages'. -/
def htmlPagesUptoCard : Claim7 := { stood := { row := htmlPagesUptoRow, standIns := [], harness := (true, "6f5f691638e16301834790eafbbbfbeda2a39e49cc21ac3365144721dfd24eae"), looks := false }, kinds := [], alts := [], laidByText := true, laidKinds := [.data, .data, .data, .data, .pinned], laidTests := true, laidLooks := .later }
def HtmlPagesUptoCardSaid : Prop := Claim7.holds Tryz.pinned (.plain (OpenSpec.upto htmlPagesSpec)) htmlPagesUptoCard
end Rows
end Go.Proofs.YtklhajbpfelliaaGreatDoor
