/-
  DERIVED. GIVEN WITH THE SEED: THE CARDS: each row of YtlbioncagkkkoaaDoorRows.lean that lists a variable, with what it lists TIED to the program's text (the seventh form; the later family's looks); each row that meets fmt, with fmt's text TOLD by the authors' own Lean function (tested against real Go, not proved from fmt's source: count such statements apart). THE CARD IS WHAT COUNTS. Prove the row's statement (the work); the ties are given (YtlbioncagkkkoaaDoorTie.lean); close each card by the builder's one call (the guide's Derived/Test/ToyasCard.lean, 'card_holds'). Laid BY PROGRAM, IN A SANDBOX (cutbox-door.mjs). By AI agents, Wed Nov 11 2026. No macro, syntax, notation, axiom, sorry.
-/
import Derived.Test.YtlbioncagkkkoaaDoorRows
import GoSem.ClaimSeven
namespace Go.Proofs.YtlbioncagkkkoaaDoor
namespace Rows

/-- THE TIED CARD OF 'publisherlaw24.TocList'. -/
def tocListCard : Claim7 := { stood := { row := tocListRow, standIns := [], harness := (true, "a8fb37c3012ac58360f859f1a88abb6d6c70875f781af0a894a7555f9a239d7b"), looks := false }, kinds := [], alts := [], laidByText := true, laidKinds := [.data, .data, .data], laidTests := true, laidLooks := .later }
def TocListCardSaid : Prop := Claim7.holds Tryd.pinned (.plain (OpenSpec.ofChange tocListSpec)) tocListCard

/-- THE TIED CARD OF 'publisherlaw24.TocItems'. -/
def tocItemsCard : Claim7 := { stood := { row := tocItemsRow, standIns := [], harness := (true, "a8fb37c3012ac58360f859f1a88abb6d6c70875f781af0a894a7555f9a239d7b"), looks := false }, kinds := [], alts := [], laidByText := true, laidKinds := [.data, .data, .data], laidTests := true, laidLooks := .later }
def TocItemsCardSaid : Prop := Claim7.holds Tryd.pinned (.plain (OpenSpec.ofChange tocItemsSpec)) tocItemsCard

/-- THE SECOND FORM's CARD OF 'publisherlaw24.TocList'. -/
def tocListUptoCard : Claim7 := { stood := { row := tocListUptoRow, standIns := [], harness := (true, "a8fb37c3012ac58360f859f1a88abb6d6c70875f781af0a894a7555f9a239d7b"), looks := false }, kinds := [], alts := [], laidByText := true, laidKinds := [.data, .data, .data], laidTests := true, laidLooks := .later }
def TocListUptoCardSaid : Prop := Claim7.holds Tryd.pinned (.plain (OpenSpec.upto tocListSpec)) tocListUptoCard

/-- THE SECOND FORM's CARD OF 'publisherlaw24.TocItems'. -/
def tocItemsUptoCard : Claim7 := { stood := { row := tocItemsUptoRow, standIns := [], harness := (true, "a8fb37c3012ac58360f859f1a88abb6d6c70875f781af0a894a7555f9a239d7b"), looks := false }, kinds := [], alts := [], laidByText := true, laidKinds := [.data, .data, .data], laidTests := true, laidLooks := .later }
def TocItemsUptoCardSaid : Prop := Claim7.holds Tryd.pinned (.plain (OpenSpec.upto tocItemsSpec)) tocItemsUptoCard
end Rows
end Go.Proofs.YtlbioncagkkkoaaDoor
