/-
  DERIVED. GIVEN WITH THE SEED: THE CARDS: each row of YtnmldmofggkoeaaGreatDoorRows.lean that lists a variable, with what it lists TIED to the program's text (the seventh form; the later family's looks); each row that meets fmt, with fmt's text TOLD by the authors' own Lean function (tested against real Go, not proved from fmt's source: count such statements apart). THE CARD IS WHAT COUNTS. Prove the row's statement (the work); the ties are given (YtnmldmofggkoeaaGreatDoorTie.lean); close each card by the builder's one call (the guide's Derived/Test/ToyasCard.lean, 'card_holds'). Laid BY PROGRAM, IN A SANDBOX (cutbox-door.mjs). By AI agents, Wed Nov 11 2026. No macro, syntax, notation, axiom, sorry.
-/
import Derived.Test.YtnmldmofggkoeaaGreatDoorRows
import GoSem.ClaimSeven
namespace Go.Proofs.YtnmldmofggkoeaaGreatDoor
namespace Rows

/-- THE TIED CARD OF 'publisherlaw39.BoxesCheck'. -/
def boxesCheckCard : Claim7 := { stood := { row := boxesCheckRow, standIns := [], harness := (true, "1cc7172101ba0c9b5d60e389bbb9c61e6d4c750e13304d9495f7bcdfc180e302"), looks := false }, kinds := [], alts := [], laidByText := true, laidKinds := [.data, .data, .data, .data, .data, .pinned], laidTests := true, laidLooks := .later }
def BoxesCheckCardSaid : Prop := Claim7.holds Tryz.pinned (.plain (OpenSpec.ofChange boxesCheckSpec)) boxesCheckCard

/-- THE TIED CARD OF 'publisherlaw39.BoxesAnchors'. -/
def boxesAnchorsCard : Claim7 := { stood := { row := boxesAnchorsRow, standIns := [], harness := (true, "1cc7172101ba0c9b5d60e389bbb9c61e6d4c750e13304d9495f7bcdfc180e302"), looks := false }, kinds := [], alts := [], laidByText := true, laidKinds := [.data, .data, .data, .data, .data, .pinned], laidTests := true, laidLooks := .later }
def BoxesAnchorsCardSaid : Prop := Claim7.holds Tryz.pinned (.plain (OpenSpec.ofChange boxesAnchorsSpec)) boxesAnchorsCard

/-- THE TIED CARD OF 'publisherlaw39.BoxesWords'. -/
def boxesWordsCard : Claim7 := { stood := { row := boxesWordsRow, standIns := [], harness := (true, "1cc7172101ba0c9b5d60e389bbb9c61e6d4c750e13304d9495f7bcdfc180e302"), looks := false }, kinds := [], alts := [], laidByText := true, laidKinds := [.data, .data, .data, .data, .data, .pinned], laidTests := true, laidLooks := .later }
def BoxesWordsCardSaid : Prop := Claim7.holds Tryz.pinned (.plain (OpenSpec.ofChange boxesWordsSpec)) boxesWordsCard

/-- THE SECOND FORM's CARD OF 'publisherlaw39.BoxesCheck'. -/
def boxesCheckUptoCard : Claim7 := { stood := { row := boxesCheckUptoRow, standIns := [], harness := (true, "1cc7172101ba0c9b5d60e389bbb9c61e6d4c750e13304d9495f7bcdfc180e302"), looks := false }, kinds := [], alts := [], laidByText := true, laidKinds := [.data, .data, .data, .data, .data, .pinned], laidTests := true, laidLooks := .later }
def BoxesCheckUptoCardSaid : Prop := Claim7.holds Tryz.pinned (.plain (OpenSpec.upto boxesCheckSpec)) boxesCheckUptoCard

/-- THE SECOND FORM's CARD OF 'publisherlaw39.BoxesAnchors'. -/
def boxesAnchorsUptoCard : Claim7 := { stood := { row := boxesAnchorsUptoRow, standIns := [], harness := (true, "1cc7172101ba0c9b5d60e389bbb9c61e6d4c750e13304d9495f7bcdfc180e302"), looks := false }, kinds := [], alts := [], laidByText := true, laidKinds := [.data, .data, .data, .data, .data, .pinned], laidTests := true, laidLooks := .later }
def BoxesAnchorsUptoCardSaid : Prop := Claim7.holds Tryz.pinned (.plain (OpenSpec.upto boxesAnchorsSpec)) boxesAnchorsUptoCard

/-- THE SECOND FORM's CARD OF 'publisherlaw39.BoxesWords'. -/
def boxesWordsUptoCard : Claim7 := { stood := { row := boxesWordsUptoRow, standIns := [], harness := (true, "1cc7172101ba0c9b5d60e389bbb9c61e6d4c750e13304d9495f7bcdfc180e302"), looks := false }, kinds := [], alts := [], laidByText := true, laidKinds := [.data, .data, .data, .data, .data, .pinned], laidTests := true, laidLooks := .later }
def BoxesWordsUptoCardSaid : Prop := Claim7.holds Tryz.pinned (.plain (OpenSpec.upto boxesWordsSpec)) boxesWordsUptoCard
end Rows
end Go.Proofs.YtnmldmofggkoeaaGreatDoor
