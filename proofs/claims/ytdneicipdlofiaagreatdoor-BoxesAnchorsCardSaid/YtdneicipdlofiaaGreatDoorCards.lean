/-
  DERIVED. GIVEN WITH THE SEED: THE CARDS: each row of YtdneicipdlofiaaGreatDoorRows.lean that lists a variable, with what it lists TIED to the program's text (the seventh form; the later family's looks); each row that meets fmt, with fmt's text TOLD by the authors' own Lean function (tested against real Go, not proved from fmt's source: count such statements apart). THE CARD IS WHAT COUNTS. Prove the row's statement (the work); the ties are given (YtdneicipdlofiaaGreatDoorTie.lean); close each card by the builder's one call (the guide's Derived/Test/ToyasCard.lean, 'card_holds'). Laid BY PROGRAM, IN A SANDBOX (cutbox-door.mjs). By AI agents, Wed Nov 11 2026. No macro, syntax, notation, axiom, sorry.
-/
import Derived.Test.YtdneicipdlofiaaGreatDoorRows
import GoSem.ClaimSeven
namespace Go.Proofs.YtdneicipdlofiaaGreatDoor
namespace Rows

/-- THE TIED CARD OF 'publisherlaw47.RedlineDocs'. -/
def redlineDocsCard : Claim7 := { stood := { row := redlineDocsRow, standIns := [], harness := (true, "2af63472208977d832e85dc8c5d685f4aff1808c7dcdcf0360ba808056f337c9"), looks := false }, kinds := [], alts := [], laidByText := true, laidKinds := [.data, .data, .data, .data, .pinned], laidTests := true, laidLooks := .later }
def RedlineDocsCardSaid : Prop := Claim7.holds Tryz.pinned (.plain (OpenSpec.ofChange redlineDocsSpec)) redlineDocsCard

/-- THE TIED CARD OF 'publisherlaw47.RedlineBack'. -/
def redlineBackCard : Claim7 := { stood := { row := redlineBackRow, standIns := [], harness := (true, "2af63472208977d832e85dc8c5d685f4aff1808c7dcdcf0360ba808056f337c9"), looks := false }, kinds := [], alts := [], laidByText := true, laidKinds := [.data, .data, .data, .data, .pinned], laidTests := true, laidLooks := .later }
def RedlineBackCardSaid : Prop := Claim7.holds Tryz.pinned (.plain (OpenSpec.ofChange redlineBackSpec)) redlineBackCard

/-- THE TIED CARD OF 'publisherlaw47.RedlineSame'. -/
def redlineSameCard : Claim7 := { stood := { row := redlineSameRow, standIns := [], harness := (true, "2af63472208977d832e85dc8c5d685f4aff1808c7dcdcf0360ba808056f337c9"), looks := false }, kinds := [], alts := [], laidByText := true, laidKinds := [.data, .data, .data, .data, .pinned], laidTests := true, laidLooks := .later }
def RedlineSameCardSaid : Prop := Claim7.holds Tryz.pinned (.plain (OpenSpec.ofChange redlineSameSpec)) redlineSameCard

/-- THE TIED CARD OF 'publisherlaw47.RedlineNamed'. -/
def redlineNamedCard : Claim7 := { stood := { row := redlineNamedRow, standIns := [], harness := (true, "2af63472208977d832e85dc8c5d685f4aff1808c7dcdcf0360ba808056f337c9"), looks := false }, kinds := [], alts := [], laidByText := true, laidKinds := [.data, .data, .data, .data, .pinned], laidTests := true, laidLooks := .later }
def RedlineNamedCardSaid : Prop := Claim7.holds Tryz.pinned (.plain (OpenSpec.ofChange redlineNamedSpec)) redlineNamedCard

/-- THE TIED CARD OF 'publisherlaw47.RedlineSteps'. -/
def redlineStepsCard : Claim7 := { stood := { row := redlineStepsRow, standIns := [], harness := (true, "2af63472208977d832e85dc8c5d685f4aff1808c7dcdcf0360ba808056f337c9"), looks := false }, kinds := [], alts := [], laidByText := true, laidKinds := [.data, .data, .data, .data, .pinned], laidTests := true, laidLooks := .later }
def RedlineStepsCardSaid : Prop := Claim7.holds Tryz.pinned (.plain (OpenSpec.ofChange redlineStepsSpec)) redlineStepsCard

/-- THE TIED CARD OF 'publisherlaw39.BoxesAnchors'. -/
def boxesAnchorsCard : Claim7 := { stood := { row := boxesAnchorsRow, standIns := [], harness := (true, "2af63472208977d832e85dc8c5d685f4aff1808c7dcdcf0360ba808056f337c9"), looks := false }, kinds := [], alts := [], laidByText := true, laidKinds := [.data, .data, .data, .data, .data, .pinned], laidTests := true, laidLooks := .later }
def BoxesAnchorsCardSaid : Prop := Claim7.holds Tryz.pinned (.plain (OpenSpec.ofChange boxesAnchorsSpec)) boxesAnchorsCard

/-- THE SECOND FORM's CARD OF 'publisherlaw47.RedlineDocs'. -/
def redlineDocsUptoCard : Claim7 := { stood := { row := redlineDocsUptoRow, standIns := [], harness := (true, "2af63472208977d832e85dc8c5d685f4aff1808c7dcdcf0360ba808056f337c9"), looks := false }, kinds := [], alts := [], laidByText := true, laidKinds := [.data, .data, .data, .data, .pinned], laidTests := true, laidLooks := .later }
def RedlineDocsUptoCardSaid : Prop := Claim7.holds Tryz.pinned (.plain (OpenSpec.upto redlineDocsSpec)) redlineDocsUptoCard

/-- THE SECOND FORM's CARD OF 'publisherlaw47.RedlineBack'. -/
def redlineBackUptoCard : Claim7 := { stood := { row := redlineBackUptoRow, standIns := [], harness := (true, "2af63472208977d832e85dc8c5d685f4aff1808c7dcdcf0360ba808056f337c9"), looks := false }, kinds := [], alts := [], laidByText := true, laidKinds := [.data, .data, .data, .data, .pinned], laidTests := true, laidLooks := .later }
def RedlineBackUptoCardSaid : Prop := Claim7.holds Tryz.pinned (.plain (OpenSpec.upto redlineBackSpec)) redlineBackUptoCard

/-- THE SECOND FORM's CARD OF 'publisherlaw47.RedlineSame'. -/
def redlineSameUptoCard : Claim7 := { stood := { row := redlineSameUptoRow, standIns := [], harness := (true, "2af63472208977d832e85dc8c5d685f4aff1808c7dcdcf0360ba808056f337c9"), looks := false }, kinds := [], alts := [], laidByText := true, laidKinds := [.data, .data, .data, .data, .pinned], laidTests := true, laidLooks := .later }
def RedlineSameUptoCardSaid : Prop := Claim7.holds Tryz.pinned (.plain (OpenSpec.upto redlineSameSpec)) redlineSameUptoCard

/-- THE SECOND FORM's CARD OF 'publisherlaw47.RedlineNamed'. -/
def redlineNamedUptoCard : Claim7 := { stood := { row := redlineNamedUptoRow, standIns := [], harness := (true, "2af63472208977d832e85dc8c5d685f4aff1808c7dcdcf0360ba808056f337c9"), looks := false }, kinds := [], alts := [], laidByText := true, laidKinds := [.data, .data, .data, .data, .pinned], laidTests := true, laidLooks := .later }
def RedlineNamedUptoCardSaid : Prop := Claim7.holds Tryz.pinned (.plain (OpenSpec.upto redlineNamedSpec)) redlineNamedUptoCard

/-- THE SECOND FORM's CARD OF 'publisherlaw47.RedlineSteps'. -/
def redlineStepsUptoCard : Claim7 := { stood := { row := redlineStepsUptoRow, standIns := [], harness := (true, "2af63472208977d832e85dc8c5d685f4aff1808c7dcdcf0360ba808056f337c9"), looks := false }, kinds := [], alts := [], laidByText := true, laidKinds := [.data, .data, .data, .data, .pinned], laidTests := true, laidLooks := .later }
def RedlineStepsUptoCardSaid : Prop := Claim7.holds Tryz.pinned (.plain (OpenSpec.upto redlineStepsSpec)) redlineStepsUptoCard

/-- THE SECOND FORM's CARD OF 'publisherlaw39.BoxesAnchors'. -/
def boxesAnchorsUptoCard : Claim7 := { stood := { row := boxesAnchorsUptoRow, standIns := [], harness := (true, "2af63472208977d832e85dc8c5d685f4aff1808c7dcdcf0360ba808056f337c9"), looks := false }, kinds := [], alts := [], laidByText := true, laidKinds := [.data, .data, .data, .data, .data, .pinned], laidTests := true, laidLooks := .later }
def BoxesAnchorsUptoCardSaid : Prop := Claim7.holds Tryz.pinned (.plain (OpenSpec.upto boxesAnchorsSpec)) boxesAnchorsUptoCard
end Rows
end Go.Proofs.YtdneicipdlofiaaGreatDoor
