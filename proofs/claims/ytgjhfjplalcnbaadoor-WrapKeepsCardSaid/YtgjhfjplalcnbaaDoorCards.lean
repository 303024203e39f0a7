/-
  DERIVED. GIVEN WITH THE SEED: THE CARDS: each row of YtgjhfjplalcnbaaDoorRows.lean that lists a variable, with what it lists TIED to the program's text (the seventh form; the later family's looks); each row that meets fmt, with fmt's text TOLD by the authors' own Lean function (tested against real Go, not proved from fmt's source: count such statements apart). THE CARD IS WHAT COUNTS. Prove the row's statement (the work); the ties are given (YtgjhfjplalcnbaaDoorTie.lean); close each card by the builder's one call (the guide's Derived/Test/ToyasCard.lean, 'card_holds'). Laid BY PROGRAM, IN A SANDBOX (cutbox-door.mjs). By AI agents, Wed Nov 11 2026. No macro, syntax, notation, axiom, sorry.
-/
import Derived.Test.YtgjhfjplalcnbaaDoorRows
import GoSem.ClaimSeven
namespace Go.Proofs.YtgjhfjplalcnbaaDoor
namespace Rows

/-- THE TIED CARD OF 'publisherlaw38.WrapLines'. -/
def wrapLinesCard : Claim7 := { stood := { row := wrapLinesRow, standIns := [], harness := (true, "37dd14f1136e767b8ef0758c3a2e431ff29c5db3fb1d1329ac58df2db1c02fce"), looks := false }, kinds := [], alts := [], laidByText := true, laidKinds := [.data], laidTests := true, laidLooks := .later }
def WrapLinesCardSaid : Prop := Claim7.holds Tryd.pinned (.plain (OpenSpec.ofChange wrapLinesSpec)) wrapLinesCard

/-- THE TIED CARD OF 'publisherlaw38.WrapCenters'. -/
def wrapCentersCard : Claim7 := { stood := { row := wrapCentersRow, standIns := [], harness := (true, "37dd14f1136e767b8ef0758c3a2e431ff29c5db3fb1d1329ac58df2db1c02fce"), looks := false }, kinds := [], alts := [], laidByText := true, laidKinds := [.data], laidTests := true, laidLooks := .later }
def WrapCentersCardSaid : Prop := Claim7.holds Tryd.pinned (.plain (OpenSpec.ofChange wrapCentersSpec)) wrapCentersCard

/-- THE TIED CARD OF 'publisherlaw38.WrapJustifies'. -/
def wrapJustifiesCard : Claim7 := { stood := { row := wrapJustifiesRow, standIns := [], harness := (true, "37dd14f1136e767b8ef0758c3a2e431ff29c5db3fb1d1329ac58df2db1c02fce"), looks := false }, kinds := [], alts := [], laidByText := true, laidKinds := [.data], laidTests := true, laidLooks := .later }
def WrapJustifiesCardSaid : Prop := Claim7.holds Tryd.pinned (.plain (OpenSpec.ofChange wrapJustifiesSpec)) wrapJustifiesCard

/-- THE TIED CARD OF 'publisherlaw38.WrapKeeps'. -/
def wrapKeepsCard : Claim7 := { stood := { row := wrapKeepsRow, standIns := [], harness := (true, "37dd14f1136e767b8ef0758c3a2e431ff29c5db3fb1d1329ac58df2db1c02fce"), looks := false }, kinds := [], alts := [], laidByText := true, laidKinds := [.data], laidTests := true, laidLooks := .later }
def WrapKeepsCardSaid : Prop := Claim7.holds Tryd.pinned (.plain (OpenSpec.ofChange wrapKeepsSpec)) wrapKeepsCard

/-- THE SECOND FORM's CARD OF 'publisherlaw38.WrapLines'. -/
def wrapLinesUptoCard : Claim7 := { stood := { row := wrapLinesUptoRow, standIns := [], harness := (true, "37dd14f1136e767b8ef0758c3a2e431ff29c5db3fb1d1329ac58df2db1c02fce"), looks := false }, kinds := [], alts := [], laidByText := true, laidKinds := [.data], laidTests := true, laidLooks := .later }
def WrapLinesUptoCardSaid : Prop := Claim7.holds Tryd.pinned (.plain (OpenSpec.upto wrapLinesSpec)) wrapLinesUptoCard

/-- THE SECOND FORM's CARD OF 'publisherlaw38.WrapCenters'. -/
def wrapCentersUptoCard : Claim7 := { stood := { row := wrapCentersUptoRow, standIns := [], harness := (true, "37dd14f1136e767b8ef0758c3a2e431ff29c5db3fb1d1329ac58df2db1c02fce"), looks := false }, kinds := [], alts := [], laidByText := true, laidKinds := [.data], laidTests := true, laidLooks := .later }
def WrapCentersUptoCardSaid : Prop := Claim7.holds Tryd.pinned (.plain (OpenSpec.upto wrapCentersSpec)) wrapCentersUptoCard

/-- THE SECOND FORM's CARD OF 'publisherlaw38.WrapJustifies'. -/
def wrapJustifiesUptoCard : Claim7 := { stood := { row := wrapJustifiesUptoRow, standIns := [], harness := (true, "37dd14f1136e767b8ef0758c3a2e431ff29c5db3fb1d1329ac58df2db1c02fce"), looks := false }, kinds := [], alts := [], laidByText := true, laidKinds := [.data], laidTests := true, laidLooks := .later }
def WrapJustifiesUptoCardSaid : Prop := Claim7.holds Tryd.pinned (.plain (OpenSpec.upto wrapJustifiesSpec)) wrapJustifiesUptoCard

/-- THE SECOND FORM's CARD OF 'publisherlaw38.WrapKeeps'. -/
def wrapKeepsUptoCard : Claim7 := { stood := { row := wrapKeepsUptoRow, standIns := [], harness := (true, "37dd14f1136e767b8ef0758c3a2e431ff29c5db3fb1d1329ac58df2db1c02fce"), looks := false }, kinds := [], alts := [], laidByText := true, laidKinds := [.data], laidTests := true, laidLooks := .later }
def WrapKeepsUptoCardSaid : Prop := Claim7.holds Tryd.pinned (.plain (OpenSpec.upto wrapKeepsSpec)) wrapKeepsUptoCard
end Rows
end Go.Proofs.YtgjhfjplalcnbaaDoor
