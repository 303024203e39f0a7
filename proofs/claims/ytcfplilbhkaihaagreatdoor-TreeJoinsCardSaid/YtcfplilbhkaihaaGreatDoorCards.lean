/-
  DERIVED. GIVEN WITH THE SEED: THE CARDS: each row of YtcfplilbhkaihaaGreatDoorRows.lean that lists a variable, with what it lists TIED to the program's text (the seventh form; the later family's looks); each row that meets fmt, with fmt's text TOLD by the authors' own Lean function (tested against real Go, not proved from fmt's source: count such statements apart). THE CARD IS WHAT COUNTS. Prove the row's statement (the work); the ties are given (YtcfplilbhkaihaaGreatDoorTie.lean); close each card by the builder's one call (the guide's Derived/Test/ToyasCard.lean, 'card_holds'). Laid BY PROGRAM, IN A SANDBOX (cutbox-door.mjs). By AI agents, Wed Nov 11 2026. No macro, syntax, notation, axiom, sorry.
-/
import Derived.Test.YtcfplilbhkaihaaGreatDoorRows
import GoSem.ClaimSeven
namespace Go.Proofs.YtcfplilbhkaihaaGreatDoor
namespace Rows

/-- THE TIED CARD OF 'publisherlaw04.TreeChecks'. -/
def treeChecksCard : Claim7 := { stood := { row := treeChecksRow, standIns := [], harness := (true, "ea4bd4e5700c1eee53088d7e607deb8a198d939759e7d6ad0326df7b9c11b240"), looks := false }, kinds := [], alts := [], laidByText := true, laidKinds := [.data, .pinned], laidTests := true, laidLooks := .later }
def TreeChecksCardSaid : Prop := Claim7.holds Tryz.pinned (.plain (OpenSpec.ofChange treeChecksSpec)) treeChecksCard

/-- THE TIED CARD OF 'publisherlaw04.TreeLines'. -/
def treeLinesCard : Claim7 := { stood := { row := treeLinesRow, standIns := [], harness := (true, "ea4bd4e5700c1eee53088d7e607deb8a198d939759e7d6ad0326df7b9c11b240"), looks := false }, kinds := [], alts := [], laidByText := true, laidKinds := [.data, .pinned], laidTests := true, laidLooks := .later }
def TreeLinesCardSaid : Prop := Claim7.holds Tryz.pinned (.plain (OpenSpec.ofChange treeLinesSpec)) treeLinesCard

/-- THE TIED CARD OF 'publisherlaw04.TreeSames'. -/
def treeSamesCard : Claim7 := { stood := { row := treeSamesRow, standIns := [], harness := (true, "ea4bd4e5700c1eee53088d7e607deb8a198d939759e7d6ad0326df7b9c11b240"), looks := false }, kinds := [], alts := [], laidByText := true, laidKinds := [.data, .pinned], laidTests := true, laidLooks := .later }
def TreeSamesCardSaid : Prop := Claim7.holds Tryz.pinned (.plain (OpenSpec.ofChange treeSamesSpec)) treeSamesCard

/-- THE TIED CARD OF 'publisherlaw04.TreeMerges'. -/
def treeMergesCard : Claim7 := { stood := { row := treeMergesRow, standIns := [], harness := (true, "ea4bd4e5700c1eee53088d7e607deb8a198d939759e7d6ad0326df7b9c11b240"), looks := false }, kinds := [], alts := [], laidByText := true, laidKinds := [.data, .pinned], laidTests := true, laidLooks := .later }
def TreeMergesCardSaid : Prop := Claim7.holds Tryz.pinned (.plain (OpenSpec.ofChange treeMergesSpec)) treeMergesCard

/-- THE TIED CARD OF 'publisherlaw04.TreeParts'. -/
def treePartsCard : Claim7 := { stood := { row := treePartsRow, standIns := [], harness := (true, "ea4bd4e5700c1eee53088d7e607deb8a198d939759e7d6ad0326df7b9c11b240"), looks := false }, kinds := [], alts := [], laidByText := true, laidKinds := [.data, .pinned], laidTests := true, laidLooks := .later }
def TreePartsCardSaid : Prop := Claim7.holds Tryz.pinned (.plain (OpenSpec.ofChange treePartsSpec)) treePartsCard

/-- THE TIED CARD OF 'publisherlaw04.TreeJoins'. -/
def treeJoinsCard : Claim7 := { stood := { row := treeJoinsRow, standIns := [], harness := (true, "ea4bd4e5700c1eee53088d7e607deb8a198d939759e7d6ad0326df7b9c11b240"), looks := false }, kinds := [], alts := [], laidByText := true, laidKinds := [.data, .pinned], laidTests := true, laidLooks := .later }
def TreeJoinsCardSaid : Prop := Claim7.holds Tryz.pinned (.plain (OpenSpec.ofChange treeJoinsSpec)) treeJoinsCard

/-- THE TIED CARD OF 'publisherlaw04.TreeMeasures'. -/
def treeMeasuresCard : Claim7 := { stood := { row := treeMeasuresRow, standIns := [], harness := (true, "ea4bd4e5700c1eee53088d7e607deb8a198d939759e7d6ad0326df7b9c11b240"), looks := false }, kinds := [], alts := [], laidByText := true, laidKinds := [.data, .pinned], laidTests := true, laidLooks := .later }
def TreeMeasuresCardSaid : Prop := Claim7.holds Tryz.pinned (.plain (OpenSpec.ofChange treeMeasuresSpec)) treeMeasuresCard

/-- THE SECOND FORM's CARD OF 'publisherlaw04.TreeChecks'. -/
def treeChecksUptoCard : Claim7 := { stood := { row := treeChecksUptoRow, standIns := [], harness := (true, "ea4bd4e5700c1eee53088d7e607deb8a198d939759e7d6ad0326df7b9c11b240"), looks := false }, kinds := [], alts := [], laidByText := true, laidKinds := [.data, .pinned], laidTests := true, laidLooks := .later }
def TreeChecksUptoCardSaid : Prop := Claim7.holds Tryz.pinned (.plain (OpenSpec.upto treeChecksSpec)) treeChecksUptoCard

/-- THE SECOND FORM's CARD OF 'publisherlaw04.TreeLines'. -/
def treeLinesUptoCard : Claim7 := { stood := { row := treeLinesUptoRow, standIns := [], harness := (true, "ea4bd4e5700c1eee53088d7e607deb8a198d939759e7d6ad0326df7b9c11b240"), looks := false }, kinds := [], alts := [], laidByText := true, laidKinds := [.data, .pinned], laidTests := true, laidLooks := .later }
def TreeLinesUptoCardSaid : Prop := Claim7.holds Tryz.pinned (.plain (OpenSpec.upto treeLinesSpec)) treeLinesUptoCard

/-- THE SECOND FORM's CARD OF 'publisherlaw04.TreeSames'. -/
def treeSamesUptoCard : Claim7 := { stood := { row := treeSamesUptoRow, standIns := [], harness := (true, "ea4bd4e5700c1eee53088d7e607deb8a198d939759e7d6ad0326df7b9c11b240"), looks := false }, kinds := [], alts := [], laidByText := true, laidKinds := [.data, .pinned], laidTests := true, laidLooks := .later }
def TreeSamesUptoCardSaid : Prop := Claim7.holds Tryz.pinned (.plain (OpenSpec.upto treeSamesSpec)) treeSamesUptoCard

/-- THE SECOND FORM's CARD OF 'publisherlaw04.TreeMerges'. -/
def treeMergesUptoCard : Claim7 := { stood := { row := treeMergesUptoRow, standIns := [], harness := (true, "ea4bd4e5700c1eee53088d7e607deb8a198d939759e7d6ad0326df7b9c11b240"), looks := false }, kinds := [], alts := [], laidByText := true, laidKinds := [.data, .pinned], laidTests := true, laidLooks := .later }
def TreeMergesUptoCardSaid : Prop := Claim7.holds Tryz.pinned (.plain (OpenSpec.upto treeMergesSpec)) treeMergesUptoCard

/-- THE SECOND FORM's CARD OF 'publisherlaw04.TreeParts'. -/
def treePartsUptoCard : Claim7 := { stood := { row := treePartsUptoRow, standIns := [], harness := (true, "ea4bd4e5700c1eee53088d7e607deb8a198d939759e7d6ad0326df7b9c11b240"), looks := false }, kinds := [], alts := [], laidByText := true, laidKinds := [.data, .pinned], laidTests := true, laidLooks := .later }
def TreePartsUptoCardSaid : Prop := Claim7.holds Tryz.pinned (.plain (OpenSpec.upto treePartsSpec)) treePartsUptoCard

/-- THE SECOND FORM's CARD OF 'publisherlaw04.TreeJoins'. -/
def treeJoinsUptoCard : Claim7 := { stood := { row := treeJoinsUptoRow, standIns := [], harness := (true, "ea4bd4e5700c1eee53088d7e607deb8a198d939759e7d6ad0326df7b9c11b240"), looks := false }, kinds := [], alts := [], laidByText := true, laidKinds := [.data, .pinned], laidTests := true, laidLooks := .later }
def TreeJoinsUptoCardSaid : Prop := Claim7.holds Tryz.pinned (.plain (OpenSpec.upto treeJoinsSpec)) treeJoinsUptoCard

/-- THE SECOND FORM's CARD OF 'publisherlaw04.TreeMeasures'. -/
def treeMeasuresUptoCard : Claim7 := { stood := { row := treeMeasuresUptoRow, standIns := [], harness := (true, "ea4bd4e5700c1eee53088d7e607deb8a198d939759e7d6ad0326df7b9c11b240"), looks := false }, kinds := [], alts := [], laidByText := true, laidKinds := [.data, .pinned], laidTests := true, laidLooks := .later }
def TreeMeasuresUptoCardSaid : Prop := Claim7.holds Tryz.pinned (.plain (OpenSpec.upto treeMeasuresSpec)) treeMeasuresUptoCard
end Rows
end Go.Proofs.YtcfplilbhkaihaaGreatDoor
