/-
  DERIVED. GIVEN WITH THE SEED: THE CARDS: each row of YtjolhiofllpejaaDoorRows.lean that lists a variable, with what it lists TIED to the program's text (the seventh form; the later family's looks); each row that meets fmt, with fmt's text TOLD by the authors' own Lean function (tested against real Go, not proved from fmt's source: count such statements apart). THE CARD IS WHAT COUNTS. Prove the row's statement (the work); the ties are given (YtjolhiofllpejaaDoorTie.lean); close each card by the builder's one call (the guide's Derived/Test/ToyasCard.lean, 'card_holds'). Laid BY PROGRAM, IN A SANDBOX (cutbox-door.mjs). By AI agents, Wed Nov 11 2026. No macro, syntax, notation, axiom, sorry.
-/
import Derived.Test.YtjolhiofllpejaaDoorRows
import GoSem.ClaimSeven
namespace Go.Proofs.YtjolhiofllpejaaDoor
namespace Rows

/-- THE TIED CARD OF 'publisherlaw21.SlugOf'. -/
def slugOfCard : Claim7 := { stood := { row := slugOfRow, standIns := [], harness := (true, "30a4a9c58a38bddfa0671ad3fc696f6945d1dea6242246ee6b0724f2987c1f1f"), looks := false }, kinds := [], alts := [], laidByText := true, laidKinds := [.data, .data, .data], laidTests := true, laidLooks := .later }
def SlugOfCardSaid : Prop := Claim7.holds Tryd.pinned (.plain (OpenSpec.ofChange slugOfSpec)) slugOfCard

/-- THE TIED CARD OF 'publisherlaw21.SlugAll'. -/
def slugAllCard : Claim7 := { stood := { row := slugAllRow, standIns := [], harness := (true, "30a4a9c58a38bddfa0671ad3fc696f6945d1dea6242246ee6b0724f2987c1f1f"), looks := false }, kinds := [], alts := [], laidByText := true, laidKinds := [.data, .data, .data], laidTests := true, laidLooks := .later }
def SlugAllCardSaid : Prop := Claim7.holds Tryd.pinned (.plain (OpenSpec.ofChange slugAllSpec)) slugAllCard

/-- THE TIED CARD OF 'publisherlaw21.SlugAnchors'. -/
def slugAnchorsCard : Claim7 := { stood := { row := slugAnchorsRow, standIns := [], harness := (true, "30a4a9c58a38bddfa0671ad3fc696f6945d1dea6242246ee6b0724f2987c1f1f"), looks := false }, kinds := [], alts := [], laidByText := true, laidKinds := [.data, .data, .data], laidTests := true, laidLooks := .later }
def SlugAnchorsCardSaid : Prop := Claim7.holds Tryd.pinned (.plain (OpenSpec.ofChange slugAnchorsSpec)) slugAnchorsCard

/-- THE TIED CARD OF 'publisherlaw21.SlugNames'. -/
def slugNamesCard : Claim7 := { stood := { row := slugNamesRow, standIns := [], harness := (true, "30a4a9c58a38bddfa0671ad3fc696f6945d1dea6242246ee6b0724f2987c1f1f"), looks := false }, kinds := [], alts := [], laidByText := true, laidKinds := [.data, .data, .data], laidTests := true, laidLooks := .later }
def SlugNamesCardSaid : Prop := Claim7.holds Tryd.pinned (.plain (OpenSpec.ofChange slugNamesSpec)) slugNamesCard

/-- THE TIED CARD OF 'publisherlaw21.SlugDiffers'. -/
def slugDiffersCard : Claim7 := { stood := { row := slugDiffersRow, standIns := [], harness := (true, "30a4a9c58a38bddfa0671ad3fc696f6945d1dea6242246ee6b0724f2987c1f1f"), looks := false }, kinds := [], alts := [], laidByText := true, laidKinds := [.data, .data, .data], laidTests := true, laidLooks := .later }
def SlugDiffersCardSaid : Prop := Claim7.holds Tryd.pinned (.plain (OpenSpec.ofChange slugDiffersSpec)) slugDiffersCard

/-- THE SECOND FORM's CARD OF 'publisherlaw21.SlugOf'. -/
def slugOfUptoCard : Claim7 := { stood := { row := slugOfUptoRow, standIns := [], harness := (true, "30a4a9c58a38bddfa0671ad3fc696f6945d1dea6242246ee6b0724f2987c1f1f"), looks := false }, kinds := [], alts := [], laidByText := true, laidKinds := [.data, .data, .data], laidTests := true, laidLooks := .later }
def SlugOfUptoCardSaid : Prop := Claim7.holds Tryd.pinned (.plain (OpenSpec.upto slugOfSpec)) slugOfUptoCard

/-- THE SECOND FORM's CARD OF 'publisherlaw21.SlugAll'. -/
def slugAllUptoCard : Claim7 := { stood := { row := slugAllUptoRow, standIns := [], harness := (true, "30a4a9c58a38bddfa0671ad3fc696f6945d1dea6242246ee6b0724f2987c1f1f"), looks := false }, kinds := [], alts := [], laidByText := true, laidKinds := [.data, .data, .data], laidTests := true, laidLooks := .later }
def SlugAllUptoCardSaid : Prop := Claim7.holds Tryd.pinned (.plain (OpenSpec.upto slugAllSpec)) slugAllUptoCard

/-- THE SECOND FORM's CARD OF 'publisherlaw21.SlugAnchors'. -/
def slugAnchorsUptoCard : Claim7 := { stood := { row := slugAnchorsUptoRow, standIns := [], harness := (true, "30a4a9c58a38bddfa0671ad3fc696f6945d1dea6242246ee6b0724f2987c1f1f"), looks := false }, kinds := [], alts := [], laidByText := true, laidKinds := [.data, .data, .data], laidTests := true, laidLooks := .later }
def SlugAnchorsUptoCardSaid : Prop := Claim7.holds Tryd.pinned (.plain (OpenSpec.upto slugAnchorsSpec)) slugAnchorsUptoCard

/-- THE SECOND FORM's CARD OF 'publisherlaw21.SlugNames'. -/
def slugNamesUptoCard : Claim7 := { stood := { row := slugNamesUptoRow, standIns := [], harness := (true, "30a4a9c58a38bddfa0671ad3fc696f6945d1dea6242246ee6b0724f2987c1f1f"), looks := false }, kinds := [], alts := [], laidByText := true, laidKinds := [.data, .data, .data], laidTests := true, laidLooks := .later }
def SlugNamesUptoCardSaid : Prop := Claim7.holds Tryd.pinned (.plain (OpenSpec.upto slugNamesSpec)) slugNamesUptoCard

/-- THE SECOND FORM's CARD OF 'publisherlaw21.SlugDiffers'. -/
def slugDiffersUptoCard : Claim7 := { stood := { row := slugDiffersUptoRow, standIns := [], harness := (true, "30a4a9c58a38bddfa0671ad3fc696f6945d1dea6242246ee6b0724f2987c1f1f"), looks := false }, kinds := [], alts := [], laidByText := true, laidKinds := [.data, .data, .data], laidTests := true, laidLooks := .later }
def SlugDiffersUptoCardSaid : Prop := Claim7.holds Tryd.pinned (.plain (OpenSpec.upto slugDiffersSpec)) slugDiffersUptoCard
end Rows
end Go.Proofs.YtjolhiofllpejaaDoor
