/-
  DERIVED. GIVEN WITH THE SEED: THE CARDS: each row of YtkfnkeflalcphaaGreatDoorRows.lean that lists a variable, with what it lists TIED to the program's text (the seventh form; the later family's looks); each row that meets fmt, with fmt's text TOLD by the authors' own Lean function (tested against real Go, not proved from fmt's source: count such statements apart). THE CARD IS WHAT COUNTS. Prove the row's statement (the work); the ties are given (YtkfnkeflalcphaaGreatDoorTie.lean); close each card by the builder's one call (the guide's Derived/Test/ToyasCard.lean, 'card_holds'). Laid BY PROGRAM, IN A SANDBOX (cutbox-door.mjs). By AI agents, Wed Nov 11 2026. No macro, syntax, notation, axiom, sorry.
-/
import Derived.Test.YtkfnkeflalcphaaGreatDoorRows
import GoSem.ClaimSeven
namespace Go.Proofs.YtkfnkeflalcphaaGreatDoor
namespace Rows

/-- THE TIED CARD OF 'publisherlaw34.HtmlBlocks'. -/
def htmlBlocksCard : Claim7 := { stood := { row := htmlBlocksRow, standIns := [], harness := (true, "a5e7ce301f7ea24ee4d92dd0e3e0d1671d3ce0d6ebe82031ea4c4f6d6e25e8c2"), looks := false }, kinds := [], alts := [], laidByText := true, laidKinds := [.data, .data, .data, .data, .pinned], laidTests := true, laidLooks := .later }
def HtmlBlocksCardSaid : Prop := Claim7.holds Tryz.pinned (.plain (OpenSpec.ofChange htmlBlocksSpec)) htmlBlocksCard

/-- THE TIED CARD OF 'publisherlaw34.HtmlPages'. -/
def htmlPagesCard : Claim7 := { stood := { row := htmlPagesRow, standIns := [], harness := (true, "a5e7ce301f7ea24ee4d92dd0e3e0d1671d3ce0d6ebe82031ea4c4f6d6e25e8c2"), looks := false }, kinds := [], alts := [], laidByText := true, laidKinds := [.data, .data, .data, .data, .pinned], laidTests := true, laidLooks := .later }
def HtmlPagesCardSaid : Prop := Claim7.holds Tryz.pinned (.plain (OpenSpec.ofChange htmlPagesSpec)) htmlPagesCard

/-- THE TIED CARD OF 'publisherlaw43.SlidesOf'. -/
def slidesOfCard : Claim7 := { stood := { row := slidesOfRow, standIns := [], harness := (true, "a5e7ce301f7ea24ee4d92dd0e3e0d1671d3ce0d6ebe82031ea4c4f6d6e25e8c2"), looks := false }, kinds := [], alts := [], laidByText := true, laidKinds := [.data, .data, .data, .data, .pinned], laidTests := true, laidLooks := .later }
def SlidesOfCardSaid : Prop := Claim7.holds Tryz.pinned (.plain (OpenSpec.ofChange slidesOfSpec)) slidesOfCard

/-- THE TIED CARD OF 'publisherlaw43.SlidesPages'. -/
def slidesPagesCard : Claim7 := { stood := { row := slidesPagesRow, standIns := [], harness := (true, "a5e7ce301f7ea24ee4d92dd0e3e0d1671d3ce0d6ebe82031ea4c4f6d6e25e8c2"), looks := false }, kinds := [], alts := [], laidByText := true, laidKinds := [.data, .data, .data, .data, .pinned], laidTests := true, laidLooks := .later }
def SlidesPagesCardSaid : Prop := Claim7.holds Tryz.pinned (.plain (OpenSpec.ofChange slidesPagesSpec)) slidesPagesCard

/-- THE TIED CARD OF 'publisherlaw43.SlidesWhole'. -/
def slidesWholeCard : Claim7 := { stood := { row := slidesWholeRow, standIns := [], harness := (true, "a5e7ce301f7ea24ee4d92dd0e3e0d1671d3ce0d6ebe82031ea4c4f6d6e25e8c2"), looks := false }, kinds := [], alts := [], laidByText := true, laidKinds := [.data, .data, .data, .data, .pinned], laidTests := true, laidLooks := .later }
def SlidesWholeCardSaid : Prop := Claim7.holds Tryz.pinned (.plain (OpenSpec.ofChange slidesWholeSpec)) slidesWholeCard

/-- THE TIED CARD OF 'publisherlaw43.SlidesValid'. -/
def slidesValidCard : Claim7 := { stood := { row := slidesValidRow, standIns := [], harness := (true, "a5e7ce301f7ea24ee4d92dd0e3e0d1671d3ce0d6ebe82031ea4c4f6d6e25e8c2"), looks := false }, kinds := [], alts := [], laidByText := true, laidKinds := [.data, .data, .data, .data, .pinned], laidTests := true, laidLooks := .later }
def SlidesValidCardSaid : Prop := Claim7.holds Tryz.pinned (.plain (OpenSpec.ofChange slidesValidSpec)) slidesValidCard

/-- THE TIED CARD OF 'publisherlaw43.SlidesJoin'. -/
def slidesJoinCard : Claim7 := { stood := { row := slidesJoinRow, standIns := [], harness := (true, "a5e7ce301f7ea24ee4d92dd0e3e0d1671d3ce0d6ebe82031ea4c4f6d6e25e8c2"), looks := false }, kinds := [], alts := [], laidByText := true, laidKinds := [.data, .data, .data, .data, .pinned], laidTests := true, laidLooks := .later }
def SlidesJoinCardSaid : Prop := Claim7.holds Tryz.pinned (.plain (OpenSpec.ofChange slidesJoinSpec)) slidesJoinCard

/-- THE TIED CARD OF 'publisherlaw34.HtmlValid'. -/
def htmlValidCard : Claim7 := { stood := { row := htmlValidRow, standIns := [], harness := (true, "a5e7ce301f7ea24ee4d92dd0e3e0d1671d3ce0d6ebe82031ea4c4f6d6e25e8c2"), looks := false }, kinds := [], alts := [], laidByText := true, laidKinds := [.data, .data, .data, .data, .pinned], laidTests := true, laidLooks := .later }
def HtmlValidCardSaid : Prop := Claim7.holds Tryz.pinned (.plain (OpenSpec.ofChange htmlValidSpec)) htmlValidCard

/-- THE SECOND FORM's CARD OF 'publisherlaw34.HtmlBlocks'. -/
def htmlBlocksUptoCard : Claim7 := { stood := { row := htmlBlocksUptoRow, standIns := [], harness := (true, "a5e7ce301f7ea24ee4d92dd0e3e0d1671d3ce0d6ebe82031ea4c4f6d6e25e8c2"), looks := false }, kinds := [], alts := [], laidByText := true, laidKinds := [.data, .data, .data, .data, .pinned], laidTests := true, laidLooks := .later }
def HtmlBlocksUptoCardSaid : Prop := Claim7.holds Tryz.pinned (.plain (OpenSpec.upto htmlBlocksSpec)) htmlBlocksUptoCard

/-- THE SECOND FORM's CARD OF 'publisherlaw34.HtmlPages'. -/
def htmlPagesUptoCard : Claim7 := { stood := { row := htmlPagesUptoRow, standIns := [], harness := (true, "a5e7ce301f7ea24ee4d92dd0e3e0d1671d3ce0d6ebe82031ea4c4f6d6e25e8c2"), looks := false }, kinds := [], alts := [], laidByText := true, laidKinds := [.data, .data, .data, .data, .pinned], laidTests := true, laidLooks := .later }
def HtmlPagesUptoCardSaid : Prop := Claim7.holds Tryz.pinned (.plain (OpenSpec.upto htmlPagesSpec)) htmlPagesUptoCard

/-- THE SECOND FORM's CARD OF 'publisherlaw43.SlidesOf'. -/
def slidesOfUptoCard : Claim7 := { stood := { row := slidesOfUptoRow, standIns := [], harness := (true, "a5e7ce301f7ea24ee4d92dd0e3e0d1671d3ce0d6ebe82031ea4c4f6d6e25e8c2"), looks := false }, kinds := [], alts := [], laidByText := true, laidKinds := [.data, .data, .data, .data, .pinned], laidTests := true, laidLooks := .later }
def SlidesOfUptoCardSaid : Prop := Claim7.holds Tryz.pinned (.plain (OpenSpec.upto slidesOfSpec)) slidesOfUptoCard

/-- THE SECOND FORM's CARD OF 'publisherlaw43.SlidesPages'. -/
def slidesPagesUptoCard : Claim7 := { stood := { row := slidesPagesUptoRow, standIns := [], harness := (true, "a5e7ce301f7ea24ee4d92dd0e3e0d1671d3ce0d6ebe82031ea4c4f6d6e25e8c2"), looks := false }, kinds := [], alts := [], laidByText := true, laidKinds := [.data, .data, .data, .data, .pinned], laidTests := true, laidLooks := .later }
def SlidesPagesUptoCardSaid : Prop := Claim7.holds Tryz.pinned (.plain (OpenSpec.upto slidesPagesSpec)) slidesPagesUptoCard

/-- THE SECOND FORM's CARD OF 'publisherlaw43.SlidesWhole'. -/
def slidesWholeUptoCard : Claim7 := { stood := { row := slidesWholeUptoRow, standIns := [], harness := (true, "a5e7ce301f7ea24ee4d92dd0e3e0d1671d3ce0d6ebe82031ea4c4f6d6e25e8c2"), looks := false }, kinds := [], alts := [], laidByText := true, laidKinds := [.data, .data, .data, .data, .pinned], laidTests := true, laidLooks := .later }
def SlidesWholeUptoCardSaid : Prop := Claim7.holds Tryz.pinned (.plain (OpenSpec.upto slidesWholeSpec)) slidesWholeUptoCard

/-- THE SECOND FORM's CARD OF 'publisherlaw43.SlidesValid'. -/
def slidesValidUptoCard : Claim7 := { stood := { row := slidesValidUptoRow, standIns := [], harness := (true, "a5e7ce301f7ea24ee4d92dd0e3e0d1671d3ce0d6ebe82031ea4c4f6d6e25e8c2"), looks := false }, kinds := [], alts := [], laidByText := true, laidKinds := [.data, .data, .data, .data, .pinned], laidTests := true, laidLooks := .later }
def SlidesValidUptoCardSaid : Prop := Claim7.holds Tryz.pinned (.plain (OpenSpec.upto slidesValidSpec)) slidesValidUptoCard

/-- THE SECOND FORM's CARD OF 'publisherlaw43.SlidesJoin'. -/
def slidesJoinUptoCard : Claim7 := { stood := { row := slidesJoinUptoRow, standIns := [], harness := (true, "a5e7ce301f7ea24ee4d92dd0e3e0d1671d3ce0d6ebe82031ea4c4f6d6e25e8c2"), looks := false }, kinds := [], alts := [], laidByText := true, laidKinds := [.data, .data, .data, .data, .pinned], laidTests := true, laidLooks := .later }
def SlidesJoinUptoCardSaid : Prop := Claim7.holds Tryz.pinned (.plain (OpenSpec.upto slidesJoinSpec)) slidesJoinUptoCard

/-- THE SECOND FORM's CARD OF 'publisherlaw34.HtmlValid'. -/
def htmlValidUptoCard : Claim7 := { stood := { row := htmlValidUptoRow, standIns := [], harness := (true, "a5e7ce301f7ea24ee4d92dd0e3e0d1671d3ce0d6ebe82031ea4c4f6d6e25e8c2"), looks := false }, kinds := [], alts := [], laidByText := true, laidKinds := [.data, .data, .data, .data, .pinned], laidTests := true, laidLooks := .later }
def HtmlValidUptoCardSaid : Prop := Claim7.holds Tryz.pinned (.plain (OpenSpec.upto htmlValidSpec)) htmlValidUptoCard
end Rows
end Go.Proofs.YtkfnkeflalcphaaGreatDoor
