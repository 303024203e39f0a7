/-
  DERIVED. GIVEN WITH THE SEED: THE CARDS: each row of YtclikfjalmcoaaaGreatDoorRows.lean that lists a variable, with what it lists TIED to the program's text (the seventh form; the later family's looks); each row that meets fmt, with fmt's text TOLD by the authors' own Lean function (tested against real Go, not proved from fmt's source: count such statements apart). THE CARD IS WHAT COUNTS. Prove the row's statement (the work); the ties are given (YtclikfjalmcoaaaGreatDoorTie.lean); close each card by the builder's one call (the guide's Derived/Test/ToyasCard.lean, 'card_holds'). Laid BY PROGRAM, IN A SANDBOX (cutbox-door.mjs). By AI agents, Wed Nov 11 2026. No macro, syntax, notation, axiom, sorry.
-/
import Derived.Test.YtclikfjalmcoaaaGreatDoorRows
import GoSem.ClaimSeven
namespace Go.Proofs.YtclikfjalmcoaaaGreatDoor
namespace Rows

/-- THE TIED CARD OF 'publisherlaw34.HtmlLines'. -/
def htmlLinesCard : Claim7 := { stood := { row := htmlLinesRow, standIns := [], harness := (true, "9fb73ea45404f0098711725f568798570d0388ca4ae16dba823e981efcdf2119"), looks := false }, kinds := [], alts := [], laidByText := true, laidKinds := [.data, .data, .data, .data, .pinned], laidTests := true, laidLooks := .later }
def HtmlLinesCardSaid : Prop := Claim7.holds Tryz.pinned (.plain (OpenSpec.ofChange htmlLinesSpec)) htmlLinesCard

/-- THE TIED CARD OF 'publisherlaw34.HtmlBlocks'. -/
def htmlBlocksCard : Claim7 := { stood := { row := htmlBlocksRow, standIns := [], harness := (true, "9fb73ea45404f0098711725f568798570d0388ca4ae16dba823e981efcdf2119"), looks := false }, kinds := [], alts := [], laidByText := true, laidKinds := [.data, .data, .data, .data, .pinned], laidTests := true, laidLooks := .later }
def HtmlBlocksCardSaid : Prop := Claim7.holds Tryz.pinned (.plain (OpenSpec.ofChange htmlBlocksSpec)) htmlBlocksCard

/-- THE TIED CARD OF 'publisherlaw34.HtmlPages'. -/
def htmlPagesCard : Claim7 := { stood := { row := htmlPagesRow, standIns := [], harness := (true, "9fb73ea45404f0098711725f568798570d0388ca4ae16dba823e981efcdf2119"), looks := false }, kinds := [], alts := [], laidByText := true, laidKinds := [.data, .data, .data, .data, .pinned], laidTests := true, laidLooks := .later }
def HtmlPagesCardSaid : Prop := Claim7.holds Tryz.pinned (.plain (OpenSpec.ofChange htmlPagesSpec)) htmlPagesCard

/-- THE TIED CARD OF 'publisherlaw34.HtmlPlain'. -/
def htmlPlainCard : Claim7 := { stood := { row := htmlPlainRow, standIns := [], harness := (true, "9fb73ea45404f0098711725f568798570d0388ca4ae16dba823e981efcdf2119"), looks := false }, kinds := [], alts := [], laidByText := true, laidKinds := [.data, .data, .data, .data, .pinned], laidTests := true, laidLooks := .later }
def HtmlPlainCardSaid : Prop := Claim7.holds Tryz.pinned (.plain (OpenSpec.ofChange htmlPlainSpec)) htmlPlainCard

/-- THE TIED CARD OF 'publisherlaw34.HtmlAnchors'. -/
def htmlAnchorsCard : Claim7 := { stood := { row := htmlAnchorsRow, standIns := [], harness := (true, "9fb73ea45404f0098711725f568798570d0388ca4ae16dba823e981efcdf2119"), looks := false }, kinds := [], alts := [], laidByText := true, laidKinds := [.data, .data, .data, .data, .pinned], laidTests := true, laidLooks := .later }
def HtmlAnchorsCardSaid : Prop := Claim7.holds Tryz.pinned (.plain (OpenSpec.ofChange htmlAnchorsSpec)) htmlAnchorsCard

/-- THE TIED CARD OF 'publisherlaw43.SlidesOf'. -/
def slidesOfCard : Claim7 := { stood := { row := slidesOfRow, standIns := [], harness := (true, "9fb73ea45404f0098711725f568798570d0388ca4ae16dba823e981efcdf2119"), looks := false }, kinds := [], alts := [], laidByText := true, laidKinds := [.data, .data, .data, .data, .pinned], laidTests := true, laidLooks := .later }
def SlidesOfCardSaid : Prop := Claim7.holds Tryz.pinned (.plain (OpenSpec.ofChange slidesOfSpec)) slidesOfCard

/-- THE TIED CARD OF 'publisherlaw43.SlidesPages'. -/
def slidesPagesCard : Claim7 := { stood := { row := slidesPagesRow, standIns := [], harness := (true, "9fb73ea45404f0098711725f568798570d0388ca4ae16dba823e981efcdf2119"), looks := false }, kinds := [], alts := [], laidByText := true, laidKinds := [.data, .data, .data, .data, .pinned], laidTests := true, laidLooks := .later }
def SlidesPagesCardSaid : Prop := Claim7.holds Tryz.pinned (.plain (OpenSpec.ofChange slidesPagesSpec)) slidesPagesCard

/-- THE TIED CARD OF 'publisherlaw43.SlidesWhole'. -/
def slidesWholeCard : Claim7 := { stood := { row := slidesWholeRow, standIns := [], harness := (true, "9fb73ea45404f0098711725f568798570d0388ca4ae16dba823e981efcdf2119"), looks := false }, kinds := [], alts := [], laidByText := true, laidKinds := [.data, .data, .data, .data, .pinned], laidTests := true, laidLooks := .later }
def SlidesWholeCardSaid : Prop := Claim7.holds Tryz.pinned (.plain (OpenSpec.ofChange slidesWholeSpec)) slidesWholeCard

/-- THE TIED CARD OF 'publisherlaw43.SlidesAnchors'. -/
def slidesAnchorsCard : Claim7 := { stood := { row := slidesAnchorsRow, standIns := [], harness := (true, "9fb73ea45404f0098711725f568798570d0388ca4ae16dba823e981efcdf2119"), looks := false }, kinds := [], alts := [], laidByText := true, laidKinds := [.data, .data, .data, .data, .pinned], laidTests := true, laidLooks := .later }
def SlidesAnchorsCardSaid : Prop := Claim7.holds Tryz.pinned (.plain (OpenSpec.ofChange slidesAnchorsSpec)) slidesAnchorsCard

/-- THE TIED CARD OF 'publisherlaw43.SlidesValid'. -/
def slidesValidCard : Claim7 := { stood := { row := slidesValidRow, standIns := [], harness := (true, "9fb73ea45404f0098711725f568798570d0388ca4ae16dba823e981efcdf2119"), looks := false }, kinds := [], alts := [], laidByText := true, laidKinds := [.data, .data, .data, .data, .pinned], laidTests := true, laidLooks := .later }
def SlidesValidCardSaid : Prop := Claim7.holds Tryz.pinned (.plain (OpenSpec.ofChange slidesValidSpec)) slidesValidCard

/-- THE TIED CARD OF 'publisherlaw43.SlidesJoin'. -/
def slidesJoinCard : Claim7 := { stood := { row := slidesJoinRow, standIns := [], harness := (true, "9fb73ea45404f0098711725f568798570d0388ca4ae16dba823e981efcdf2119"), looks := false }, kinds := [], alts := [], laidByText := true, laidKinds := [.data, .data, .data, .data, .pinned], laidTests := true, laidLooks := .later }
def SlidesJoinCardSaid : Prop := Claim7.holds Tryz.pinned (.plain (OpenSpec.ofChange slidesJoinSpec)) slidesJoinCard

/-- THE TIED CARD OF 'publisherlaw34.HtmlValid'. -/
def htmlValidCard : Claim7 := { stood := { row := htmlValidRow, standIns := [], harness := (true, "9fb73ea45404f0098711725f568798570d0388ca4ae16dba823e981efcdf2119"), looks := false }, kinds := [], alts := [], laidByText := true, laidKinds := [.data, .data, .data, .data, .pinned], laidTests := true, laidLooks := .later }
def HtmlValidCardSaid : Prop := Claim7.holds Tryz.pinned (.plain (OpenSpec.ofChange htmlValidSpec)) htmlValidCard

/-- THE SECOND FORM's CARD OF 'publisherlaw34.HtmlLines'. -/
def htmlLinesUptoCard : Claim7 := { stood := { row := htmlLinesUptoRow, standIns := [], harness := (true, "9fb73ea45404f0098711725f568798570d0388ca4ae16dba823e981efcdf2119"), looks := false }, kinds := [], alts := [], laidByText := true, laidKinds := [.data, .data, .data, .data, .pinned], laidTests := true, laidLooks := .later }
def HtmlLinesUptoCardSaid : Prop := Claim7.holds Tryz.pinned (.plain (OpenSpec.upto htmlLinesSpec)) htmlLinesUptoCard

/-- THE SECOND FORM's CARD OF 'publisherlaw34.HtmlBlocks'. -/
def htmlBlocksUptoCard : Claim7 := { stood := { row := htmlBlocksUptoRow, standIns := [], harness := (true, "9fb73ea45404f0098711725f568798570d0388ca4ae16dba823e981efcdf2119"), looks := false }, kinds := [], alts := [], laidByText := true, laidKinds := [.data, .data, .data, .data, .pinned], laidTests := true, laidLooks := .later }
def HtmlBlocksUptoCardSaid : Prop := Claim7.holds Tryz.pinned (.plain (OpenSpec.upto htmlBlocksSpec)) htmlBlocksUptoCard

/-- THE SECOND FORM's CARD OF 'publisherlaw34.HtmlPages'. -/
def htmlPagesUptoCard : Claim7 := { stood := { row := htmlPagesUptoRow, standIns := [], harness := (true, "9fb73ea45404f0098711725f568798570d0388ca4ae16dba823e981efcdf2119"), looks := false }, kinds := [], alts := [], laidByText := true, laidKinds := [.data, .data, .data, .data, .pinned], laidTests := true, laidLooks := .later }
def HtmlPagesUptoCardSaid : Prop := Claim7.holds Tryz.pinned (.plain (OpenSpec.upto htmlPagesSpec)) htmlPagesUptoCard

/-- THE SECOND FORM's CARD OF 'publisherlaw34.HtmlPlain'. -/
def htmlPlainUptoCard : Claim7 := { stood := { row := htmlPlainUptoRow, standIns := [], harness := (true, "9fb73ea45404f0098711725f568798570d0388ca4ae16dba823e981efcdf2119"), looks := false }, kinds := [], alts := [], laidByText := true, laidKinds := [.data, .data, .data, .data, .pinned], laidTests := true, laidLooks := .later }
def HtmlPlainUptoCardSaid : Prop := Claim7.holds Tryz.pinned (.plain (OpenSpec.upto htmlPlainSpec)) htmlPlainUptoCard

/-- THE SECOND FORM's CARD OF 'publisherlaw34.HtmlAnchors'. -/
def htmlAnchorsUptoCard : Claim7 := { stood := { row := htmlAnchorsUptoRow, standIns := [], harness := (true, "9fb73ea45404f0098711725f568798570d0388ca4ae16dba823e981efcdf2119"), looks := false }, kinds := [], alts := [], laidByText := true, laidKinds := [.data, .data, .data, .data, .pinned], laidTests := true, laidLooks := .later }
def HtmlAnchorsUptoCardSaid : Prop := Claim7.holds Tryz.pinned (.plain (OpenSpec.upto htmlAnchorsSpec)) htmlAnchorsUptoCard

/-- THE SECOND FORM's CARD OF 'publisherlaw43.SlidesOf'. -/
def slidesOfUptoCard : Claim7 := { stood := { row := slidesOfUptoRow, standIns := [], harness := (true, "9fb73ea45404f0098711725f568798570d0388ca4ae16dba823e981efcdf2119"), looks := false }, kinds := [], alts := [], laidByText := true, laidKinds := [.data, .data, .data, .data, .pinned], laidTests := true, laidLooks := .later }
def SlidesOfUptoCardSaid : Prop := Claim7.holds Tryz.pinned (.plain (OpenSpec.upto slidesOfSpec)) slidesOfUptoCard

/-- THE SECOND FORM's CARD OF 'publisherlaw43.SlidesPages'. -/
def slidesPagesUptoCard : Claim7 := { stood := { row := slidesPagesUptoRow, standIns := [], harness := (true, "9fb73ea45404f0098711725f568798570d0388ca4ae16dba823e981efcdf2119"), looks := false }, kinds := [], alts := [], laidByText := true, laidKinds := [.data, .data, .data, .data, .pinned], laidTests := true, laidLooks := .later }
def SlidesPagesUptoCardSaid : Prop := Claim7.holds Tryz.pinned (.plain (OpenSpec.upto slidesPagesSpec)) slidesPagesUptoCard

/-- THE SECOND FORM's CARD OF 'publisherlaw43.SlidesWhole'. -/
def slidesWholeUptoCard : Claim7 := { stood := { row := slidesWholeUptoRow, standIns := [], harness := (true, "9fb73ea45404f0098711725f568798570d0388ca4ae16dba823e981efcdf2119"), looks := false }, kinds := [], alts := [], laidByText := true, laidKinds := [.data, .data, .data, .data, .pinned], laidTests := true, laidLooks := .later }
def SlidesWholeUptoCardSaid : Prop := Claim7.holds Tryz.pinned (.plain (OpenSpec.upto slidesWholeSpec)) slidesWholeUptoCard

/-- THE SECOND FORM's CARD OF 'publisherlaw43.SlidesAnchors'. -/
def slidesAnchorsUptoCard : Claim7 := { stood := { row := slidesAnchorsUptoRow, standIns := [], harness := (true, "9fb73ea45404f0098711725f568798570d0388ca4ae16dba823e981efcdf2119"), looks := false }, kinds := [], alts := [], laidByText := true, laidKinds := [.data, .data, .data, .data, .pinned], laidTests := true, laidLooks := .later }
def SlidesAnchorsUptoCardSaid : Prop := Claim7.holds Tryz.pinned (.plain (OpenSpec.upto slidesAnchorsSpec)) slidesAnchorsUptoCard

/-- THE SECOND FORM's CARD OF 'publisherlaw43.SlidesValid'. -/
def slidesValidUptoCard : Claim7 := { stood := { row := slidesValidUptoRow, standIns := [], harness := (true, "9fb73ea45404f0098711725f568798570d0388ca4ae16dba823e981efcdf2119"), looks := false }, kinds := [], alts := [], laidByText := true, laidKinds := [.data, .data, .data, .data, .pinned], laidTests := true, laidLooks := .later }
def SlidesValidUptoCardSaid : Prop := Claim7.holds Tryz.pinned (.plain (OpenSpec.upto slidesValidSpec)) slidesValidUptoCard

/-- THE SECOND FORM's CARD OF 'publisherlaw43.SlidesJoin'. -/
def slidesJoinUptoCard : Claim7 := { stood := { row := slidesJoinUptoRow, standIns := [], harness := (true, "9fb73ea45404f0098711725f568798570d0388ca4ae16dba823e981efcdf2119"), looks := false }, kinds := [], alts := [], laidByText := true, laidKinds := [.data, .data, .data, .data, .pinned], laidTests := true, laidLooks := .later }
def SlidesJoinUptoCardSaid : Prop := Claim7.holds Tryz.pinned (.plain (OpenSpec.upto slidesJoinSpec)) slidesJoinUptoCard

/-- THE SECOND FORM's CARD OF 'publisherlaw34.HtmlValid'. -/
def htmlValidUptoCard : Claim7 := { stood := { row := htmlValidUptoRow, standIns := [], harness := (true, "9fb73ea45404f0098711725f568798570d0388ca4ae16dba823e981efcdf2119"), looks := false }, kinds := [], alts := [], laidByText := true, laidKinds := [.data, .data, .data, .data, .pinned], laidTests := true, laidLooks := .later }
def HtmlValidUptoCardSaid : Prop := Claim7.holds Tryz.pinned (.plain (OpenSpec.upto htmlValidSpec)) htmlValidUptoCard
end Rows
end Go.Proofs.YtclikfjalmcoaaaGreatDoor
