/- Closed facts of the seat's program, which the proofs of all its rows share (each by itself: together they ask too much memory). Closed facts of the row publisherlaw34.HtmlAnchors. -/
import Derived.Test.YtclikfjalmcoaaaGreatDoorTie
import Derived.Test.YtclikfjalmcoaaaGreatDoorCards
namespace Go.Proofs.YtclikfjalmcoaaaGreatDoor
open Go
set_option maxRecDepth 100000
theorem dY {a b:Bool} (h:a=true) (k:b=true):(a&&b)=true:=by rw [h,k];rfl
theorem NQ:laidOutB Tryz.pinned.checked.prog=true:=by kernel_rfl
theorem NR:mapsRowed Tryz.pinned.checked.prog=true:=by kernel_rfl
theorem KM:(Tryz.pinned.checked.prog.stops==[])=true:=by kernel_rfl
theorem KO:(Tryz.pinned.checked.prog.stopKnobs==[])=true:=by kernel_rfl
theorem NS:(Rows.htmlLinesRow.plainKeys==Tryz.pinned.checked.prog.plainKeys)=true:=by kernel_rfl
theorem KR:Tryz.pinned.checked.prog.stopsHeard=true:=by kernel_rfl
theorem KS:Tryz.pinned.checked.prog.mayEnter=true:=by kernel_rfl
theorem NU:(Rows.htmlLinesRow.lifted==Tryz.pinned.checked.prog.liftsFinal)=true:=by kernel_rfl
theorem NV:(Tryz.pinned.checked.prog.make==some Rows.htmlLinesRow.make)=true:=by kernel_rfl
theorem NP:Tryz.pinned.checked.prog.mainIs=some (Rows.htmlLinesCard.stood.harness.1,Rows.htmlLinesCard.stood.harness.2.toList):=by kernel_rfl
theorem KJ:false=Tryz.pinned.checked.prog.looks []:=by kernel_rfl
end Go.Proofs.YtclikfjalmcoaaaGreatDoor
namespace Go.Proofs.YtclikfjalmcoaaaGreatDoor.fB
open Go
theorem k9:(Rows.htmlAnchorsRow.inPlace==Tryz.pinned.checked.prog.inPlace 7)=true:=by kernel_rfl
theorem k10:(Rows.htmlAnchorsRow.unfollowed==Tryz.pinned.checked.prog.unfollowed 7)=true:=by kernel_rfl
theorem k11:(Rows.htmlAnchorsRow.recurses==Tryz.pinned.checked.prog.recurses 7)=true:=by kernel_rfl
theorem k12:(Rows.htmlAnchorsRow.named==Tryz.pinned.checked.prog.varsNamed 7)=true:=by kernel_rfl
theorem named:Tryz.pinned.checked.prog.funcNamed Rows.htmlAnchorsRow.func=some 7:=by kernel_rfl
theorem goes:false=Rows.htmlAnchorsRow.goesBy Tryz.pinned.checked.prog:=by kernel_rfl
theorem closed:joinedFacts Tryz.pinned.checked.prog 7 Tryz.f7 Rows.htmlAnchorsSpec Rows.htmlAnchorsRow=true:=by unfold joinedFacts;exact (dY (dY (dY (dY (dY (dY (dY (dY (dY (dY (dY (dY (dY (dY (dY (dY (dY (dY (dY (dY (dY (dY (dY (dY (dY (dY (dY (dY (dY (dY (dY (by kernel_rfl) NQ) NR) (by kernel_rfl)) (by kernel_rfl)) (by kernel_rfl)) KM) (by kernel_rfl)) KO) k9) k10) k11) k12) (by kernel_rfl)) (by kernel_rfl)) (by kernel_rfl)) (by kernel_rfl)) (by kernel_rfl)) (by kernel_rfl)) (by kernel_rfl)) (by kernel_rfl)) (by kernel_rfl)) ((congrArg (fun m=>m==Tryz.pinned.checked.prog.plainKeys) (rfl:Rows.htmlAnchorsRow.plainKeys=Rows.htmlLinesRow.plainKeys)).trans NS)) (by kernel_rfl)) KR) KS) ((congrArg (fun m=>m==Tryz.pinned.checked.prog.liftsFinal) (rfl:Rows.htmlAnchorsRow.lifted=Rows.htmlLinesRow.lifted)).trans NU)) ((congrArg (fun m=>Tryz.pinned.checked.prog.make==some m) (rfl:Rows.htmlAnchorsRow.make=Rows.htmlLinesRow.make)).trans NV)) (by kernel_rfl)) (by kernel_rfl)) (by kernel_rfl)) (by kernel_rfl))
end Go.Proofs.YtclikfjalmcoaaaGreatDoor.fB

