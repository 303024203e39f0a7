/- Closed facts of the seat's program, which the proofs of all its rows share (each by itself: together they ask too much memory). Closed facts of the row publisherlaw34.HtmlPlain. -/
import Derived.Test.YtclikfjalmcoaaaGreatDoorTie
import Derived.Test.YtclikfjalmcoaaaGreatDoorCards
namespace Go.Proofs.YtclikfjalmcoaaaGreatDoor
open Go
set_option maxRecDepth 100000
theorem eO {a b:Bool} (h:a=true) (k:b=true):(a&&b)=true:=by rw [h,k];rfl
theorem NZ:laidOutB Tryz.pinned.checked.prog=true:=by kernel_rfl
theorem N7:mapsRowed Tryz.pinned.checked.prog=true:=by kernel_rfl
theorem K6:(Tryz.pinned.checked.prog.stops==[])=true:=by kernel_rfl
theorem K7:(Tryz.pinned.checked.prog.stopKnobs==[])=true:=by kernel_rfl
theorem N8:(Rows.htmlLinesRow.plainKeys==Tryz.pinned.checked.prog.plainKeys)=true:=by kernel_rfl
theorem K9:Tryz.pinned.checked.prog.stopsHeard=true:=by kernel_rfl
theorem La:Tryz.pinned.checked.prog.mayEnter=true:=by kernel_rfl
theorem N9:(Rows.htmlLinesRow.lifted==Tryz.pinned.checked.prog.liftsFinal)=true:=by kernel_rfl
theorem Oa:(Tryz.pinned.checked.prog.make==some Rows.htmlLinesRow.make)=true:=by kernel_rfl
theorem NY:Tryz.pinned.checked.prog.mainIs=some (Rows.htmlLinesCard.stood.harness.1,Rows.htmlLinesCard.stood.harness.2.toList):=by kernel_rfl
theorem K5:false=Tryz.pinned.checked.prog.looks []:=by kernel_rfl
end Go.Proofs.YtclikfjalmcoaaaGreatDoor
namespace Go.Proofs.YtclikfjalmcoaaaGreatDoor.iB
open Go
theorem k9:(Rows.htmlPlainRow.inPlace==Tryz.pinned.checked.prog.inPlace 6)=true:=by kernel_rfl
theorem k10:(Rows.htmlPlainRow.unfollowed==Tryz.pinned.checked.prog.unfollowed 6)=true:=by kernel_rfl
theorem k11:(Rows.htmlPlainRow.recurses==Tryz.pinned.checked.prog.recurses 6)=true:=by kernel_rfl
theorem k12:(Rows.htmlPlainRow.named==Tryz.pinned.checked.prog.varsNamed 6)=true:=by kernel_rfl
theorem named:Tryz.pinned.checked.prog.funcNamed Rows.htmlPlainRow.func=some 6:=by kernel_rfl
theorem goes:false=Rows.htmlPlainRow.goesBy Tryz.pinned.checked.prog:=by kernel_rfl
theorem closed:joinedFacts Tryz.pinned.checked.prog 6 Tryz.f6 Rows.htmlPlainSpec Rows.htmlPlainRow=true:=by unfold joinedFacts;exact (eO (eO (eO (eO (eO (eO (eO (eO (eO (eO (eO (eO (eO (eO (eO (eO (eO (eO (eO (eO (eO (eO (eO (eO (eO (eO (eO (eO (eO (eO (eO (by kernel_rfl) NZ) N7) (by kernel_rfl)) (by kernel_rfl)) (by kernel_rfl)) K6) (by kernel_rfl)) K7) k9) k10) k11) k12) (by kernel_rfl)) (by kernel_rfl)) (by kernel_rfl)) (by kernel_rfl)) (by kernel_rfl)) (by kernel_rfl)) (by kernel_rfl)) (by kernel_rfl)) (by kernel_rfl)) ((congrArg (fun m=>m==Tryz.pinned.checked.prog.plainKeys) (rfl:Rows.htmlPlainRow.plainKeys=Rows.htmlLinesRow.plainKeys)).trans N8)) (by kernel_rfl)) K9) La) ((congrArg (fun m=>m==Tryz.pinned.checked.prog.liftsFinal) (rfl:Rows.htmlPlainRow.lifted=Rows.htmlLinesRow.lifted)).trans N9)) ((congrArg (fun m=>Tryz.pinned.checked.prog.make==some m) (rfl:Rows.htmlPlainRow.make=Rows.htmlLinesRow.make)).trans Oa)) (by kernel_rfl)) (by kernel_rfl)) (by kernel_rfl)) (by kernel_rfl))
end Go.Proofs.YtclikfjalmcoaaaGreatDoor.iB

