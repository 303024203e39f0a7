/- Closed facts of the seat's program, which the proofs of all its rows share (each by itself: together they ask too much memory). Closed facts of the row publisherlaw34.HtmlLines. -/
import Derived.Test.YtclikfjalmcoaaaGreatDoorTie
import Derived.Test.YtclikfjalmcoaaaGreatDoorCards
namespace Go.Proofs.YtclikfjalmcoaaaGreatDoor
open Go
set_option maxRecDepth 100000
theorem fM {a b:Bool} (h:a=true) (k:b=true):(a&&b)=true:=by rw [h,k];rfl
theorem Rv:laidOutB Tryz.pinned.checked.prog=true:=by kernel_rfl
theorem Rw:mapsRowed Tryz.pinned.checked.prog=true:=by kernel_rfl
theorem Ol:(Tryz.pinned.checked.prog.stops==[])=true:=by kernel_rfl
theorem Om:(Tryz.pinned.checked.prog.stopKnobs==[])=true:=by kernel_rfl
theorem Rx:(Rows.htmlLinesRow.plainKeys==Tryz.pinned.checked.prog.plainKeys)=true:=by kernel_rfl
theorem Oo:Tryz.pinned.checked.prog.stopsHeard=true:=by kernel_rfl
theorem Oq:Tryz.pinned.checked.prog.mayEnter=true:=by kernel_rfl
theorem Ry:(Rows.htmlLinesRow.lifted==Tryz.pinned.checked.prog.liftsFinal)=true:=by kernel_rfl
theorem Rz:(Tryz.pinned.checked.prog.make==some Rows.htmlLinesRow.make)=true:=by kernel_rfl
theorem ja3:Tryz.pinned.checked.prog.mainIs=some (Rows.htmlLinesCard.stood.harness.1,Rows.htmlLinesCard.stood.harness.2.toList):=by kernel_rfl
theorem Zo:false=Tryz.pinned.checked.prog.looks []:=by kernel_rfl
end Go.Proofs.YtclikfjalmcoaaaGreatDoor
namespace Go.Proofs.YtclikfjalmcoaaaGreatDoor.jl
open Go
theorem k9:(Rows.htmlLinesRow.inPlace==Tryz.pinned.checked.prog.inPlace 3)=true:=by kernel_rfl
theorem k10:(Rows.htmlLinesRow.unfollowed==Tryz.pinned.checked.prog.unfollowed 3)=true:=by kernel_rfl
theorem k11:(Rows.htmlLinesRow.recurses==Tryz.pinned.checked.prog.recurses 3)=true:=by kernel_rfl
theorem k12:(Rows.htmlLinesRow.named==Tryz.pinned.checked.prog.varsNamed 3)=true:=by kernel_rfl
theorem named:Tryz.pinned.checked.prog.funcNamed Rows.htmlLinesRow.func=some 3:=by kernel_rfl
theorem goes:false=Rows.htmlLinesRow.goesBy Tryz.pinned.checked.prog:=by kernel_rfl
theorem closed:joinedFacts Tryz.pinned.checked.prog 3 Tryz.f3 Rows.htmlLinesSpec Rows.htmlLinesRow=true:=by unfold joinedFacts;exact (fM (fM (fM (fM (fM (fM (fM (fM (fM (fM (fM (fM (fM (fM (fM (fM (fM (fM (fM (fM (fM (fM (fM (fM (fM (fM (fM (fM (fM (fM (fM (by kernel_rfl) Rv) Rw) (by kernel_rfl)) (by kernel_rfl)) (by kernel_rfl)) Ol) (by kernel_rfl)) Om) k9) k10) k11) k12) (by kernel_rfl)) (by kernel_rfl)) (by kernel_rfl)) (by kernel_rfl)) (by kernel_rfl)) (by kernel_rfl)) (by kernel_rfl)) (by kernel_rfl)) (by kernel_rfl)) ((congrArg (fun m=>m==Tryz.pinned.checked.prog.plainKeys) (rfl:Rows.htmlLinesRow.plainKeys=Rows.htmlLinesRow.plainKeys)).trans Rx)) (by kernel_rfl)) Oo) Oq) ((congrArg (fun m=>m==Tryz.pinned.checked.prog.liftsFinal) (rfl:Rows.htmlLinesRow.lifted=Rows.htmlLinesRow.lifted)).trans Ry)) ((congrArg (fun m=>Tryz.pinned.checked.prog.make==some m) (rfl:Rows.htmlLinesRow.make=Rows.htmlLinesRow.make)).trans Rz)) (by kernel_rfl)) (by kernel_rfl)) (by kernel_rfl)) (by kernel_rfl))
end Go.Proofs.YtclikfjalmcoaaaGreatDoor.jl

