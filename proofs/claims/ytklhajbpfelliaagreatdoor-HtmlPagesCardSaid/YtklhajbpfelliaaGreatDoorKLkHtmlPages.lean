/- Closed facts of the seat's program, which the proofs of all its rows share (each by itself: together they ask too much memory). Closed facts of the row publisherlaw34.HtmlPages. -/
import Derived.Test.YtklhajbpfelliaaGreatDoorTie
import Derived.Test.YtklhajbpfelliaaGreatDoorCards
namespace Go.Proofs.YtklhajbpfelliaaGreatDoor
open Go
set_option maxRecDepth 100000
theorem fP {a b:Bool} (h:a=true) (k:b=true):(a&&b)=true:=by rw [h,k];rfl
theorem Yt:laidOutB Tryz.pinned.checked.prog=true:=by kernel_rfl
theorem Yu:mapsRowed Tryz.pinned.checked.prog=true:=by kernel_rfl
theorem Uk:(Tryz.pinned.checked.prog.stops==[])=true:=by kernel_rfl
theorem Ul:(Tryz.pinned.checked.prog.stopKnobs==[])=true:=by kernel_rfl
theorem Yv:(Rows.htmlPagesRow.plainKeys==Tryz.pinned.checked.prog.plainKeys)=true:=by kernel_rfl
theorem Um:Tryz.pinned.checked.prog.stopsHeard=true:=by kernel_rfl
theorem Un:Tryz.pinned.checked.prog.mayEnter=true:=by kernel_rfl
theorem Yw:(Rows.htmlPagesRow.lifted==Tryz.pinned.checked.prog.liftsFinal)=true:=by kernel_rfl
theorem Yx:(Tryz.pinned.checked.prog.make==some Rows.htmlPagesRow.make)=true:=by kernel_rfl
theorem Yr:Tryz.pinned.checked.prog.mainIs=some (Rows.htmlPagesCard.stood.harness.1,Rows.htmlPagesCard.stood.harness.2.toList):=by kernel_rfl
theorem Uj:false=Tryz.pinned.checked.prog.looks []:=by kernel_rfl
end Go.Proofs.YtklhajbpfelliaaGreatDoor
namespace Go.Proofs.YtklhajbpfelliaaGreatDoor.jm
open Go
theorem k9:(Rows.htmlPagesRow.inPlace==Tryz.pinned.checked.prog.inPlace 3)=true:=by kernel_rfl
theorem k10:(Rows.htmlPagesRow.unfollowed==Tryz.pinned.checked.prog.unfollowed 3)=true:=by kernel_rfl
theorem k11:(Rows.htmlPagesRow.recurses==Tryz.pinned.checked.prog.recurses 3)=true:=by kernel_rfl
theorem k12:(Rows.htmlPagesRow.named==Tryz.pinned.checked.prog.varsNamed 3)=true:=by kernel_rfl
theorem named:Tryz.pinned.checked.prog.funcNamed Rows.htmlPagesRow.func=some 3:=by kernel_rfl
theorem goes:false=Rows.htmlPagesRow.goesBy Tryz.pinned.checked.prog:=by kernel_rfl
theorem closed:joinedFacts Tryz.pinned.checked.prog 3 Tryz.f3 Rows.htmlPagesSpec Rows.htmlPagesRow=true:=by unfold joinedFacts;exact (fP (fP (fP (fP (fP (fP (fP (fP (fP (fP (fP (fP (fP (fP (fP (fP (fP (fP (fP (fP (fP (fP (fP (fP (fP (fP (fP (fP (fP (fP (fP (by kernel_rfl) Yt) Yu) (by kernel_rfl)) (by kernel_rfl)) (by kernel_rfl)) Uk) (by kernel_rfl)) Ul) k9) k10) k11) k12) (by kernel_rfl)) (by kernel_rfl)) (by kernel_rfl)) (by kernel_rfl)) (by kernel_rfl)) (by kernel_rfl)) (by kernel_rfl)) (by kernel_rfl)) (by kernel_rfl)) ((congrArg (fun m=>m==Tryz.pinned.checked.prog.plainKeys) (rfl:Rows.htmlPagesRow.plainKeys=Rows.htmlPagesRow.plainKeys)).trans Yv)) (by kernel_rfl)) Um) Un) ((congrArg (fun m=>m==Tryz.pinned.checked.prog.liftsFinal) (rfl:Rows.htmlPagesRow.lifted=Rows.htmlPagesRow.lifted)).trans Yw)) ((congrArg (fun m=>Tryz.pinned.checked.prog.make==some m) (rfl:Rows.htmlPagesRow.make=Rows.htmlPagesRow.make)).trans Yx)) (by kernel_rfl)) (by kernel_rfl)) (by kernel_rfl)) (by kernel_rfl))
end Go.Proofs.YtklhajbpfelliaaGreatDoor.jm

