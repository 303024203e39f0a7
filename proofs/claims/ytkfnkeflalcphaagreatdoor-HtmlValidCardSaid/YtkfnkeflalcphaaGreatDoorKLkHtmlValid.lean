/- Closed facts of the seat's program, which the proofs of all its rows share (each by itself: together they ask too much memory). Closed facts of the row publisherlaw34.HtmlValid. -/
import Derived.Test.YtkfnkeflalcphaaGreatDoorTie
import Derived.Test.YtkfnkeflalcphaaGreatDoorCards
namespace Go.Proofs.YtkfnkeflalcphaaGreatDoor
open Go
set_option maxRecDepth 100000
theorem eZ {a b:Bool} (h:a=true) (k:b=true):(a&&b)=true:=by rw [h,k];rfl
theorem Tm:laidOutB Tryz.pinned.checked.prog=true:=by kernel_rfl
theorem Tn:mapsRowed Tryz.pinned.checked.prog=true:=by kernel_rfl
theorem Pj:(Tryz.pinned.checked.prog.stops==[])=true:=by kernel_rfl
theorem Pk:(Tryz.pinned.checked.prog.stopKnobs==[])=true:=by kernel_rfl
theorem Tp:(Rows.htmlBlocksRow.plainKeys==Tryz.pinned.checked.prog.plainKeys)=true:=by kernel_rfl
theorem Pm:Tryz.pinned.checked.prog.stopsHeard=true:=by kernel_rfl
theorem Pn:Tryz.pinned.checked.prog.mayEnter=true:=by kernel_rfl
theorem Tq:(Rows.htmlBlocksRow.lifted==Tryz.pinned.checked.prog.liftsFinal)=true:=by kernel_rfl
theorem Tt:(Tryz.pinned.checked.prog.make==some Rows.htmlBlocksRow.make)=true:=by kernel_rfl
theorem Tk:Tryz.pinned.checked.prog.mainIs=some (Rows.htmlBlocksCard.stood.harness.1,Rows.htmlBlocksCard.stood.harness.2.toList):=by kernel_rfl
theorem Ph:false=Tryz.pinned.checked.prog.looks []:=by kernel_rfl
end Go.Proofs.YtkfnkeflalcphaaGreatDoor
namespace Go.Proofs.YtkfnkeflalcphaaGreatDoor.jr
open Go
theorem k9:(Rows.htmlValidRow.inPlace==Tryz.pinned.checked.prog.inPlace 10)=true:=by kernel_rfl
theorem k10:(Rows.htmlValidRow.unfollowed==Tryz.pinned.checked.prog.unfollowed 10)=true:=by kernel_rfl
theorem k11:(Rows.htmlValidRow.recurses==Tryz.pinned.checked.prog.recurses 10)=true:=by kernel_rfl
theorem k12:(Rows.htmlValidRow.named==Tryz.pinned.checked.prog.varsNamed 10)=true:=by kernel_rfl
theorem named:Tryz.pinned.checked.prog.funcNamed Rows.htmlValidRow.func=some 10:=by kernel_rfl
theorem goes:false=Rows.htmlValidRow.goesBy Tryz.pinned.checked.prog:=by kernel_rfl
theorem closed:joinedFacts Tryz.pinned.checked.prog 10 Tryz.f10 Rows.htmlValidSpec Rows.htmlValidRow=true:=by unfold joinedFacts;exact (eZ (eZ (eZ (eZ (eZ (eZ (eZ (eZ (eZ (eZ (eZ (eZ (eZ (eZ (eZ (eZ (eZ (eZ (eZ (eZ (eZ (eZ (eZ (eZ (eZ (eZ (eZ (eZ (eZ (eZ (eZ (by kernel_rfl) Tm) Tn) (by kernel_rfl)) (by kernel_rfl)) (by kernel_rfl)) Pj) (by kernel_rfl)) Pk) k9) k10) k11) k12) (by kernel_rfl)) (by kernel_rfl)) (by kernel_rfl)) (by kernel_rfl)) (by kernel_rfl)) (by kernel_rfl)) (by kernel_rfl)) (by kernel_rfl)) (by kernel_rfl)) ((congrArg (fun m=>m==Tryz.pinned.checked.prog.plainKeys) (rfl:Rows.htmlValidRow.plainKeys=Rows.htmlBlocksRow.plainKeys)).trans Tp)) (by kernel_rfl)) Pm) Pn) ((congrArg (fun m=>m==Tryz.pinned.checked.prog.liftsFinal) (rfl:Rows.htmlValidRow.lifted=Rows.htmlBlocksRow.lifted)).trans Tq)) ((congrArg (fun m=>Tryz.pinned.checked.prog.make==some m) (rfl:Rows.htmlValidRow.make=Rows.htmlBlocksRow.make)).trans Tt)) (by kernel_rfl)) (by kernel_rfl)) (by kernel_rfl)) (by kernel_rfl))
end Go.Proofs.YtkfnkeflalcphaaGreatDoor.jr

