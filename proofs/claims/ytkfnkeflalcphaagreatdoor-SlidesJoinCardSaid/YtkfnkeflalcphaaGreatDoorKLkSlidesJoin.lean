/- Closed facts of the seat's program, which the proofs of all its rows share (each by itself: together they ask too much memory). Closed facts of the row publisherlaw43.SlidesJoin. -/
import Derived.Test.YtkfnkeflalcphaaGreatDoorTie
import Derived.Test.YtkfnkeflalcphaaGreatDoorCards
namespace Go.Proofs.YtkfnkeflalcphaaGreatDoor
open Go
set_option maxRecDepth 100000
theorem fu {a b:Bool} (h:a=true) (k:b=true):(a&&b)=true:=by rw [h,k];rfl
theorem Rx:laidOutB Tryz.pinned.checked.prog=true:=by kernel_rfl
theorem Ry:mapsRowed Tryz.pinned.checked.prog=true:=by kernel_rfl
theorem NZ:(Tryz.pinned.checked.prog.stops==[])=true:=by kernel_rfl
theorem N7:(Tryz.pinned.checked.prog.stopKnobs==[])=true:=by kernel_rfl
theorem Rz:(Rows.htmlBlocksRow.plainKeys==Tryz.pinned.checked.prog.plainKeys)=true:=by kernel_rfl
theorem N8:Tryz.pinned.checked.prog.stopsHeard=true:=by kernel_rfl
theorem N9:Tryz.pinned.checked.prog.mayEnter=true:=by kernel_rfl
theorem RD:(Rows.htmlBlocksRow.lifted==Tryz.pinned.checked.prog.liftsFinal)=true:=by kernel_rfl
theorem RF:(Tryz.pinned.checked.prog.make==some Rows.htmlBlocksRow.make)=true:=by kernel_rfl
theorem Rw:Tryz.pinned.checked.prog.mainIs=some (Rows.htmlBlocksCard.stood.harness.1,Rows.htmlBlocksCard.stood.harness.2.toList):=by kernel_rfl
theorem NY:false=Tryz.pinned.checked.prog.looks []:=by kernel_rfl
end Go.Proofs.YtkfnkeflalcphaaGreatDoor
namespace Go.Proofs.YtkfnkeflalcphaaGreatDoor.iw
open Go
theorem k9:(Rows.slidesJoinRow.inPlace==Tryz.pinned.checked.prog.inPlace 9)=true:=by kernel_rfl
theorem k10:(Rows.slidesJoinRow.unfollowed==Tryz.pinned.checked.prog.unfollowed 9)=true:=by kernel_rfl
theorem k11:(Rows.slidesJoinRow.recurses==Tryz.pinned.checked.prog.recurses 9)=true:=by kernel_rfl
theorem k12:(Rows.slidesJoinRow.named==Tryz.pinned.checked.prog.varsNamed 9)=true:=by kernel_rfl
theorem named:Tryz.pinned.checked.prog.funcNamed Rows.slidesJoinRow.func=some 9:=by kernel_rfl
theorem goes:false=Rows.slidesJoinRow.goesBy Tryz.pinned.checked.prog:=by kernel_rfl
theorem closed:joinedFacts Tryz.pinned.checked.prog 9 Tryz.f9 Rows.slidesJoinSpec Rows.slidesJoinRow=true:=by unfold joinedFacts;exact (fu (fu (fu (fu (fu (fu (fu (fu (fu (fu (fu (fu (fu (fu (fu (fu (fu (fu (fu (fu (fu (fu (fu (fu (fu (fu (fu (fu (fu (fu (fu (by kernel_rfl) Rx) Ry) (by kernel_rfl)) (by kernel_rfl)) (by kernel_rfl)) NZ) (by kernel_rfl)) N7) k9) k10) k11) k12) (by kernel_rfl)) (by kernel_rfl)) (by kernel_rfl)) (by kernel_rfl)) (by kernel_rfl)) (by kernel_rfl)) (by kernel_rfl)) (by kernel_rfl)) (by kernel_rfl)) ((congrArg (fun m=>m==Tryz.pinned.checked.prog.plainKeys) (rfl:Rows.slidesJoinRow.plainKeys=Rows.htmlBlocksRow.plainKeys)).trans Rz)) (by kernel_rfl)) N8) N9) ((congrArg (fun m=>m==Tryz.pinned.checked.prog.liftsFinal) (rfl:Rows.slidesJoinRow.lifted=Rows.htmlBlocksRow.lifted)).trans RD)) ((congrArg (fun m=>Tryz.pinned.checked.prog.make==some m) (rfl:Rows.slidesJoinRow.make=Rows.htmlBlocksRow.make)).trans RF)) (by kernel_rfl)) (by kernel_rfl)) (by kernel_rfl)) (by kernel_rfl))
end Go.Proofs.YtkfnkeflalcphaaGreatDoor.iw

