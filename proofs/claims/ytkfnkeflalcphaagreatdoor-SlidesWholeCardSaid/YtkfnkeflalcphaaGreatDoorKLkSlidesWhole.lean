/- Closed facts of the seat's program, which the proofs of all its rows share (each by itself: together they ask too much memory). Closed facts of the row publisherlaw43.SlidesWhole. -/
import Derived.Test.YtkfnkeflalcphaaGreatDoorTie
import Derived.Test.YtkfnkeflalcphaaGreatDoorCards
namespace Go.Proofs.YtkfnkeflalcphaaGreatDoor
open Go
set_option maxRecDepth 100000
theorem eX {a b:Bool} (h:a=true) (k:b=true):(a&&b)=true:=by rw [h,k];rfl
theorem QM:laidOutB Tryz.pinned.checked.prog=true:=by kernel_rfl
theorem QN:mapsRowed Tryz.pinned.checked.prog=true:=by kernel_rfl
theorem Nf:(Tryz.pinned.checked.prog.stops==[])=true:=by kernel_rfl
theorem Ng:(Tryz.pinned.checked.prog.stopKnobs==[])=true:=by kernel_rfl
theorem QO:(Rows.htmlBlocksRow.plainKeys==Tryz.pinned.checked.prog.plainKeys)=true:=by kernel_rfl
theorem Nh:Tryz.pinned.checked.prog.stopsHeard=true:=by kernel_rfl
theorem Ni:Tryz.pinned.checked.prog.mayEnter=true:=by kernel_rfl
theorem QS:(Rows.htmlBlocksRow.lifted==Tryz.pinned.checked.prog.liftsFinal)=true:=by kernel_rfl
theorem QT:(Tryz.pinned.checked.prog.make==some Rows.htmlBlocksRow.make)=true:=by kernel_rfl
theorem QL:Tryz.pinned.checked.prog.mainIs=some (Rows.htmlBlocksCard.stood.harness.1,Rows.htmlBlocksCard.stood.harness.2.toList):=by kernel_rfl
theorem Nc:false=Tryz.pinned.checked.prog.looks []:=by kernel_rfl
end Go.Proofs.YtkfnkeflalcphaaGreatDoor
namespace Go.Proofs.YtkfnkeflalcphaaGreatDoor.fT
open Go
theorem k9:(Rows.slidesWholeRow.inPlace==Tryz.pinned.checked.prog.inPlace 7)=true:=by kernel_rfl
theorem k10:(Rows.slidesWholeRow.unfollowed==Tryz.pinned.checked.prog.unfollowed 7)=true:=by kernel_rfl
theorem k11:(Rows.slidesWholeRow.recurses==Tryz.pinned.checked.prog.recurses 7)=true:=by kernel_rfl
theorem k12:(Rows.slidesWholeRow.named==Tryz.pinned.checked.prog.varsNamed 7)=true:=by kernel_rfl
theorem named:Tryz.pinned.checked.prog.funcNamed Rows.slidesWholeRow.func=some 7:=by kernel_rfl
theorem goes:false=Rows.slidesWholeRow.goesBy Tryz.pinned.checked.prog:=by kernel_rfl
theorem closed:joinedFacts Tryz.pinned.checked.prog 7 Tryz.f7 Rows.slidesWholeSpec Rows.slidesWholeRow=true:=by unfold joinedFacts;exact (eX (eX (eX (eX (eX (eX (eX (eX (eX (eX (eX (eX (eX (eX (eX (eX (eX (eX (eX (eX (eX (eX (eX (eX (eX (eX (eX (eX (eX (eX (eX (by kernel_rfl) QM) QN) (by kernel_rfl)) (by kernel_rfl)) (by kernel_rfl)) Nf) (by kernel_rfl)) Ng) k9) k10) k11) k12) (by kernel_rfl)) (by kernel_rfl)) (by kernel_rfl)) (by kernel_rfl)) (by kernel_rfl)) (by kernel_rfl)) (by kernel_rfl)) (by kernel_rfl)) (by kernel_rfl)) ((congrArg (fun m=>m==Tryz.pinned.checked.prog.plainKeys) (rfl:Rows.slidesWholeRow.plainKeys=Rows.htmlBlocksRow.plainKeys)).trans QO)) (by kernel_rfl)) Nh) Ni) ((congrArg (fun m=>m==Tryz.pinned.checked.prog.liftsFinal) (rfl:Rows.slidesWholeRow.lifted=Rows.htmlBlocksRow.lifted)).trans QS)) ((congrArg (fun m=>Tryz.pinned.checked.prog.make==some m) (rfl:Rows.slidesWholeRow.make=Rows.htmlBlocksRow.make)).trans QT)) (by kernel_rfl)) (by kernel_rfl)) (by kernel_rfl)) (by kernel_rfl))
end Go.Proofs.YtkfnkeflalcphaaGreatDoor.fT

