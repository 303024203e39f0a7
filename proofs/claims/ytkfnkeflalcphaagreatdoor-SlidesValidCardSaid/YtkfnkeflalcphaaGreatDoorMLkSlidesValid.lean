/- Closed facts of the seat's program, which the proofs of all its rows share (each by itself: together they ask too much memory). Closed facts of the row publisherlaw43.SlidesValid. -/
import Derived.Test.YtkfnkeflalcphaaGreatDoorTie
import Derived.Test.YtkfnkeflalcphaaGreatDoorCards
namespace Go.Proofs.YtkfnkeflalcphaaGreatDoor
open Go
set_option maxRecDepth 100000
theorem fG {a b:Bool} (h:a=true) (k:b=true):(a&&b)=true:=by rw [h,k];rfl
theorem ZU:laidOutB Tryz.pinned.checked.prog=true:=by kernel_rfl
theorem ZV:mapsRowed Tryz.pinned.checked.prog=true:=by kernel_rfl
theorem Vr:(Tryz.pinned.checked.prog.stops==[])=true:=by kernel_rfl
theorem Vs:(Tryz.pinned.checked.prog.stopKnobs==[])=true:=by kernel_rfl
theorem ZW:(Rows.htmlBlocksRow.plainKeys==Tryz.pinned.checked.prog.plainKeys)=true:=by kernel_rfl
theorem Vt:Tryz.pinned.checked.prog.stopsHeard=true:=by kernel_rfl
theorem Vu:Tryz.pinned.checked.prog.mayEnter=true:=by kernel_rfl
theorem ZX:(Rows.htmlBlocksRow.lifted==Tryz.pinned.checked.prog.liftsFinal)=true:=by kernel_rfl
theorem ZY:(Tryz.pinned.checked.prog.make==some Rows.htmlBlocksRow.make)=true:=by kernel_rfl
theorem ZT:Tryz.pinned.checked.prog.mainIs=some (Rows.htmlBlocksCard.stood.harness.1,Rows.htmlBlocksCard.stood.harness.2.toList):=by kernel_rfl
theorem Vq:false=Tryz.pinned.checked.prog.looks []:=by kernel_rfl
end Go.Proofs.YtkfnkeflalcphaaGreatDoor
namespace Go.Proofs.YtkfnkeflalcphaaGreatDoor.gF
open Go
theorem k9:(Rows.slidesValidRow.inPlace==Tryz.pinned.checked.prog.inPlace 8)=true:=by kernel_rfl
theorem k10:(Rows.slidesValidRow.unfollowed==Tryz.pinned.checked.prog.unfollowed 8)=true:=by kernel_rfl
theorem k11:(Rows.slidesValidRow.recurses==Tryz.pinned.checked.prog.recurses 8)=true:=by kernel_rfl
theorem k12:(Rows.slidesValidRow.named==Tryz.pinned.checked.prog.varsNamed 8)=true:=by kernel_rfl
theorem named:Tryz.pinned.checked.prog.funcNamed Rows.slidesValidRow.func=some 8:=by kernel_rfl
theorem goes:false=Rows.slidesValidRow.goesBy Tryz.pinned.checked.prog:=by kernel_rfl
theorem closed:joinedFacts Tryz.pinned.checked.prog 8 Tryz.f8 Rows.slidesValidSpec Rows.slidesValidRow=true:=by unfold joinedFacts;exact (fG (fG (fG (fG (fG (fG (fG (fG (fG (fG (fG (fG (fG (fG (fG (fG (fG (fG (fG (fG (fG (fG (fG (fG (fG (fG (fG (fG (fG (fG (fG (by kernel_rfl) ZU) ZV) (by kernel_rfl)) (by kernel_rfl)) (by kernel_rfl)) Vr) (by kernel_rfl)) Vs) k9) k10) k11) k12) (by kernel_rfl)) (by kernel_rfl)) (by kernel_rfl)) (by kernel_rfl)) (by kernel_rfl)) (by kernel_rfl)) (by kernel_rfl)) (by kernel_rfl)) (by kernel_rfl)) ((congrArg (fun m=>m==Tryz.pinned.checked.prog.plainKeys) (rfl:Rows.slidesValidRow.plainKeys=Rows.htmlBlocksRow.plainKeys)).trans ZW)) (by kernel_rfl)) Vt) Vu) ((congrArg (fun m=>m==Tryz.pinned.checked.prog.liftsFinal) (rfl:Rows.slidesValidRow.lifted=Rows.htmlBlocksRow.lifted)).trans ZX)) ((congrArg (fun m=>Tryz.pinned.checked.prog.make==some m) (rfl:Rows.slidesValidRow.make=Rows.htmlBlocksRow.make)).trans ZY)) (by kernel_rfl)) (by kernel_rfl)) (by kernel_rfl)) (by kernel_rfl))
end Go.Proofs.YtkfnkeflalcphaaGreatDoor.gF

