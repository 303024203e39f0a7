/- Closed facts of the seat's program, which the proofs of all its rows share (each by itself: together they ask too much memory). Closed facts of the row publisherlaw34.HtmlBlocks. -/
import Derived.Test.YtkfnkeflalcphaaGreatDoorTie
import Derived.Test.YtkfnkeflalcphaaGreatDoorCards
namespace Go.Proofs.YtkfnkeflalcphaaGreatDoor
open Go
set_option maxRecDepth 100000
theorem fJ {a b:Bool} (h:a=true) (k:b=true):(a&&b)=true:=by rw [h,k];rfl
theorem XU:laidOutB Tryz.pinned.checked.prog=true:=by kernel_rfl
theorem XV:mapsRowed Tryz.pinned.checked.prog=true:=by kernel_rfl
theorem TM:(Tryz.pinned.checked.prog.stops==[])=true:=by kernel_rfl
theorem TN:(Tryz.pinned.checked.prog.stopKnobs==[])=true:=by kernel_rfl
theorem XW:(Rows.htmlBlocksRow.plainKeys==Tryz.pinned.checked.prog.plainKeys)=true:=by kernel_rfl
theorem TP:Tryz.pinned.checked.prog.stopsHeard=true:=by kernel_rfl
theorem TQ:Tryz.pinned.checked.prog.mayEnter=true:=by kernel_rfl
theorem XY:(Rows.htmlBlocksRow.lifted==Tryz.pinned.checked.prog.liftsFinal)=true:=by kernel_rfl
theorem XZ:(Tryz.pinned.checked.prog.make==some Rows.htmlBlocksRow.make)=true:=by kernel_rfl
theorem XT:Tryz.pinned.checked.prog.mainIs=some (Rows.htmlBlocksCard.stood.harness.1,Rows.htmlBlocksCard.stood.harness.2.toList):=by kernel_rfl
theorem TK:false=Tryz.pinned.checked.prog.looks []:=by kernel_rfl
end Go.Proofs.YtkfnkeflalcphaaGreatDoor
namespace Go.Proofs.YtkfnkeflalcphaaGreatDoor.iF
open Go
theorem k9:(Rows.htmlBlocksRow.inPlace==Tryz.pinned.checked.prog.inPlace 3)=true:=by kernel_rfl
theorem k10:(Rows.htmlBlocksRow.unfollowed==Tryz.pinned.checked.prog.unfollowed 3)=true:=by kernel_rfl
theorem k11:(Rows.htmlBlocksRow.recurses==Tryz.pinned.checked.prog.recurses 3)=true:=by kernel_rfl
theorem k12:(Rows.htmlBlocksRow.named==Tryz.pinned.checked.prog.varsNamed 3)=true:=by kernel_rfl
theorem named:Tryz.pinned.checked.prog.funcNamed Rows.htmlBlocksRow.func=some 3:=by kernel_rfl
theorem goes:false=Rows.htmlBlocksRow.goesBy Tryz.pinned.checked.prog:=by kernel_rfl
theorem closed:joinedFacts Tryz.pinned.checked.prog 3 Tryz.f3 Rows.htmlBlocksSpec Rows.htmlBlocksRow=true:=by unfold joinedFacts;exact (fJ (fJ (fJ (fJ (fJ (fJ (fJ (fJ (fJ (fJ (fJ (fJ (fJ (fJ (fJ (fJ (fJ (fJ (fJ (fJ (fJ (fJ (fJ (fJ (fJ (fJ (fJ (fJ (fJ (fJ (fJ (by kernel_rfl) XU) XV) (by kernel_rfl)) (by kernel_rfl)) (by kernel_rfl)) TM) (by kernel_rfl)) TN) k9) k10) k11) k12) (by kernel_rfl)) (by kernel_rfl)) (by kernel_rfl)) (by kernel_rfl)) (by kernel_rfl)) (by kernel_rfl)) (by kernel_rfl)) (by kernel_rfl)) (by kernel_rfl)) ((congrArg (fun m=>m==Tryz.pinned.checked.prog.plainKeys) (rfl:Rows.htmlBlocksRow.plainKeys=Rows.htmlBlocksRow.plainKeys)).trans XW)) (by kernel_rfl)) TP) TQ) ((congrArg (fun m=>m==Tryz.pinned.checked.prog.liftsFinal) (rfl:Rows.htmlBlocksRow.lifted=Rows.htmlBlocksRow.lifted)).trans XY)) ((congrArg (fun m=>Tryz.pinned.checked.prog.make==some m) (rfl:Rows.htmlBlocksRow.make=Rows.htmlBlocksRow.make)).trans XZ)) (by kernel_rfl)) (by kernel_rfl)) (by kernel_rfl)) (by kernel_rfl))
end Go.Proofs.YtkfnkeflalcphaaGreatDoor.iF

