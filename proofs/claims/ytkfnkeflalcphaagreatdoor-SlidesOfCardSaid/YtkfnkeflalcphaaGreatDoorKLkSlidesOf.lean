/- Closed facts of the seat's program, which the proofs of all its rows share (each by itself: together they ask too much memory). Closed facts of the row publisherlaw43.SlidesOf. -/
import Derived.Test.YtkfnkeflalcphaaGreatDoorTie
import Derived.Test.YtkfnkeflalcphaaGreatDoorCards
namespace Go.Proofs.YtkfnkeflalcphaaGreatDoor
open Go
set_option maxRecDepth 100000
theorem eX {a b:Bool} (h:a=true) (k:b=true):(a&&b)=true:=by rw [h,k];rfl
theorem Q7:laidOutB Tryz.pinned.checked.prog=true:=by kernel_rfl
theorem Q8:mapsRowed Tryz.pinned.checked.prog=true:=by kernel_rfl
theorem Nv:(Tryz.pinned.checked.prog.stops==[])=true:=by kernel_rfl
theorem Nw:(Tryz.pinned.checked.prog.stopKnobs==[])=true:=by kernel_rfl
theorem Q9:(Rows.htmlBlocksRow.plainKeys==Tryz.pinned.checked.prog.plainKeys)=true:=by kernel_rfl
theorem Ny:Tryz.pinned.checked.prog.stopsHeard=true:=by kernel_rfl
theorem Nz:Tryz.pinned.checked.prog.mayEnter=true:=by kernel_rfl
theorem Ra:(Rows.htmlBlocksRow.lifted==Tryz.pinned.checked.prog.liftsFinal)=true:=by kernel_rfl
theorem Rb:(Tryz.pinned.checked.prog.make==some Rows.htmlBlocksRow.make)=true:=by kernel_rfl
theorem Q6:Tryz.pinned.checked.prog.mainIs=some (Rows.htmlBlocksCard.stood.harness.1,Rows.htmlBlocksCard.stood.harness.2.toList):=by kernel_rfl
theorem Nu:false=Tryz.pinned.checked.prog.looks []:=by kernel_rfl
end Go.Proofs.YtkfnkeflalcphaaGreatDoor
namespace Go.Proofs.YtkfnkeflalcphaaGreatDoor.jM
open Go
theorem k9:(Rows.slidesOfRow.inPlace==Tryz.pinned.checked.prog.inPlace 5)=true:=by kernel_rfl
theorem k10:(Rows.slidesOfRow.unfollowed==Tryz.pinned.checked.prog.unfollowed 5)=true:=by kernel_rfl
theorem k11:(Rows.slidesOfRow.recurses==Tryz.pinned.checked.prog.recurses 5)=true:=by kernel_rfl
theorem k12:(Rows.slidesOfRow.named==Tryz.pinned.checked.prog.varsNamed 5)=true:=by kernel_rfl
theorem named:Tryz.pinned.checked.prog.funcNamed Rows.slidesOfRow.func=some 5:=by kernel_rfl
theorem goes:false=Rows.slidesOfRow.goesBy Tryz.pinned.checked.prog:=by kernel_rfl
theorem closed:joinedFacts Tryz.pinned.checked.prog 5 Tryz.f5 Rows.slidesOfSpec Rows.slidesOfRow=true:=by unfold joinedFacts;exact (eX (eX (eX (eX (eX (eX (eX (eX (eX (eX (eX (eX (eX (eX (eX (eX (eX (eX (eX (eX (eX (eX (eX (eX (eX (eX (eX (eX (eX (eX (eX (by kernel_rfl) Q7) Q8) (by kernel_rfl)) (by kernel_rfl)) (by kernel_rfl)) Nv) (by kernel_rfl)) Nw) k9) k10) k11) k12) (by kernel_rfl)) (by kernel_rfl)) (by kernel_rfl)) (by kernel_rfl)) (by kernel_rfl)) (by kernel_rfl)) (by kernel_rfl)) (by kernel_rfl)) (by kernel_rfl)) ((congrArg (fun m=>m==Tryz.pinned.checked.prog.plainKeys) (rfl:Rows.slidesOfRow.plainKeys=Rows.htmlBlocksRow.plainKeys)).trans Q9)) (by kernel_rfl)) Ny) Nz) ((congrArg (fun m=>m==Tryz.pinned.checked.prog.liftsFinal) (rfl:Rows.slidesOfRow.lifted=Rows.htmlBlocksRow.lifted)).trans Ra)) ((congrArg (fun m=>Tryz.pinned.checked.prog.make==some m) (rfl:Rows.slidesOfRow.make=Rows.htmlBlocksRow.make)).trans Rb)) (by kernel_rfl)) (by kernel_rfl)) (by kernel_rfl)) (by kernel_rfl))
end Go.Proofs.YtkfnkeflalcphaaGreatDoor.jM

