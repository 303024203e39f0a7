/- Closed facts of the seat's program, which the proofs of all its rows share (each by itself: together they ask too much memory). Closed facts of the row publisherlaw43.SlidesAnchors. -/
import Derived.Test.YtclikfjalmcoaaaGreatDoorTie
import Derived.Test.YtclikfjalmcoaaaGreatDoorCards
namespace Go.Proofs.YtclikfjalmcoaaaGreatDoor
open Go
set_option maxRecDepth 100000
theorem fq {a b:Bool} (h:a=true) (k:b=true):(a&&b)=true:=by rw [h,k];rfl
theorem QL:laidOutB Tryz.pinned.checked.prog=true:=by kernel_rfl
theorem QM:mapsRowed Tryz.pinned.checked.prog=true:=by kernel_rfl
theorem Nj:(Tryz.pinned.checked.prog.stops==[])=true:=by kernel_rfl
theorem Nk:(Tryz.pinned.checked.prog.stopKnobs==[])=true:=by kernel_rfl
theorem QN:(Rows.htmlLinesRow.plainKeys==Tryz.pinned.checked.prog.plainKeys)=true:=by kernel_rfl
theorem Nl:Tryz.pinned.checked.prog.stopsHeard=true:=by kernel_rfl
theorem Nn:Tryz.pinned.checked.prog.mayEnter=true:=by kernel_rfl
theorem QO:(Rows.htmlLinesRow.lifted==Tryz.pinned.checked.prog.liftsFinal)=true:=by kernel_rfl
theorem QS:(Tryz.pinned.checked.prog.make==some Rows.htmlLinesRow.make)=true:=by kernel_rfl
theorem QK:Tryz.pinned.checked.prog.mainIs=some (Rows.htmlLinesCard.stood.harness.1,Rows.htmlLinesCard.stood.harness.2.toList):=by kernel_rfl
theorem Ni:false=Tryz.pinned.checked.prog.looks []:=by kernel_rfl
end Go.Proofs.YtclikfjalmcoaaaGreatDoor
namespace Go.Proofs.YtclikfjalmcoaaaGreatDoor.dV
open Go
theorem k9:(Rows.slidesAnchorsRow.inPlace==Tryz.pinned.checked.prog.inPlace 11)=true:=by kernel_rfl
theorem k10:(Rows.slidesAnchorsRow.unfollowed==Tryz.pinned.checked.prog.unfollowed 11)=true:=by kernel_rfl
theorem k11:(Rows.slidesAnchorsRow.recurses==Tryz.pinned.checked.prog.recurses 11)=true:=by kernel_rfl
theorem k12:(Rows.slidesAnchorsRow.named==Tryz.pinned.checked.prog.varsNamed 11)=true:=by kernel_rfl
theorem named:Tryz.pinned.checked.prog.funcNamed Rows.slidesAnchorsRow.func=some 11:=by kernel_rfl
theorem goes:false=Rows.slidesAnchorsRow.goesBy Tryz.pinned.checked.prog:=by kernel_rfl
theorem closed:joinedFacts Tryz.pinned.checked.prog 11 Tryz.f11 Rows.slidesAnchorsSpec Rows.slidesAnchorsRow=true:=by unfold joinedFacts;exact (fq (fq (fq (fq (fq (fq (fq (fq (fq (fq (fq (fq (fq (fq (fq (fq (fq (fq (fq (fq (fq (fq (fq (fq (fq (fq (fq (fq (fq (fq (fq (by kernel_rfl) QL) QM) (by kernel_rfl)) (by kernel_rfl)) (by kernel_rfl)) Nj) (by kernel_rfl)) Nk) k9) k10) k11) k12) (by kernel_rfl)) (by kernel_rfl)) (by kernel_rfl)) (by kernel_rfl)) (by kernel_rfl)) (by kernel_rfl)) (by kernel_rfl)) (by kernel_rfl)) (by kernel_rfl)) ((congrArg (fun m=>m==Tryz.pinned.checked.prog.plainKeys) (rfl:Rows.slidesAnchorsRow.plainKeys=Rows.htmlLinesRow.plainKeys)).trans QN)) (by kernel_rfl)) Nl) Nn) ((congrArg (fun m=>m==Tryz.pinned.checked.prog.liftsFinal) (rfl:Rows.slidesAnchorsRow.lifted=Rows.htmlLinesRow.lifted)).trans QO)) ((congrArg (fun m=>Tryz.pinned.checked.prog.make==some m) (rfl:Rows.slidesAnchorsRow.make=Rows.htmlLinesRow.make)).trans QS)) (by kernel_rfl)) (by kernel_rfl)) (by kernel_rfl)) (by kernel_rfl))
end Go.Proofs.YtclikfjalmcoaaaGreatDoor.dV

