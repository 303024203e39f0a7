/- Proved: the tied card of publisherlaw39.BoxesAnchors: it returns true at every input, and the arguments read as before; the tables are what the program's text lays. No other condition. -/
import Derived.Test.YtdneicipdlofiaaGreatDoorKBxLw
set_option maxHeartbeats 20000000
set_option maxRecDepth 100000
namespace Go.Proofs.YtdneicipdlofiaaGreatDoor.eD
open Go.ChangeShapes Go.WideShapes Go.ChangeAt Go.RowKit
set_option linter.unusedVariables false
set_option linter.unusedSimpArgs false
theorem jk0 {a b:Bool} (h:a=true) (g:b=true):(a&&b)=true:=by rw [h,g];rfl
theorem joined:joinedFacts Tryz.pinned.checked.prog 8 Tryz.f8 Rows.boxesAnchorsSpec Rows.boxesAnchorsRow=true:=by
 unfold joinedFacts
 repeat' (with_reducible refine jk0 ?_ ?_)
 all_goals (as_aux_lemma=>kernel_rfl)
theorem over:Rows.BoxesAnchorsSaid:=
 OpenClaim.holds_of_wide 8 Tryz.f8 rfl rfl rfl rfl rfl rfl rfl ⟨rfl,rfl,rfl,rfl,rfl⟩ rfl rfl rfl rfl rfl (by as_aux_lemma=>kernel_rfl) Tryz.func8 joined
  (of_decide_eq_true (by as_aux_lemma=>kernel_rfl)) (by unfold Func.isWrapper;first | (rw [if_pos (by decide +kernel)];kernel_rfl) | (rw [if_neg (by decide +kernel)];exact ⟨rfl,rfl⟩))
  (fun os started H enc _=>lifted os started H enc)
theorem Iw:Rows.BoxesAnchorsCardSaid:=
 Claim7.holds_tied_plain_at .later [] [.data,.data,.data,.data,.data,.pinned] true Rows.boxesAnchorsCard.stood.harness false
  over (fun _ h=>by cases h) (by as_aux_lemma=>kernel_rfl) (fun _ h=>by cases h) boxesAnchors_row_tie rfl ⟨rfl,rfl⟩ (by as_aux_lemma=>kernel_rfl) rfl
  (fun f fn hf hfn=>by
   obtain rfl : f = 8 := Option.some.inj ((show Tryz.prog.funcNamed "publisher/publisherlaw39.BoxesAnchors" = some 8 by as_aux_lemma => kernel_rfl).symm.trans hf) |>.symm
   obtain rfl:fn=Tryz.f8:=(Option.some.inj (Tryz.func8.symm.trans hfn)).symm;exact ⟨by as_aux_lemma=>kernel_rfl,fun j t ht=>by
    rw [Tryz.params8] at ht;have hm:t∈[25,49]:=by simpa using Array.mem_of_getElem? ht
    have hall:([25,49].all fun u=>!Tryz.prog.wantsStandIn u)=true:=by as_aux_lemma=>kernel_rfl
    exact (show Tryz.prog.wantsStandIn t=false by simpa using List.all_eq_true.1 hall t hm)⟩)
  (by as_aux_lemma=>kernel_rfl)
end Go.Proofs.YtdneicipdlofiaaGreatDoor.eD
namespace Go.Proofs.YtdneicipdlofiaaGreatDoor
theorem boxesAnchors_proved:Rows.BoxesAnchorsCardSaid:=eD.Iw
#print axioms boxesAnchors_proved
end Go.Proofs.YtdneicipdlofiaaGreatDoor

