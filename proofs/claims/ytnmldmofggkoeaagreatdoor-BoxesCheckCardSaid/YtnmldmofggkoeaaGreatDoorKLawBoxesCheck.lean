/- Proved: the tied card of publisherlaw39.BoxesCheck: it returns true at every input, and the arguments read as before; the tables are what the program's text lays. No other condition. -/
import Derived.Test.YtnmldmofggkoeaaGreatDoorKLaid6
import Derived.Test.YtnmldmofggkoeaaGreatDoorKBxV
import Derived.Test.YtnmldmofggkoeaaGreatDoorCards
import Derived.Test.YtnmldmofggkoeaaGreatDoorTie
import Derived.ShutString
set_option maxRecDepth 100000
namespace Go.Proofs.YtnmldmofggkoeaaGreatDoor.jF
open Go.ChangeShapes Go.WideShapes Go.ChangeAt Go.RowKit
set_option linter.unusedVariables false
set_option linter.unusedSimpArgs false
theorem lifted (os:Os) (started:os.Started) (H:Type) (enc:TypeId × Value->H) : ReturnsInHanded {} Tryz.checked os 3 .any (fun w args=>(Rows.boxesCheckSpec.pre enc Tryz.prog Tryz.f3 [] false w args/\laidMetH Tryz.prog mG w)/\sizedMet enc Tryz.prog Tryz.f3 (OpenSpec.ofChange Rows.boxesCheckSpec) false w args) (Rows.boxesCheckSpec.post enc Tryz.prog Tryz.f3 false true false false):=by
 refine rV (C:=Tryz.checked) (X:=fun w _=>laidMetH Tryz.prog mG w) (fun _ _ _ hh h=>h.of_heap hh) own started (by kernel_rfl) Tryz.func3
  (ChangeSpec.witness_shaped (enc:=enc) (C:=Tryz.checked) (os:=os) (X:=fun w _=>laidMetH Tryz.prog mG w) false (World.laidAll Tryz.prog os mG) #[.slice none 0 0] 8 (World.laidAll_os _ _ _) (yT os) (by kernel_rfl) (by kernel_rfl) (by kernel_rfl) (GH os _)) ?_
 intro W base args ds gs before hval0 hW hwt hL WK;have hval:∀ (j:Nat) t v,Tryz.f3.params[j]?=some t->args[j]?=some v->Value.okWide Tryz.prog W .any base t v:=hval0;have hW':=hW;obtain ⟨p,q,Uz,hV,rfl,hfz,hnd⟩:=hW;have hA:DataW.TrodAll enc Tryz.prog W 0 (fun _=>true) true Tryz.f3.params.toList args.toList ds p:=Uz;rw [Tryz.params3] at hA hval;obtain ⟨v0,XH,d0,ds0,p0,q0,hargs,rfl,rfl,h0,r0⟩:=trodAll_cons hA;obtain ⟨rfl,rfl,rfl⟩:=trodAll_nil r0;obtain rfl:args=#[v0]:=by cases args;simp_all
 obtain ⟨rfl,rfl⟩:=trodVars_none hV;rw [Tryz.params3] at hwt;have hT:=GJ hL;have hM:=uw WK;have WL:∀ x∈p0,x.block<W.heap.size:=by obtain ⟨m,hm⟩:=h0;exact DataW.trod_lt m _ _ _ hm
 obtain ⟨a0,n0,cap0,rfl⟩:=okWide_slice Tryz.underlying22 (hval 0 22 v0 rfl rfl);obtain ⟨l0,hb0⟩:=D7 h0.choose_spec (pE hwt 0 22 d0 rfl rfl);clear Uz hval0 hwt;try simp only [List.append_nil] at hW'
 refine (sD l0 _ W hb0 hT.1 hT.2 hM).mono fun e W' ⟨he,Ao⟩=>?_
 subst he;exact ⟨_,rfl,_,_,_,[],_,[],hW',trodAll_mk1 (shut_bool Tryz.underlying4 _),(trodAll_cons_mk (Below.trod laidOut (by kernel_rfl) (of_decide_eq_true (by kernel_rfl)) h0 Ao WL) trodAll_mk0),rfl,Ao.frame _,fun h=>by cases h⟩
theorem over:Rows.BoxesCheckSaid:=
 OpenClaim.holds_of_wide 3 Tryz.f3 rfl rfl rfl rfl rfl rfl rfl ⟨rfl,rfl,rfl,rfl,rfl⟩ rfl rfl rfl rfl rfl (by kernel_rfl) Tryz.func3 (by kernel_rfl)
  (of_decide_eq_true (by kernel_rfl)) (by unfold Func.isWrapper;first | (rw [if_pos (by decide +kernel)];kernel_rfl) | (rw [if_neg (by decide +kernel)];exact ⟨rfl,rfl⟩))
  (fun os started H enc _=>lifted os started H enc)
theorem yV:Rows.BoxesCheckCardSaid:=
 Claim7.holds_tied_plain_at .later [] [.data,.data,.data,.data,.data,.pinned] true Rows.boxesCheckCard.stood.harness false
  over (fun _ h=>by cases h) (by kernel_rfl) (fun _ h=>by cases h) boxesCheck_row_tie rfl ⟨rfl,rfl⟩ (by kernel_rfl) rfl
  (fun f fn hf hfn=>by
   obtain rfl : f = 3 := Option.some.inj ((show Tryz.prog.funcNamed "publisher/publisherlaw39.BoxesCheck" = some 3 by kernel_rfl).symm.trans hf) |>.symm
   obtain rfl:fn=Tryz.f3:=(Option.some.inj (Tryz.func3.symm.trans hfn)).symm;exact ⟨by kernel_rfl,fun j t ht=>by
    rw [Tryz.params3] at ht;have hm:t∈[22]:=by simpa using Array.mem_of_getElem? ht
    have hall:([22].all fun u=>!Tryz.prog.wantsStandIn u)=true:=by kernel_rfl
    exact (show Tryz.prog.wantsStandIn t=false by simpa using List.all_eq_true.1 hall t hm)⟩)
  (by kernel_rfl)
end Go.Proofs.YtnmldmofggkoeaaGreatDoor.jF
namespace Go.Proofs.YtnmldmofggkoeaaGreatDoor
theorem boxesCheck_proved:Rows.BoxesCheckCardSaid:=jF.yV
#print axioms boxesCheck_proved
end Go.Proofs.YtnmldmofggkoeaaGreatDoor

