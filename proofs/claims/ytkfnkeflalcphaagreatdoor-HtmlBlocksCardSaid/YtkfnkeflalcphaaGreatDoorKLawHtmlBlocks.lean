/- HtmlBlocks (layer 34) holds, for every input, without a panic: the card, tied to five tables of the library. -/
import Derived.Test.YtkfnkeflalcphaaGreatDoorKLaid5
import Derived.Test.YtkfnkeflalcphaaGreatDoorKHwD
import Derived.Test.YtkfnkeflalcphaaGreatDoorKLkHtmlBlocks
set_option maxRecDepth 100000
namespace Go.Proofs.YtkfnkeflalcphaaGreatDoor.iF
open Go.ChangeShapes Go.WideShapes Go.ChangeAt Go.RowKit
set_option linter.unusedVariables false
set_option linter.unusedSimpArgs false
theorem lifted (os:Os) (started:os.Started) (H:Type) (enc:TypeId × Value->H) : ReturnsInHanded {} Tryz.checked os 3 .any (fun w args=>(Rows.htmlBlocksSpec.pre enc Tryz.prog Tryz.f3 [] false w args/\laidMetH Tryz.prog vW w)/\sizedMet enc Tryz.prog Tryz.f3 (OpenSpec.ofChange Rows.htmlBlocksSpec) false w args) (Rows.htmlBlocksSpec.post enc Tryz.prog Tryz.f3 false true false false):=by
 refine returnsInHanded_of_change_and (C:=Tryz.checked) (X:=fun w _=>laidMetH Tryz.prog vW w) (fun _ _ _ hh h=>h.of_heap hh) own started (by kernel_rfl) Tryz.func3
  (ChangeSpec.witness_shaped (enc:=enc) (C:=Tryz.checked) (os:=os) (X:=fun w _=>laidMetH Tryz.prog vW w) false (World.laidAll Tryz.prog os vW) #[.slice none 0 0] 8 (World.laidAll_os _ _ _) (KE os) (by kernel_rfl) (by kernel_rfl) (by kernel_rfl) (XP os _)) ?_
 intro W base args ds gs before hval0 hW _ hwt hL _;have hval:∀ (j:Nat) t v,Tryz.f3.params[j]?=some t->args[j]?=some v->Value.okWide Tryz.prog W .any base t v:=hval0;have hW':=hW;obtain ⟨p,q,hA0,hV,rfl,hfz,hnd⟩:=hW;have hA:DataW.TrodAll enc Tryz.prog W 0 (fun _=>true) true Tryz.f3.params.toList args.toList ds p:=hA0;rw [Tryz.params3] at hA hval;obtain ⟨v0,vs0,d0,ds0,p0,q0,hargs,rfl,rfl,h0,r0⟩:=trodAll_cons hA;obtain ⟨rfl,rfl,rfl⟩:=trodAll_nil r0;obtain rfl:args=#[v0]:=by cases args;simp_all
 obtain ⟨rfl,rfl⟩:=trodVars_none hV;rw [Tryz.params3] at hwt;have hT:=XQ hL;have lt0:∀ x∈p0,x.block<W.heap.size:=by obtain ⟨m,hm⟩:=h0;exact DataW.trod_lt m _ _ _ hm
 obtain ⟨a0,n0,cap0,rfl⟩:=okWide_slice Tryz.underlying22 (hval 0 22 v0 rfl rfl);obtain ⟨l0,jyq,jyx,hb0⟩:=XR h0.choose_spec (zI hwt 0 22 d0 rfl rfl);clear hA0 hval0 hwt;refine (XI l0 _ W hb0 jyq jyx hT).mono fun e W' ⟨he,aM⟩=>?_
 subst he;exact ⟨_,rfl,_,_,_,[],_,[],hW',trodAll_mk1 (shut_bool Tryz.underlying4 _),(trodAll_cons_mk (Below.trod laidOut (by kernel_rfl) (of_decide_eq_true (by kernel_rfl)) h0 aM lt0) trodAll_mk0),rfl,aM.frame _,fun h=>by cases h⟩
theorem over:Rows.HtmlBlocksSaid:=
 OpenClaim.holds_of_wide 3 Tryz.f3 rfl rfl rfl rfl rfl rfl rfl ⟨rfl,rfl,rfl,rfl,rfl⟩ rfl rfl rfl rfl rfl named Tryz.func3 closed
  (of_decide_eq_true (by kernel_rfl)) (by unfold Func.isWrapper;first | (rw [if_pos (by decide +kernel)];kernel_rfl) | (rw [if_neg (by decide +kernel)];exact ⟨rfl,rfl⟩))
  (fun os started H enc _=>lifted os started H enc)
theorem KF:Rows.HtmlBlocksCardSaid:=
 Claim7.holds_tied_plain_at .later [] [.data,.data,.data,.data,.pinned] true Rows.htmlBlocksCard.stood.harness false
  over (fun _ h=>by cases h) (by kernel_rfl) (fun _ h=>by cases h) htmlBlocks_row_tie rfl ⟨rfl,rfl⟩ XT rfl
  (fun f fn hf hfn=>by
   obtain rfl:f=3:=Option.some.inj (named.symm.trans hf) |>.symm
   obtain rfl:fn=Tryz.f3:=(Option.some.inj (Tryz.func3.symm.trans hfn)).symm;exact ⟨TK,fun j t ht=>by
    rw [Tryz.params3] at ht;have hm:t∈[22]:=by simpa using Array.mem_of_getElem? ht
    have hall:([22].all fun u=>!Tryz.prog.wantsStandIn u)=true:=by kernel_rfl
    exact (show Tryz.prog.wantsStandIn t=false by simpa using List.all_eq_true.1 hall t hm)⟩)
  goes
end Go.Proofs.YtkfnkeflalcphaaGreatDoor.iF
namespace Go.Proofs.YtkfnkeflalcphaaGreatDoor
theorem htmlBlocks_proved:Rows.HtmlBlocksCardSaid:=iF.KF
#print axioms htmlBlocks_proved
end Go.Proofs.YtkfnkeflalcphaaGreatDoor

