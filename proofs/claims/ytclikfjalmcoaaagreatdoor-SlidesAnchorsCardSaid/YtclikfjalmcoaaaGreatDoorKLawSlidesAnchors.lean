/- Proved: the tied card of publisherlaw43.SlidesAnchors: it returns true at every document, and the arguments read as before; the tables of the library are what the program's text lays. No other condition. -/
import Derived.Test.YtclikfjalmcoaaaGreatDoorKLaid5
import Derived.Test.YtclikfjalmcoaaaGreatDoorKSwN
import Derived.Test.YtclikfjalmcoaaaGreatDoorKLkSlidesAnchors
set_option maxRecDepth 100000
namespace Go.Proofs.YtclikfjalmcoaaaGreatDoor.dV
open Go.ChangeShapes Go.WideShapes Go.ChangeAt Go.RowKit
set_option linter.unusedVariables false
set_option linter.unusedSimpArgs false
theorem lifted (os:Os) (started:os.Started) (H:Type) (enc:TypeId × Value->H) : ReturnsInHanded {} Tryz.checked os 11 .any (fun w args=>(Rows.slidesAnchorsSpec.pre enc Tryz.prog Tryz.f11 [] false w args/\laidMetH Tryz.prog sN w)/\sizedMet enc Tryz.prog Tryz.f11 (OpenSpec.ofChange Rows.slidesAnchorsSpec) false w args) (Rows.slidesAnchorsSpec.post enc Tryz.prog Tryz.f11 false true false false):=by
 refine returnsInHanded_of_change_and (C:=Tryz.checked) (X:=fun w _=>laidMetH Tryz.prog sN w) (fun _ _ _ hh h=>h.of_heap hh) own started (by kernel_rfl) Tryz.func11
  (ChangeSpec.witness_shaped (enc:=enc) (C:=Tryz.checked) (os:=os) (X:=fun w _=>laidMetH Tryz.prog sN w) false (World.laidAll Tryz.prog os sN) #[.agg #[.slice none 0 0,.slice none 0 0]] 8 (World.laidAll_os _ _ _) (Gm os) (by kernel_rfl) (by kernel_rfl) (by kernel_rfl) (QH os _)) ?_
 intro W base args ds gs before hval0 hW _ hwt hL _;have hval:∀ (j:Nat) t v,Tryz.f11.params[j]?=some t->args[j]?=some v->Value.okWide Tryz.prog W .any base t v:=hval0;have hW':=hW;obtain ⟨p,q,hA0,hV,rfl,hfz,hnd⟩:=hW;have hA:DataW.TrodAll enc Tryz.prog W 0 (fun _=>true) true Tryz.f11.params.toList args.toList ds p:=hA0;rw [Tryz.params11] at hA hval;obtain ⟨v0,vs0,d0,ds0,p0,q0,hargs,rfl,rfl,h0,r0⟩:=trodAll_cons hA;obtain ⟨rfl,rfl,rfl⟩:=trodAll_nil r0;obtain rfl:args=#[v0]:=by cases args;simp_all
 obtain ⟨rfl,rfl⟩:=trodVars_none hV;rw [Tryz.params11] at hwt;have hT:=QI hL;have lt0:∀ x∈p0,x.block<W.heap.size:=by obtain ⟨m,hm⟩:=h0;exact DataW.trod_lt m _ _ _ hm
 obtain ⟨me0,l0,vm0,vb0,jd1,jd2,jd3,jd4,jd5,hm0,hb0⟩:=VY h0.choose_spec (wI hwt 0 32 d0 rfl rfl);obtain ⟨cv0,rfl,-⟩:=okWide_struct Tryz.underlying32 (hval 0 32 v0 rfl rfl);obtain rfl:cv0=#[vm0,vb0]:=by have h:cv0.toList=[vm0,vb0]:=jd5;cases cv0;simp_all
 clear hA0 hval0 hwt;refine (QJ me0 l0 vm0 vb0 W hm0 hb0 jd1 jd3 jd2 jd4 hT).mono fun e W' ⟨he,aT⟩=>?_
 subst he;exact ⟨_,rfl,_,_,_,[],_,[],hW',trodAll_mk1 (shut_bool Tryz.underlying4 _),(trodAll_cons_mk (Below.trod laidOut (by kernel_rfl) (of_decide_eq_true (by kernel_rfl)) h0 aT lt0) trodAll_mk0),rfl,aT.frame _,fun h=>by cases h⟩
theorem over:Rows.SlidesAnchorsSaid:=
 OpenClaim.holds_of_wide 11 Tryz.f11 rfl rfl rfl rfl rfl rfl rfl ⟨rfl,rfl,rfl,rfl,rfl⟩ rfl rfl rfl rfl rfl named Tryz.func11 closed
  (of_decide_eq_true (by kernel_rfl)) (by unfold Func.isWrapper;first | (rw [if_pos (by decide +kernel)];kernel_rfl) | (rw [if_neg (by decide +kernel)];exact ⟨rfl,rfl⟩))
  (fun os started H enc _=>lifted os started H enc)
theorem Gn:Rows.SlidesAnchorsCardSaid:=
 Claim7.holds_tied_plain_at .later [] [.data,.data,.data,.data,.pinned] true Rows.slidesAnchorsCard.stood.harness false
  over (fun _ h=>by cases h) (by kernel_rfl) (fun _ h=>by cases h) slidesAnchors_row_tie rfl ⟨rfl,rfl⟩ QK rfl
  (fun f fn hf hfn=>by
   obtain rfl:f=11:=Option.some.inj (named.symm.trans hf) |>.symm
   obtain rfl:fn=Tryz.f11:=(Option.some.inj (Tryz.func11.symm.trans hfn)).symm;exact ⟨Ni,fun j t ht=>by
    rw [Tryz.params11] at ht;have hm:t∈[32]:=by simpa using Array.mem_of_getElem? ht
    have hall:([32].all fun u=>!Tryz.prog.wantsStandIn u)=true:=by kernel_rfl
    exact (show Tryz.prog.wantsStandIn t=false by simpa using List.all_eq_true.1 hall t hm)⟩)
  goes
end Go.Proofs.YtclikfjalmcoaaaGreatDoor.dV
namespace Go.Proofs.YtclikfjalmcoaaaGreatDoor
theorem slidesAnchors_proved:Rows.SlidesAnchorsCardSaid:=dV.Gn
#print axioms slidesAnchors_proved
end Go.Proofs.YtclikfjalmcoaaaGreatDoor

