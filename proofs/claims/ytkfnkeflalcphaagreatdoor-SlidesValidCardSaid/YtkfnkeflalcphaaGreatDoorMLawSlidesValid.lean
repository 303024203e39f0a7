/- SlidesValid (layer 43) holds, for every input, without a panic: the card, tied to five tables of the library. -/
import Derived.Test.YtkfnkeflalcphaaGreatDoorMLaid5
import Derived.Test.YtkfnkeflalcphaaGreatDoorMSwV
import Derived.Test.YtkfnkeflalcphaaGreatDoorMLkSlidesValid
set_option maxRecDepth 100000
namespace Go.Proofs.YtkfnkeflalcphaaGreatDoor.gF
open Go.ChangeShapes Go.WideShapes Go.ChangeAt Go.RowKit
set_option linter.unusedVariables false
set_option linter.unusedSimpArgs false
theorem lifted (os:Os) (started:os.Started) (H:Type) (enc:TypeId × Value->H) : ReturnsInHanded {} Tryz.checked os 8 .any (fun w args=>(Rows.slidesValidSpec.pre enc Tryz.prog Tryz.f8 [] false w args/\laidMetH Tryz.prog xK w)/\sizedMet enc Tryz.prog Tryz.f8 (OpenSpec.ofChange Rows.slidesValidSpec) false w args) (Rows.slidesValidSpec.post enc Tryz.prog Tryz.f8 false true false false):=by
 refine returnsInHanded_of_change_and (C:=Tryz.checked) (X:=fun w _=>laidMetH Tryz.prog xK w) (fun _ _ _ hh h=>h.of_heap hh) own started (by kernel_rfl) Tryz.func8
  (ChangeSpec.witness_shaped (enc:=enc) (C:=Tryz.checked) (os:=os) (X:=fun w _=>laidMetH Tryz.prog xK w) false (World.laidAll Tryz.prog os xK) #[.agg #[.slice none 0 0,.slice none 0 0]] 8 (World.laidAll_os _ _ _) (MQ os) (by kernel_rfl) (by kernel_rfl) (by kernel_rfl) (ZP os _)) ?_
 intro W base args ds gs before hval0 hW _ hwt hL _;have hval:∀ (j:Nat) t v,Tryz.f8.params[j]?=some t->args[j]?=some v->Value.okWide Tryz.prog W .any base t v:=hval0;have hW':=hW;obtain ⟨p,q,hA0,hV,rfl,hfz,hnd⟩:=hW;have hA:DataW.TrodAll enc Tryz.prog W 0 (fun _=>true) true Tryz.f8.params.toList args.toList ds p:=hA0;rw [Tryz.params8] at hA hval;obtain ⟨v0,vs0,d0,ds0,p0,q0,hargs,rfl,rfl,h0,r0⟩:=trodAll_cons hA;obtain ⟨rfl,rfl,rfl⟩:=trodAll_nil r0;obtain rfl:args=#[v0]:=by cases args;simp_all
 obtain ⟨rfl,rfl⟩:=trodVars_none hV;rw [Tryz.params8] at hwt;have hT:=ZQ hL;have lt0:∀ x∈p0,x.block<W.heap.size:=by obtain ⟨m,hm⟩:=h0;exact DataW.trod_lt m _ _ _ hm
 obtain ⟨me0,l0,vm0,vb0,jE4,jE5,jE6,jE7,jE8,hm0,hb0⟩:=jsq h0.choose_spec (Ay hwt 0 26 d0 rfl rfl);obtain ⟨cv0,rfl,-⟩:=okWide_struct Tryz.underlying26 (hval 0 26 v0 rfl rfl);obtain rfl:cv0=#[vm0,vb0]:=by have h:cv0.toList=[vm0,vb0]:=jE8;cases cv0;simp_all
 clear hA0 hval0 hwt;refine (ZR me0 l0 vm0 vb0 W hm0 hb0 jE4 jE6 jE5 jE7 hT).mono fun e W' ⟨he,aY⟩=>?_
 subst he;exact ⟨_,rfl,_,_,_,[],_,[],hW',trodAll_mk1 (shut_bool Tryz.underlying4 _),(trodAll_cons_mk (Below.trod laidOut (by kernel_rfl) (of_decide_eq_true (by kernel_rfl)) h0 aY lt0) trodAll_mk0),rfl,aY.frame _,fun h=>by cases h⟩
theorem over:Rows.SlidesValidSaid:=
 OpenClaim.holds_of_wide 8 Tryz.f8 rfl rfl rfl rfl rfl rfl rfl ⟨rfl,rfl,rfl,rfl,rfl⟩ rfl rfl rfl rfl rfl named Tryz.func8 closed
  (of_decide_eq_true (by kernel_rfl)) (by unfold Func.isWrapper;first | (rw [if_pos (by decide +kernel)];kernel_rfl) | (rw [if_neg (by decide +kernel)];exact ⟨rfl,rfl⟩))
  (fun os started H enc _=>lifted os started H enc)
theorem MR:Rows.SlidesValidCardSaid:=
 Claim7.holds_tied_plain_at .later [] [.data,.data,.data,.data,.pinned] true Rows.slidesValidCard.stood.harness false
  over (fun _ h=>by cases h) (by kernel_rfl) (fun _ h=>by cases h) slidesValid_row_tie rfl ⟨rfl,rfl⟩ ZT rfl
  (fun f fn hf hfn=>by
   obtain rfl:f=8:=Option.some.inj (named.symm.trans hf) |>.symm
   obtain rfl:fn=Tryz.f8:=(Option.some.inj (Tryz.func8.symm.trans hfn)).symm;exact ⟨Vq,fun j t ht=>by
    rw [Tryz.params8] at ht;have hm:t∈[26]:=by simpa using Array.mem_of_getElem? ht
    have hall:([26].all fun u=>!Tryz.prog.wantsStandIn u)=true:=by kernel_rfl
    exact (show Tryz.prog.wantsStandIn t=false by simpa using List.all_eq_true.1 hall t hm)⟩)
  goes
end Go.Proofs.YtkfnkeflalcphaaGreatDoor.gF
namespace Go.Proofs.YtkfnkeflalcphaaGreatDoor
theorem slidesValid_proved:Rows.SlidesValidCardSaid:=gF.MR
#print axioms slidesValid_proved
end Go.Proofs.YtkfnkeflalcphaaGreatDoor

