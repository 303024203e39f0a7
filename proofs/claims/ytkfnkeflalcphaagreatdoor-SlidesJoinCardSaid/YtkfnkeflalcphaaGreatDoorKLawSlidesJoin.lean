/- Proved: the tied card of publisherlaw43.SlidesJoin: it returns true at every two documents, and the arguments read as before; the tables of the library are what the program's text lays. No other condition. -/
import Derived.Test.YtkfnkeflalcphaaGreatDoorKLaid5
import Derived.Test.YtkfnkeflalcphaaGreatDoorKSwJ
import Derived.Test.YtkfnkeflalcphaaGreatDoorKLkSlidesJoin
set_option maxRecDepth 100000
namespace Go.Proofs.YtkfnkeflalcphaaGreatDoor.iw
open Go.ChangeShapes Go.WideShapes Go.ChangeAt Go.RowKit
set_option linter.unusedVariables false
set_option linter.unusedSimpArgs false
theorem lifted (os:Os) (started:os.Started) (H:Type) (enc:TypeId × Value->H) : ReturnsInHanded {} Tryz.checked os 9 .any (fun w args=>(Rows.slidesJoinSpec.pre enc Tryz.prog Tryz.f9 [] false w args/\laidMetH Tryz.prog sW w)/\sizedMet enc Tryz.prog Tryz.f9 (OpenSpec.ofChange Rows.slidesJoinSpec) false w args) (Rows.slidesJoinSpec.post enc Tryz.prog Tryz.f9 false true false false):=by
 refine returnsInHanded_of_change_and (C:=Tryz.checked) (X:=fun w _=>laidMetH Tryz.prog sW w) (fun _ _ _ hh h=>h.of_heap hh) own started (by kernel_rfl) Tryz.func9
  (ChangeSpec.witness_shaped (enc:=enc) (C:=Tryz.checked) (os:=os) (X:=fun w _=>laidMetH Tryz.prog sW w) false (World.laidAll Tryz.prog os sW) #[.agg #[.slice none 0 0,.slice none 0 0],.agg #[.slice none 0 0,.slice none 0 0]] 8 (World.laidAll_os _ _ _) (GH os) (by kernel_rfl) (by kernel_rfl) (by kernel_rfl) (Rt os _)) ?_
 intro W base args ds gs before hval0 hW _ hwt hL _;have hval:∀ (j:Nat) t v,Tryz.f9.params[j]?=some t->args[j]?=some v->Value.okWide Tryz.prog W .any base t v:=hval0;have hW':=hW;obtain ⟨p,q,hA0,hV,rfl,hfz,hnd⟩:=hW;have hA:DataW.TrodAll enc Tryz.prog W 0 (fun _=>true) true Tryz.f9.params.toList args.toList ds p:=hA0;rw [Tryz.params9] at hA hval;obtain ⟨v0,vs0,d0,ds0,p0,q0,hargs,rfl,rfl,h0,r0⟩:=trodAll_cons hA;obtain ⟨v1,vs1,d1,ds1,p1,q1,rfl,rfl,rfl,h1,r1⟩:=trodAll_cons r0;obtain ⟨rfl,rfl,rfl⟩:=trodAll_nil r1;obtain rfl:args=#[v0,v1]:=by cases args;simp_all
 obtain ⟨rfl,rfl⟩:=trodVars_none hV;rw [Tryz.params9] at hwt;have hT:=Ru hL;have lt0:∀ x∈p0,x.block<W.heap.size:=by obtain ⟨m,hm⟩:=h0;exact DataW.trod_lt m _ _ _ hm
 obtain ⟨me0,l0,vm0,vb0,jgq,jgx,jgz,jh0,jh1,hm0,hb0⟩:=Mi h0.choose_spec (pO hwt 0 26 d0 rfl rfl);obtain ⟨cv0,rfl,-⟩:=okWide_struct Tryz.underlying26 (hval 0 26 v0 rfl rfl);obtain rfl:cv0=#[vm0,vb0]:=by have h:cv0.toList=[vm0,vb0]:=jh1;cases cv0;simp_all
 have lt1:∀ x∈p1,x.block<W.heap.size:=by obtain ⟨m,hm⟩:=h1;exact DataW.trod_lt m _ _ _ hm
 obtain ⟨me1,l1,vm1,vb1,jh2,jh3,jh4,jh5,hcs1,hm1,hb1⟩:=Mi h1.choose_spec (pO hwt 1 26 d1 rfl rfl);obtain ⟨cv1,rfl,-⟩:=okWide_struct Tryz.underlying26 (hval 1 26 v1 rfl rfl);obtain rfl:cv1=#[vm1,vb1]:=by have h:cv1.toList=[vm1,vb1]:=hcs1;cases cv1;simp_all
 clear hA0 hval0 hwt;refine (Rv me0 l0 vm0 vb0 me1 l1 vm1 vb1 W hm0 hb0 jgq jgz jgx jh0 hm1 hb1 jh2 jh4 jh3 jh5 hT).mono fun e W' ⟨he,aI⟩=>?_
 subst he;exact ⟨_,rfl,_,_,_,[],_,[],hW',trodAll_mk1 (shut_bool Tryz.underlying4 _),(trodAll_cons_mk (Below.trod laidOut (by kernel_rfl) (of_decide_eq_true (by kernel_rfl)) h0 aI lt0) (trodAll_cons_mk (Below.trod laidOut (by kernel_rfl) (of_decide_eq_true (by kernel_rfl)) h1 aI lt1) trodAll_mk0)),rfl,aI.frame _,fun h=>by cases h⟩
theorem over:Rows.SlidesJoinSaid:=
 OpenClaim.holds_of_wide 9 Tryz.f9 rfl rfl rfl rfl rfl rfl rfl ⟨rfl,rfl,rfl,rfl,rfl⟩ rfl rfl rfl rfl rfl named Tryz.func9 closed
  (of_decide_eq_true (by kernel_rfl)) (by unfold Func.isWrapper;first | (rw [if_pos (by decide +kernel)];kernel_rfl) | (rw [if_neg (by decide +kernel)];exact ⟨rfl,rfl⟩))
  (fun os started H enc _=>lifted os started H enc)
theorem GI:Rows.SlidesJoinCardSaid:=
 Claim7.holds_tied_plain_at .later [] [.data,.data,.data,.data,.pinned] true Rows.slidesJoinCard.stood.harness false
  over (fun _ h=>by cases h) (by kernel_rfl) (fun _ h=>by cases h) slidesJoin_row_tie rfl ⟨rfl,rfl⟩ Rw rfl
  (fun f fn hf hfn=>by
   obtain rfl:f=9:=Option.some.inj (named.symm.trans hf) |>.symm
   obtain rfl:fn=Tryz.f9:=(Option.some.inj (Tryz.func9.symm.trans hfn)).symm;exact ⟨NY,fun j t ht=>by
    rw [Tryz.params9] at ht;have hm:t∈[26,26]:=by simpa using Array.mem_of_getElem? ht
    have hall:([26,26].all fun u=>!Tryz.prog.wantsStandIn u)=true:=by kernel_rfl
    exact (show Tryz.prog.wantsStandIn t=false by simpa using List.all_eq_true.1 hall t hm)⟩)
  goes
end Go.Proofs.YtkfnkeflalcphaaGreatDoor.iw
namespace Go.Proofs.YtkfnkeflalcphaaGreatDoor
theorem slidesJoin_proved:Rows.SlidesJoinCardSaid:=iw.GI
#print axioms slidesJoin_proved
end Go.Proofs.YtkfnkeflalcphaaGreatDoor

