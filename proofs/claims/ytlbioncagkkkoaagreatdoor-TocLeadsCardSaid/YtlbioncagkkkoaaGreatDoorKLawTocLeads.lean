/- Proved: the tied card of publisherlaw24.TocLeads: it returns true at every document, and the arguments read as before; the tables of the library are what the program's text lays. No other condition. -/
import Derived.Test.YtlbioncagkkkoaaGreatDoorKLaid5
import Derived.Test.YtlbioncagkkkoaaGreatDoorKTwD
import Derived.Test.YtlbioncagkkkoaaGreatDoorKWeight
import Derived.Test.YtlbioncagkkkoaaGreatDoorCards
import Derived.Test.YtlbioncagkkkoaaGreatDoorTie
import Derived.ShutString
import Derived.SevenTiedAt
import Derived.ChangeOld
set_option maxRecDepth 100000
namespace Go.Proofs.YtlbioncagkkkoaaGreatDoor.LawTocLeads
open Go.ChangeShapes Go.WideShapes Go.ChangeAt Go.RowKit
set_option linter.unusedVariables false
set_option linter.unusedSimpArgs false
theorem lifted (os:Os) (started:os.Started) (H:Type) (enc:TypeId × Value->H) :
  ReturnsInHanded {} Tryz.checked os 6 .any (fun w args=>(Rows.tocLeadsSpec.pre enc Tryz.prog Tryz.f6 [] false w args/\laidMetH Tryz.prog laidF w)/\sizedMet enc Tryz.prog Tryz.f6 (OpenSpec.ofChange Rows.tocLeadsSpec) false w args)
   (Rows.tocLeadsSpec.post enc Tryz.prog Tryz.f6 false true false false):=by
 refine returnsInHanded_of_change_and (C:=Tryz.checked) (X:=fun w _=>laidMetH Tryz.prog laidF w) (fun _ _ _ hh h=>h.of_heap hh) own started (by kernel_rfl) Tryz.func6
  (ChangeSpec.witness_shaped (enc:=enc) (C:=Tryz.checked) (os:=os) (X:=fun w _=>laidMetH Tryz.prog laidF w) false (World.laidAll Tryz.prog os laidF) #[.agg #[.slice none 0 0,.slice none 0 0]] 8 (World.laidAll_os _ _ _) (wit_shaped os) (by kernel_rfl) (by kernel_rfl) (by kernel_rfl) (wit_met os _)) ?_
 intro W base args ds gs before hval0 hW _ hwt hL _
 have hval:∀ (j:Nat) t v,Tryz.f6.params[j]?=some t->args[j]?=some v->Value.okWide Tryz.prog W .any base t v:=hval0
 have hW':=hW
 obtain ⟨p,q,hA0,hV,rfl,hfz,hnd⟩:=hW
 have hA:DataW.TrodAll enc Tryz.prog W 0 (fun _=>true) true Tryz.f6.params.toList args.toList ds p:=hA0
 rw [Tryz.params6] at hA hval
 obtain ⟨v0,vs0,d0,ds0,p0,q0,hargs,rfl,rfl,h0,r0⟩:=trodAll_cons hA
 obtain ⟨rfl,rfl,rfl⟩:=trodAll_nil r0
 obtain rfl:args=#[v0]:=by cases args;simp_all
 obtain ⟨rfl,rfl⟩:=trodVars_none hV
 have lt0:∀ x∈p0,x.block<W.heap.size:=by obtain ⟨m,hm⟩:=h0;exact DataW.trod_lt m _ _ _ hm
 have hw0:Rch Tryz.prog 25 d0:=by
  rw [Tryz.params6] at hwt
  exact rch_each hwt 0 25 d0 rfl rfl
 obtain ⟨me,l,vm,vb,hwm,hml,hwl,hll,hcs,hm,hb⟩:=rd_doc h0.choose_spec hw0
 have hT:=of_laid hL
 obtain ⟨cv,rfl,-⟩:=okWide_struct Tryz.underlying25 (hval 0 25 v0 rfl rfl)
 obtain rfl:cv=#[vm,vb]:=by
  have h:cv.toList=[vm,vb]:=hcs
  cases cv;simp_all
 clear hA0 hval0 hwt
 refine (leads_walk me l vm vb W hm hb hwm hwl hT).mono fun e W' ⟨he,bel⟩=>?_
 subst he
 exact ⟨_,rfl,_,_,_,[],_,[],hW',trodAll_mk1 (shut_bool Tryz.underlying4 _),(trodAll_cons_mk (Below.trod laidOut (by kernel_rfl) (of_decide_eq_true (by kernel_rfl)) h0 bel lt0) trodAll_mk0),rfl,bel.frame _,fun h=>by cases h⟩
theorem over:Rows.TocLeadsSaid:=
 OpenClaim.holds_of_wide 6 Tryz.f6 rfl rfl rfl rfl rfl rfl rfl ⟨rfl,rfl,rfl,rfl,rfl⟩ rfl rfl rfl rfl rfl (by kernel_rfl) Tryz.func6 (by kernel_rfl)
  (of_decide_eq_true (by kernel_rfl)) (by unfold Func.isWrapper;first | (rw [if_pos (by decide +kernel)];kernel_rfl) | (rw [if_neg (by decide +kernel)];exact ⟨rfl,rfl⟩))
  (fun os started H enc _=>lifted os started H enc)
theorem card_holds:Rows.TocLeadsCardSaid:=
 Claim7.holds_tied_plain_at .later [] [.data,.data,.data,.data,.pinned] true Rows.tocLeadsCard.stood.harness false
  over (fun _ h=>by cases h) (by kernel_rfl) (fun _ h=>by cases h) tocLeads_row_tie rfl ⟨rfl,rfl⟩ (by kernel_rfl) rfl
  (fun f fn hf hfn=>by
   obtain rfl : f = 6 := Option.some.inj ((show Tryz.prog.funcNamed "publisher/publisherlaw24.TocLeads" = some 6 by kernel_rfl).symm.trans hf) |>.symm
   obtain rfl:fn=Tryz.f6:=(Option.some.inj (Tryz.func6.symm.trans hfn)).symm
   exact ⟨by kernel_rfl,fun j t ht=>by
    rw [Tryz.params6] at ht
    have hm:t∈[25]:=by simpa using Array.mem_of_getElem? ht
    have hall:([25].all fun u=>!Tryz.prog.wantsStandIn u)=true:=by kernel_rfl
    exact (show Tryz.prog.wantsStandIn t=false by simpa using List.all_eq_true.1 hall t hm)⟩)
  (by kernel_rfl)
end Go.Proofs.YtlbioncagkkkoaaGreatDoor.LawTocLeads
namespace Go.Proofs.YtlbioncagkkkoaaGreatDoor
theorem tocLeads_proved:Rows.TocLeadsCardSaid:=LawTocLeads.card_holds
#print axioms tocLeads_proved
end Go.Proofs.YtlbioncagkkkoaaGreatDoor
