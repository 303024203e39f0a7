/- Proved: the tied card of publisherlaw39.BoxesWords: it returns true at every input, and the arguments read as before; the tables are what the program's text lays. No other condition. -/
import Derived.Test.YtnmldmofggkoeaaGreatDoorKLaid6
import Derived.Test.YtnmldmofggkoeaaGreatDoorKBxZ
import Derived.Test.YtnmldmofggkoeaaGreatDoorCards
import Derived.Test.YtnmldmofggkoeaaGreatDoorTie
import Derived.ShutString
set_option maxRecDepth 100000
namespace Go.Proofs.YtnmldmofggkoeaaGreatDoor.jT
open Go.ChangeShapes Go.WideShapes Go.ChangeAt Go.RowKit
set_option linter.unusedVariables false
set_option linter.unusedSimpArgs false
theorem lifted (os:Os) (started:os.Started) (H:Type) (enc:TypeId × Value->H) : ReturnsInHanded {} Tryz.checked os 5 .any (fun w args=>(Rows.boxesWordsSpec.pre enc Tryz.prog Tryz.f5 [] false w args/\laidMetH Tryz.prog mO w)/\sizedMet enc Tryz.prog Tryz.f5 (OpenSpec.ofChange Rows.boxesWordsSpec) false w args) (Rows.boxesWordsSpec.post enc Tryz.prog Tryz.f5 false true false false):=by
 refine sj (C:=Tryz.checked) (X:=fun w _=>laidMetH Tryz.prog mO w) (fun _ _ _ hh h=>h.of_heap hh) own started (by kernel_rfl) Tryz.func5
  (ChangeSpec.witness_shaped (enc:=enc) (C:=Tryz.checked) (os:=os) (X:=fun w _=>laidMetH Tryz.prog mO w) false (World.laidAll Tryz.prog os mO) #[.slice none 0 0,.int .u16 0] 8 (World.laidAll_os _ _ _) (yP os) (by kernel_rfl) (by kernel_rfl) (by kernel_rfl) (GY os _)) ?_
 intro W base args ds gs before hval0 hW hwt hL Xx;have hval:∀ (j:Nat) t v,Tryz.f5.params[j]?=some t->args[j]?=some v->Value.okWide Tryz.prog W .any base t v:=hval0;have hW':=hW;obtain ⟨p,q,UZ,hV,rfl,hfz,hnd⟩:=hW;have hA:DataW.TrodAll enc Tryz.prog W 0 (fun _=>true) true Tryz.f5.params.toList args.toList ds p:=UZ;rw [Tryz.params5] at hA hval;obtain ⟨v0,Yv,d0,ds0,p0,q0,hargs,rfl,rfl,h0,r0⟩:=trodAll_cons hA;obtain ⟨v1,vs1,d1,ds1,p1,q1,rfl,rfl,rfl,h1,r1⟩:=trodAll_cons r0;obtain ⟨rfl,rfl,rfl⟩:=trodAll_nil r1;obtain rfl:args=#[v0,v1]:=by cases args;simp_all
 obtain ⟨rfl,rfl⟩:=trodVars_none hV;rw [Tryz.params5] at hwt;have hT:=G5 hL;have hM:=uI Xx;have Xy:∀ x∈p0,x.block<W.heap.size:=by obtain ⟨m,hm⟩:=h0;exact DataW.trod_lt m _ _ _ hm
 obtain ⟨a0,n0,cap0,rfl⟩:=okWide_slice Tryz.underlying41 (hval 0 41 v0 rfl rfl);obtain ⟨l0,Sc,hb0⟩:=DT h0.choose_spec (wE hwt 0 41 d0 rfl rfl);obtain ⟨m1,rfl,rfl,rfl,U0⟩:=open_int Tryz.underlying31 (hval 1 31 v1 rfl rfl) h1;clear UZ hval0 hwt;try simp only [List.append_nil] at hW'
 refine (sJ l0 _ m1 W Sc hb0 (bounds_u16 U0) hT.1 hT.2 hM).mono fun e W' ⟨he,Az⟩=>?_
 subst he;exact ⟨_,rfl,_,_,_,[],_,[],hW',trodAll_mk1 (shut_bool Tryz.underlying4 _),(trodAll_cons_mk (Below.trod laidOut (by kernel_rfl) (of_decide_eq_true (by kernel_rfl)) h0 Az Xy) (trodAll_cons_mk (shut_int Tryz.underlying31 U0) trodAll_mk0)),rfl,Az.frame _,fun h=>by cases h⟩
theorem over:Rows.BoxesWordsSaid:=
 OpenClaim.holds_of_wide 5 Tryz.f5 rfl rfl rfl rfl rfl rfl rfl ⟨rfl,rfl,rfl,rfl,rfl⟩ rfl rfl rfl rfl rfl (by kernel_rfl) Tryz.func5 (by kernel_rfl)
  (of_decide_eq_true (by kernel_rfl)) (by unfold Func.isWrapper;first | (rw [if_pos (by decide +kernel)];kernel_rfl) | (rw [if_neg (by decide +kernel)];exact ⟨rfl,rfl⟩))
  (fun os started H enc _=>lifted os started H enc)
theorem yR:Rows.BoxesWordsCardSaid:=
 Claim7.holds_tied_plain_at .later [] [.data,.data,.data,.data,.data,.pinned] true Rows.boxesWordsCard.stood.harness false
  over (fun _ h=>by cases h) (by kernel_rfl) (fun _ h=>by cases h) boxesWords_row_tie rfl ⟨rfl,rfl⟩ (by kernel_rfl) rfl
  (fun f fn hf hfn=>by
   obtain rfl : f = 5 := Option.some.inj ((show Tryz.prog.funcNamed "publisher/publisherlaw39.BoxesWords" = some 5 by kernel_rfl).symm.trans hf) |>.symm
   obtain rfl:fn=Tryz.f5:=(Option.some.inj (Tryz.func5.symm.trans hfn)).symm;exact ⟨by kernel_rfl,fun j t ht=>by
    rw [Tryz.params5] at ht;have hm:t∈[41,31]:=by simpa using Array.mem_of_getElem? ht
    have hall:([41,31].all fun u=>!Tryz.prog.wantsStandIn u)=true:=by kernel_rfl
    exact (show Tryz.prog.wantsStandIn t=false by simpa using List.all_eq_true.1 hall t hm)⟩)
  (by kernel_rfl)
end Go.Proofs.YtnmldmofggkoeaaGreatDoor.jT
namespace Go.Proofs.YtnmldmofggkoeaaGreatDoor
theorem boxesWords_proved:Rows.BoxesWordsCardSaid:=jT.yR
#print axioms boxesWords_proved
end Go.Proofs.YtnmldmofggkoeaaGreatDoor

