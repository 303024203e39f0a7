/- Proved: the tied card of publisherlaw34.HtmlPages: it returns true at every document, title and language, and the arguments read as before; the tables of the library are what the program's text lays. No other condition. -/
import Derived.Test.YtklhajbpfelliaaGreatDoorKLaid5
import Derived.Test.YtklhajbpfelliaaGreatDoorKHwP
import Derived.Test.YtklhajbpfelliaaGreatDoorKLkHtmlPages
set_option maxRecDepth 100000
namespace Go.Proofs.YtklhajbpfelliaaGreatDoor.jm
open Go.ChangeShapes Go.WideShapes Go.ChangeAt Go.RowKit
open Go.ChangeMaps (open_string shut_string)
set_option linter.unusedVariables false
set_option linter.unusedSimpArgs false
theorem lifted (os:Os) (started:os.Started) (H:Type) (enc:TypeId × Value->H) : ReturnsInHanded {} Tryz.checked os 3 .any (fun w args=>(Rows.htmlPagesSpec.pre enc Tryz.prog Tryz.f3 [] false w args/\laidMetH Tryz.prog wI w)/\sizedMet enc Tryz.prog Tryz.f3 (OpenSpec.ofChange Rows.htmlPagesSpec) false w args) (Rows.htmlPagesSpec.post enc Tryz.prog Tryz.f3 false true false false):=by
 refine returnsInHanded_of_change_and (C:=Tryz.checked) (X:=fun w _=>laidMetH Tryz.prog wI w) (fun _ _ _ hh h=>h.of_heap hh) own started (by kernel_rfl) Tryz.func3
  (ChangeSpec.witness_shaped (enc:=enc) (C:=Tryz.checked) (os:=os) (X:=fun w _=>laidMetH Tryz.prog wI w) false (World.laidAll Tryz.prog os wI) #[.agg #[.slice none 0 0,.slice none 0 0],.string ByteArray.empty,.string ByteArray.empty] 8 (World.laidAll_os _ _ _) (La os) (by kernel_rfl) (by kernel_rfl) (by kernel_rfl) (Yp os _)) ?_
 intro W base args ds gs before hval0 hW _ hwt hL _;have hval:∀ (j:Nat) t v,Tryz.f3.params[j]?=some t->args[j]?=some v->Value.okWide Tryz.prog W .any base t v:=hval0;have hW':=hW;obtain ⟨p,q,hA0,hV,rfl,hfz,hnd⟩:=hW;have hA:DataW.TrodAll enc Tryz.prog W 0 (fun _=>true) true Tryz.f3.params.toList args.toList ds p:=hA0;rw [Tryz.params3] at hA hval;obtain ⟨v0,vs0,d0,ds0,p0,q0,hargs,rfl,rfl,h0,r0⟩:=trodAll_cons hA;obtain ⟨v1,vs1,d1,ds1,p1,q1,rfl,rfl,rfl,h1,r1⟩:=trodAll_cons r0;obtain ⟨v2,vs2,d2,ds2,p2,q2,rfl,rfl,rfl,h2,r2⟩:=trodAll_cons r1;obtain ⟨rfl,rfl,rfl⟩:=trodAll_nil r2;obtain rfl:args=#[v0,v1,v2]:=by cases args;simp_all
 obtain ⟨rfl,rfl⟩:=trodVars_none hV;rw [Tryz.params3] at hwt;have hT:=Yq hL;have lt0:∀ x∈p0,x.block<W.heap.size:=by obtain ⟨m,hm⟩:=h0;exact DataW.trod_lt m _ _ _ hm
 obtain ⟨me0,l0,vm0,vb0,jAj,jAk,jAq,jAx,jAz,hm0,hb0⟩:=jp6 h0.choose_spec (zT hwt 0 25 d0 rfl rfl);obtain ⟨cv0,rfl,-⟩:=okWide_struct Tryz.underlying25 (hval 0 25 v0 rfl rfl);obtain rfl:cv0=#[vm0,vb0]:=by have h:cv0.toList=[vm0,vb0]:=jAz;cases cv0;simp_all
 obtain ⟨s1,rfl,rfl,rfl,hs1⟩:=open_string Tryz.underlying9 (hval 1 9 v1 rfl rfl) h1;obtain ⟨s2,rfl,rfl,rfl,hs2⟩:=open_string Tryz.underlying9 (hval 2 9 v2 rfl rfl) h2;clear hA0 hval0 hwt;refine (Yl me0 l0 vm0 vb0 s1 s2 W hm0 hb0 jAj jAq jAk jAx hs1 hs2 hT).mono fun e W' ⟨he,aO⟩=>?_
 subst he;exact ⟨_,rfl,_,_,_,[],_,[],hW',trodAll_mk1 (shut_bool Tryz.underlying4 _),(trodAll_cons_mk (Below.trod laidOut (by kernel_rfl) (of_decide_eq_true (by kernel_rfl)) h0 aO lt0) (trodAll_cons_mk (shut_string Tryz.underlying9 hs1) (trodAll_cons_mk (shut_string Tryz.underlying9 hs2) trodAll_mk0))),rfl,aO.frame _,fun h=>by cases h⟩
theorem over:Rows.HtmlPagesSaid:=
 OpenClaim.holds_of_wide 3 Tryz.f3 rfl rfl rfl rfl rfl rfl rfl ⟨rfl,rfl,rfl,rfl,rfl⟩ rfl rfl rfl rfl rfl named Tryz.func3 closed
  (of_decide_eq_true (by kernel_rfl)) (by unfold Func.isWrapper;first | (rw [if_pos (by decide +kernel)];kernel_rfl) | (rw [if_neg (by decide +kernel)];exact ⟨rfl,rfl⟩))
  (fun os started H enc _=>lifted os started H enc)
theorem Lb:Rows.HtmlPagesCardSaid:=
 Claim7.holds_tied_plain_at .later [] [.data,.data,.data,.data,.pinned] true Rows.htmlPagesCard.stood.harness false
  over (fun _ h=>by cases h) (by kernel_rfl) (fun _ h=>by cases h) htmlPages_row_tie rfl ⟨rfl,rfl⟩ Yr rfl
  (fun f fn hf hfn=>by
   obtain rfl:f=3:=Option.some.inj (named.symm.trans hf) |>.symm
   obtain rfl:fn=Tryz.f3:=(Option.some.inj (Tryz.func3.symm.trans hfn)).symm;exact ⟨Uj,fun j t ht=>by
    rw [Tryz.params3] at ht;have hm:t∈[25,9,9]:=by simpa using Array.mem_of_getElem? ht
    have hall:([25,9,9].all fun u=>!Tryz.prog.wantsStandIn u)=true:=by kernel_rfl
    exact (show Tryz.prog.wantsStandIn t=false by simpa using List.all_eq_true.1 hall t hm)⟩)
  goes
end Go.Proofs.YtklhajbpfelliaaGreatDoor.jm
namespace Go.Proofs.YtklhajbpfelliaaGreatDoor
theorem htmlPages_proved:Rows.HtmlPagesCardSaid:=jm.Lb
#print axioms htmlPages_proved
end Go.Proofs.YtklhajbpfelliaaGreatDoor

