/- Contracts of the prefixes of boxes: inner, text, marked. -/
import Derived.Test.YtdneicipdlofiaaGreatDoorKBxC
import Derived.Test.YtdneicipdlofiaaGreatDoorKRgY
set_option maxHeartbeats 2000000
set_option maxRecDepth 100000
open Go.Lib (hid)
namespace Go.Proofs.YtdneicipdlofiaaGreatDoor
open Go.RowKit
set_option linter.unusedVariables false
set_option linter.unusedSimpArgs false
theorem zS (p:Px) (W:Int) (w:World) (h1:p.first.size<=1000000) (h2:p.rest.size<=1000000) (hW:1<=W/\W<=1048576) (ht:TabAt w) : Calls Tryz.prog 133 #[.agg #[.string p.first,.string p.rest],.int .i64 W] w fun e w'=>e=.returned (.int .i64 (p.inner W))/\Below w.heap.size w w':=by
 obtain ⟨f,r⟩:=p;simp only at h1 h2;have l1:=vK f;have l2:=vK r;obtain ⟨w0,hw0⟩:∃ w0,w0=w.alloc (.cells #[.string f,.string r] 87):=⟨_,rfl⟩;obtain ⟨S,hS⟩:∃ S,S=w.heap.size:=⟨_,rfl⟩;have b0:Below w.heap.size w w0:=by rw [hw0];exact (Below.refl _ _).alloc (Nat.le_refl _) _
 have k0:CB 87 S [.string f,.string r] w0:=by rw [hw0,hS];exact CB.new _ _ _
 have T0:=hid (ht.below b0);have B0:=hid b0;have C1:=hid (jc f w0.drew (by omega) (T0.out.below (Below.refl _ _).drew));have SF:=hid (fun (w':World) (hb:Below w0.heap.size w0 w')=>(⟨(k0.below hb).cell 0 _ rfl,(k0.below hb).cell 1 _ rfl⟩:w'.cell? ⟨S,0,none⟩=some (.string f)/\w'.cell? ⟨S,1,none⟩=some (.string r)));have S0:=SF.out _ (Below.refl _ _).drew;have HV:Hid (Px.inner ⟨f,r⟩ W=max 1 (W-max (dA f:Int) (dA r:Int))):=rfl;obtain ⟨V,hV⟩:∃ V,V=Px.inner ⟨f,r⟩ W:=⟨_,rfl⟩;rw [<- hV] at HV ⊢;have CR:=hid (fun (w1:World) (hb:Below w0.heap.size w0 w1)=>jc r w1 (by omega) (T0.out.below hb));generalize dA f=x at *;generalize dA r=y at *;clear hV b0 k0 ht;go_enter Tryz.func133,Tryz.ntmps133;go_upto_region 1 with (fail)
 rw [<- hw0,<- hS];clear hw0 hS;have w1':IntKind.i64.wrap (W-max (x:Int) (y:Int))=W-max (x:Int) (y:Int):=IntWalk.i64_in _ (by omega)
 go_region_held3 (fun w'=>w'.cell? ⟨S,0,none⟩=some (.string f)/\w'.cell? ⟨S,1,none⟩=some (.string r))
  (with_reducible assumption)
  (first
   | (go_simp;go_at_call 182;(with_reducible refine C1.out.mono ?_);rintro e w1 ⟨rfl,b1⟩;have B1:=hid (show Below w0.heap.size w0 w1 from (Below.refl _ w0).drew.trans b1);have S1:=SF.out w1 B1.out;have C2:=hid (CR.out w1 B1.out))
   | (go_simp;go_at_call 182;(with_reducible refine C2.out.mono ?_);rintro e w2 ⟨rfl,b2⟩;have B2:=hid (aP B1.out b2);have S2:=SF.out w2 B2.out))
 all_goals
  clear S0 S1 S2 b1 b2;go_wp2;go_ret;exact ⟨by rw [HV.out];rfl,aP B0.out B2.out⟩
end Go.Proofs.YtdneicipdlofiaaGreatDoor

