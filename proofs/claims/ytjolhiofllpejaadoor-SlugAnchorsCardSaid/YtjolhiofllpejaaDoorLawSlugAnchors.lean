/- Proved: the tied card of publisherlaw21.SlugAnchors: it returns true at every document, and the argument reads as before; the tables of the library are what the program's text lays. No other condition. -/
import Derived.Test.YtjolhiofllpejaaDoorLaidPow
import Derived.Test.YtjolhiofllpejaaDoorAwakeS
import Derived.Test.YtjolhiofllpejaaDoorRAnch
import Derived.Test.YtjolhiofllpejaaDoorSmPl
import Derived.Test.YtjolhiofllpejaaDoorSameB
import Derived.Test.YtjolhiofllpejaaDoorOpenW
import Derived.Test.YtjolhiofllpejaaDoorCards
import Derived.Test.YtjolhiofllpejaaDoorTie
import Derived.ShutString
import Derived.SevenTiedAt
import Derived.Deep.RegionWith
import Derived.ChangeOld
namespace Go.Proofs.YtjolhiofllpejaaDoor.LawSlugAnchors
open Go.ChangeShapes Go.WideShapes Go.ChangeAt Go.RowKit
set_option linter.unusedVariables false

/-- What is read lies in memory. -/
theorem any_lt {ok : Nat → Prop} {w : World} {k : Nat} {l : List D} {v : Value} (h : Rd ok w (.sl k l) [v]) : Rd (· < w.heap.size) w (.sl k l) [v] := Rd.keep (fun b _ h2 => ⟨h2, rfl⟩) _ _ h

set_option maxRecDepth 100000 in
set_option maxHeartbeats 4000000 in
theorem walk (me : List Pr) (l : List Blk) (vm vb : Value) (w : World) (hm : Rd (· < w.heap.size) w (prsD me) [vm]) (hb : Rd (· < w.heap.size) w (blksD l) [vb]) (hwm : ∀ p ∈ me, p.wf) (hwl : Blk.wfL l) (ht : PT w) :
    Calls Tryd.prog 5 #[.agg #[vm, vb]] w fun e w' => e = .returned (.bool true) ∧ Below w.heap.size w w' := by
  obtain ⟨am, nm, cm, rfl⟩ := Rd.slf hm
  obtain ⟨ab, nb, cb, rfl⟩ := Rd.slf hb
  obtain ⟨w0, hw0⟩ : ∃ w0, w0 = w.alloc (.cells #[.slice am nm cm, .slice ab nb cb] 32) := ⟨_, rfl⟩
  have hb0 : Below w.heap.size w w0 := by rw [hw0]; exact (Below.refl _ _).alloc (Nat.le_refl _) _
  have k1 : CB 32 w.heap.size [.slice am nm cm, .slice ab nb cb] w0 := by rw [hw0]; exact CB.new _ _ _
  have SM := Lib.hid (small_any me l _ _ w0 (hm.up hb0) (hb.up hb0) hwm hwl)
  have x0 := k1.cell 0 _ rfl
  have x1 := k1.cell 1 _ rfl
  have HK := Lib.hid k1
  have HB0 := Lib.hid hb0
  have HM := Lib.hid (hm.up hb0)
  have HB := Lib.hid (hb.up hb0)
  have HT := Lib.hid (ht.below hb0)
  clear hm hb k1 hb0 ht hwm hwl
  go_enter Tryd.func5, Tryd.ntmps5
  go_upto_region 1 with (fail)
  rw [← hw0]
  clear hw0
  go_wp2_with fail
  refine SM.out.mono ?_
  rintro e w1 ⟨b, rfl, hsm, b1⟩
  have HB1 := Lib.hid b1
  cases b with
  | false =>
    clear hsm b1
    go_wp2_with fail
    refine (awake_any _ (HT.out.below HB1.out)).mono ?_
    rintro e w2 ⟨rfl, b2⟩
    go_wp2
    go_ret
    exact ⟨rfl, below_trans_size (below_trans_size HB0.out HB1.out) b2⟩
  | true =>
    obtain ⟨g1, g2, g3, g4, g5, g6, g7⟩ := sm_bounds (hsm rfl)
    have K1 := Lib.hid (HK.out.below b1)
    have x0 := K1.out.cell 0 _ rfl
    have x1 := K1.out.cell 1 _ rfl
    have AN : Hid (∀ w', Below w1.heap.size w1 w' → Calls Tryd.prog 16 #[.agg #[.slice am nm cm, .slice ab nb cb]] w' fun e w'' => ∃ vm' vb', e = .returned (.agg #[vm', vb']) ∧ Rd (w'.heap.size ≤ ·) w'' (prsD me) [vm'] ∧ Rd (w'.heap.size ≤ ·) w'' (blksD (Blk.nameL l (allA (textB (Blk.eachL l)) (usedB (Blk.eachL l) ++ usedI (Blk.inlsL l)))).1) [vb'] ∧ Below w'.heap.size w' w'') := fun w' h =>
      anchors_any me l _ _ w' ((HM.out.up b1).up h) ((HB.out.up b1).up h) ((HT.out.below b1).below h) g1 g2 g3 g4 g5 g6 g7
    have RN : Hid (∀ w', Below w1.heap.size w1 w' → Calls Tryd.prog 17 #[.agg #[.slice am nm cm, .slice ab nb cb]] w' fun e w'' => ∃ vb', e = .returned (.agg #[.slice am nm cm, vb']) ∧ Rd (· < w''.heap.size) w'' (blksD (Blk.nameL l (allA (textB (Blk.eachL l)) (usedB (Blk.eachL l) ++ usedI (Blk.inlsL l)))).1) [vb'] ∧ Below w'.heap.size w' w'') := fun w' h => by
      have := rAnchors_any me l _ _ w' ((HM.out.up b1).up h) ((HB.out.up b1).up h) g3 g4 g5 g7
      rwa [allA_ids] at this
    generalize (Blk.nameL l (allA (textB (Blk.eachL l)) (usedB (Blk.eachL l) ++ usedI (Blk.inlsL l)))).1 = X at *
    have HBB := Lib.hid (below_trans_size HB0.out b1)
    have HT1 := Lib.hid (HT.out.below b1)
    have bD : Below w1.heap.size w1 w1.drew := ⟨rfl, rfl, rfl, Nat.le_refl _, fun _ _ => rfl⟩
    have HA := Lib.hid (AN.out _ bD)
    have KD := Lib.hid (K1.out.below bD)
    have HBD := Lib.hid bD
    have HMD := Lib.hid ((HM.out.up b1).up bD)
    clear hsm b1 g1 g2 g3 g4 g5 g6 g7 SM HM HB HK AN bD
    go_upto_region 3 with (fail)
    go_region_with (first
      | (go_at_call 16; refine HA.out.mono ?_; rintro e w2 ⟨vm2, vb2, rfl, hm2, hb2, b2⟩; obtain ⟨am2, nm2, cm2, rfl⟩ := Rd.slf hm2; obtain ⟨ab2, nb2, cb2, rfl⟩ := Rd.slf hb2; have k2 := KD.out.below b2; have z0 := k2.cell 0 _ rfl; have z1 := k2.cell 1 _ rfl)
      | (go_at_call 17; refine (RN.out w2 (below_trans_size HBD.out b2)).mono ?_; rintro e w3 ⟨vb3, rfl, hb3, b3⟩; obtain ⟨ab3, nb3, cb3, rfl⟩ := Rd.slf hb3)
      | (go_at_call 15; refine (same_eq me X _ _ _ _ w3 ((any_lt hm2).up b3) ((HMD.out.up b2).up b3) ((any_lt hb2).up b3) hb3).mono ?_; rintro e w4 ⟨rfl, b4⟩; have b24 := below_trans_size (below_trans_size b2 b3) b4)
      | (go_at_call 8; refine (awake_any _ ((HT1.out.below HBD.out).below b24)).mono ?_; rintro e w5 ⟨rfl, b5⟩))
    all_goals
      have HZ := Lib.hid (below_trans_size (below_trans_size (below_trans_size HBB.out HBD.out) b24) b5)
      clear hm2 hb2 b2 k2 hb3 b3 b4 b24 b5
      go_wp2
      go_ret
      exact ⟨rfl, HZ.out⟩

set_option maxRecDepth 100000 in
theorem lifted (os : Os) (started : os.Started) (H : Type) (enc : TypeId × Value → H) :
    ReturnsInHanded {} Tryd.checked os 5 .any (fun w args => (Rows.slugAnchorsSpec.pre enc Tryd.prog Tryd.f5 [] false w args ∧ laidMetH Tryd.prog laidF w) ∧ sizedMet enc Tryd.prog Tryd.f5 (OpenSpec.ofChange Rows.slugAnchorsSpec) false w args)
      (Rows.slugAnchorsSpec.post enc Tryd.prog Tryd.f5 false true false false) := by
  refine returnsInHanded_of_change_and (C := Tryd.checked) (X := fun w _ => laidMetH Tryd.prog laidF w) (fun _ _ _ hh h => h.of_heap hh) own started (by kernel_rfl) Tryd.func5
    (ChangeSpec.witness_shaped (enc := enc) (C := Tryd.checked) (os := os) (X := fun w _ => laidMetH Tryd.prog laidF w) false (World.doorLaid Tryd.prog 400 os) #[.agg #[.slice none 0 0, .slice none 0 0]] 8 rfl (World.shaped_of_RefB (by kernel_rfl) (by kernel_rfl)) (by kernel_rfl) (by kernel_rfl) (by kernel_rfl) (door_met os _)) ?_
  intro W base args ds gs before hval0 hW _ hwt hL _
  have hval : ∀ (j : Nat) t v, Tryd.f5.params[j]? = some t → args[j]? = some v → Value.okWide Tryd.prog W .any base t v := hval0
  have hW' := hW
  obtain ⟨p, q, hA0, hV, rfl, hfz, hnd⟩ := hW
  have hA : DataW.TrodAll enc Tryd.prog W 0 (fun _ => true) true Tryd.f5.params.toList args.toList ds p := hA0
  rw [Tryd.params5] at hA hval
  obtain ⟨v0, vs0, d0, ds0, p0, q0, hargs, rfl, rfl, h0, r0⟩ := trodAll_cons hA
  obtain ⟨rfl, rfl, rfl⟩ := trodAll_nil r0
  obtain rfl : args = #[v0] := by cases args; simp_all
  obtain ⟨rfl, rfl⟩ := trodVars_none hV
  have lt0 : ∀ x ∈ p0, x.block < W.heap.size := by obtain ⟨m, hm⟩ := h0; exact DataW.trod_lt m _ _ _ hm
  have hw0 : Rch Tryd.prog 32 d0 := by
    rw [Tryd.params5] at hwt
    exact rch_each hwt 0 32 d0 rfl rfl
  obtain ⟨me, l, vm, vb, hwm, hml, hwl, hll, hcs, hm, hb⟩ := rd_doc h0.choose_spec hw0
  have hT := of_laid hL
  obtain ⟨cv, rfl, -⟩ := okWide_struct Tryd.underlying32 (hval 0 32 v0 rfl rfl)
  obtain rfl : cv = #[vm, vb] := by
    have h : cv.toList = [vm, vb] := hcs
    cases cv; simp_all
  clear hA0 hval0 hwt
  refine (walk me l vm vb W hm hb hwm hwl hT).mono fun e W' ⟨he, bel⟩ => ?_
  subst he
  exact ⟨_, rfl, _, _, _, [], _, [], hW', trodAll_mk1 (shut_bool Tryd.underlying4 _), (trodAll_cons_mk (Below.trod laidOut (by kernel_rfl) (of_decide_eq_true (by kernel_rfl)) h0 bel lt0) trodAll_mk0), rfl, bel.frame _, fun h => by cases h⟩

theorem over : Rows.SlugAnchorsSaid :=
  OpenClaim.holds_of_wide 5 Tryd.f5 rfl rfl rfl rfl rfl rfl rfl ⟨rfl, rfl, rfl, rfl, rfl⟩ rfl rfl rfl rfl rfl (by kernel_rfl) Tryd.func5 (by kernel_rfl)
    (of_decide_eq_true (by kernel_rfl)) (by unfold Func.isWrapper; first | (rw [if_pos (by decide +kernel)]; kernel_rfl) | (rw [if_neg (by decide +kernel)]; exact ⟨rfl, rfl⟩))
    (fun os started H enc _ => lifted os started H enc)

theorem card_holds : Rows.SlugAnchorsCardSaid :=
  Claim7.holds_tied_plain_at .later [] [.data, .data, .data] true Rows.slugAnchorsCard.stood.harness false
    over (fun _ h => by cases h) (by kernel_rfl) (fun _ h => by cases h) slugAnchors_row_tie rfl ⟨rfl, rfl⟩ (by kernel_rfl) rfl
    (fun f fn hf hfn => by
      obtain rfl : f = 5 := Option.some.inj ((show Tryd.prog.funcNamed "publisher/publisherlaw21.SlugAnchors" = some 5 by kernel_rfl).symm.trans hf) |>.symm
      obtain rfl : fn = Tryd.f5 := (Option.some.inj (Tryd.func5.symm.trans hfn)).symm
      exact ⟨by kernel_rfl, fun j t ht => by
        rw [Tryd.params5] at ht
        have hm : t ∈ [32] := by simpa using Array.mem_of_getElem? ht
        have hall : ([32].all fun u => !Tryd.prog.wantsStandIn u) = true := by kernel_rfl
        exact (show Tryd.prog.wantsStandIn t = false by simpa using List.all_eq_true.1 hall t hm)⟩)
    (by kernel_rfl)
end Go.Proofs.YtjolhiofllpejaaDoor.LawSlugAnchors

namespace Go.Proofs.YtjolhiofllpejaaDoor
theorem slugAnchors_proved : Rows.SlugAnchorsCardSaid := LawSlugAnchors.card_holds
#print axioms slugAnchors_proved
end Go.Proofs.YtjolhiofllpejaaDoor
