/- Proved: the tied card of publisherlaw04.TreeChecks: it returns true at every document, and the argument reads as before; the tables of the library are what the program's text lays. No other condition. -/
import Derived.Test.YtjobjicdfoklpaaGreatDoorRpF
import Derived.Test.YtjobjicdfoklpaaGreatDoorAwk
import Derived.Test.YtjobjicdfoklpaaGreatDoorSmLine
import Derived.Test.YtjobjicdfoklpaaGreatDoorLaid4
import Derived.Test.YtjobjicdfoklpaaGreatDoorCards
import Derived.Test.YtjobjicdfoklpaaGreatDoorTie
import Derived.ShutString
import Derived.SevenTiedAt
import Derived.ChangeOld
import Derived.Deep.RegionHeld3
namespace Go.Proofs.YtjobjicdfoklpaaGreatDoor.LawTreeChecks
open Go.ChangeShapes Go.WideShapes Go.ChangeAt Go.RowKit
set_option linter.unusedVariables false
set_option linter.unusedSimpArgs false

set_option maxRecDepth 100000 in
set_option maxHeartbeats 4000000 in
theorem walk (me : List Pr) (l : List Blk) (vm vb : Value) (w : World) (hm : Rd (· < w.heap.size) w (prsD me) [vm]) (hb : Rd (· < w.heap.size) w (blksD l) [vb])
    (hwm : ∀ p ∈ me, p.wf) (hwl : Blk.wfL l) :
    Calls Tryz.prog 6 #[.agg #[vm, vb]] w fun e w' => e = .returned (.bool true) ∧ Below w.heap.size w w' := by
  obtain ⟨am, cm, hvm, hsm⟩ := Rd.sl_open hm
  obtain rfl : vm = .slice am me.length cm := by simpa using hvm
  obtain ⟨ab, cb, hvb, hsb0⟩ := Rd.sl_open hb
  obtain rfl : vb = .slice ab l.length cb := by simpa using hvb
  obtain ⟨w1, hw1⟩ : ∃ w1, w1 = w.alloc (.cells #[.slice am me.length cm, .slice ab l.length cb] 25) := ⟨_, rfl⟩
  have b1 : Below w.heap.size w w1 := by rw [hw1]; exact (Below.refl _ _).alloc (Nat.le_refl _) _
  have k1 : CB 25 w.heap.size [.slice am me.length cm, .slice ab l.length cb] w1 := by rw [hw1]; exact CB.new _ _ _
  have x0 := k1.cell 0 _ rfl
  have x1 := k1.cell 1 _ rfl
  have SA := Lib.hid (small_any me l _ _ w1 (hm.up b1) (hb.up b1) hwm hwl)
  have HM := Lib.hid hm
  have HB := Lib.hid hb
  have K1_ := Lib.hid k1
  have B1_ := Lib.hid b1
  clear hm hb hwm hwl hvm hvb hsm hsb0 b1 k1
  go_enter Tryz.func6, Tryz.ntmps6
  (try simp only [List.append_eq, List.cons_append, List.nil_append])
  go_upto_region 1 with (fail)
  rw [← hw1]
  clear hw1
  go_wp2_with fail
  refine SA.out.mono ?_
  rintro e w2 ⟨b, rfl, hsa, b2⟩
  have k2 := K1_.out.below b2
  have K2 := Lib.hid k2
  have B2 := Lib.hid (below_trans_size B1_.out b2)
  clear x0 x1 b2
  have x0 := k2.cell 0 _ rfl
  have x1 := k2.cell 1 _ rfl
  have hS := k2.lt
  clear k2
  cases b with
  | false =>
    clear hsa
    go_wp2_with fail
    refine (awake_any _).mono ?_
    rintro e w3 ⟨rfl, b3⟩
    have HX := Lib.hid (below_trans_size B2.out b3)
    clear b3
    go_wp2
    go_ret
    exact ⟨rfl, HX.out⟩
  | true =>
  have HSA := Lib.hid (hsa rfl)
  have al1 := HSA.out.all
  have mt1 := HSA.out.meta_
  have C1 : Hid (∀ w', (w'.cell? ⟨w.heap.size, 0, none⟩ = some (.slice am me.length cm) ∧ w'.cell? ⟨w.heap.size, 1, none⟩ = some (.slice ab l.length cb) ∧ Below w2.heap.size w2 w') → Calls Tryz.prog 22 #[.agg #[.slice am me.length cm, .slice ab l.length cb]] w' (RetB (.int .i64 (docErr closesS me l : Nat)) w')) := fun w' h =>
    tCheck_any closesS me l am ab cm _ cb w' (by omega) (fun p hp => ⟨Nat.le_trans (HSA.out.mets p hp).1 (by decide), Nat.le_trans (HSA.out.mets p hp).2 (by decide)⟩) (by omega) HSA.out.blks (fun _ => math_any) (HM.out.up (below_trans_size B2.out h.2.2)) (HB.out.up (below_trans_size B2.out h.2.2))
  have C2 : Hid (∀ w', (w'.cell? ⟨w.heap.size, 0, none⟩ = some (.slice am me.length cm) ∧ w'.cell? ⟨w.heap.size, 1, none⟩ = some (.slice ab l.length cb) ∧ Below w2.heap.size w2 w') → Calls Tryz.prog 18 #[.agg #[.slice am me.length cm, .slice ab l.length cb]] w' (RetB (.int .i64 (docErr closesS me l : Nat)) w')) := fun w' h =>
    rCheck_any me l am ab cm _ cb w' (by omega) (fun p hp => ⟨Nat.le_trans (HSA.out.mets p hp).1 (by decide), Nat.le_trans (HSA.out.mets p hp).2 (by decide)⟩) (by omega) HSA.out.blks (HM.out.up (below_trans_size B2.out h.2.2)) (HB.out.up (below_trans_size B2.out h.2.2))
  have C3 : Hid (∀ w', (w'.cell? ⟨w.heap.size, 0, none⟩ = some (.slice am me.length cm) ∧ w'.cell? ⟨w.heap.size, 1, none⟩ = some (.slice ab l.length cb) ∧ Below w2.heap.size w2 w') → Calls Tryz.prog 23 #[.slice ab l.length cb] w' (RetB (.int .i64 (Blk.errL closesS 0 0 l : Nat)) w')) := fun w' h =>
    tBlocks_any closesS l ab cb w' HSA.out.blks (fun _ => math_any) (HB.out.up (below_trans_size B2.out h.2.2))
  have C4 : Hid (∀ w', (w'.cell? ⟨w.heap.size, 0, none⟩ = some (.slice am me.length cm) ∧ w'.cell? ⟨w.heap.size, 1, none⟩ = some (.slice ab l.length cb) ∧ Below w2.heap.size w2 w') → Calls Tryz.prog 24 #[.slice ab l.length cb] w' (RetB (.int .i64 (Blk.errL closesS 0 0 l : Nat)) w')) := fun w' h =>
    rBlocks_any l ab cb w' HSA.out.blks (HB.out.up (below_trans_size B2.out h.2.2))
  have ST : Hid (∀ w' w3, (w'.cell? ⟨w.heap.size, 0, none⟩ = some (.slice am me.length cm) ∧ w'.cell? ⟨w.heap.size, 1, none⟩ = some (.slice ab l.length cb) ∧ Below w2.heap.size w2 w') → Below w'.heap.size w' w3 → (w3.cell? ⟨w.heap.size, 0, none⟩ = some (.slice am me.length cm) ∧ w3.cell? ⟨w.heap.size, 1, none⟩ = some (.slice ab l.length cb) ∧ Below w2.heap.size w2 w3)) := fun w' w3 hi hb =>
    have hb2 : Below w2.heap.size w2 w3 := below_trans_size hi.2.2 hb
    have c1 : CB 25 w.heap.size [.slice am me.length cm, .slice ab l.length cb] w3 := (hb2.block _ hS).trans K2.out
    ⟨c1.cell 0 _ rfl, c1.cell 1 _ rfl, hb2⟩
  have FN : Hid (∀ w', Below w2.heap.size w2 w' → Below w.heap.size w w') := fun w' h => below_trans_size B2.out h
  have S0H := Lib.hid (ST.out w2 w2.drew ⟨x0, x1, Below.refl _ _⟩ ⟨rfl, rfl, rfl, Nat.le_refl _, fun _ _ => rfl⟩)
  generalize docErr closesS me l = E at *
  generalize Blk.errL closesS 0 0 l = F at *
  have q1 : ((E : Int) == (E : Int)) = true := beq_self_eq_true _
  have q2 : ((F : Int) == (F : Int)) = true := beq_self_eq_true _
  clear hsa SA HSA al1 mt1 hS HM HB K1_ B1_ K2 B2
  go_upto_region 3 with (fail)
  clear x0 x1
  have S0a := S0H.out
  go_region_held3 (fun w' => w'.cell? ⟨w.heap.size, 0, none⟩ = some (.slice am me.length cm) ∧ w'.cell? ⟨w.heap.size, 1, none⟩ = some (.slice ab l.length cb) ∧ Below w2.heap.size w2 w') (first | exact ST.out _ _ (by assumption) hbb | exact S0a)
    (first
      | (go_simp; go_at_call 22; (with_reducible refine (C1.out _ (by assumption)).mono ?_); rintro e wZ ⟨rfl, hbb⟩)
      | (go_simp; go_at_call 18; (with_reducible refine (C2.out _ (by assumption)).mono ?_); rintro e wZ ⟨rfl, hbb⟩)
      | (go_simp; go_at_call 23; (with_reducible refine (C3.out _ (by assumption)).mono ?_); rintro e wZ ⟨rfl, hbb⟩)
      | (go_simp; go_at_call 24; (with_reducible refine (C4.out _ (by assumption)).mono ?_); rintro e wZ ⟨rfl, hbb⟩)
      | (go_simp; go_at_call 21; (refine (awake_any _).mono ?_); rintro e wZ ⟨rfl, hbb⟩))
  clear S0a S0H C1 C2 C3 C4
  have HF := Lib.hid (FN.out _ (And.right (And.right (by assumption))))
  go_wp2
  go_ret
  exact ⟨rfl, HF.out⟩

set_option maxRecDepth 100000 in
theorem lifted (os : Os) (started : os.Started) (H : Type) (enc : TypeId × Value → H) :
    ReturnsInHanded {} Tryz.checked os 6 .any (fun w args => (Rows.treeChecksSpec.pre enc Tryz.prog Tryz.f6 [] false w args ∧ laidMetH Tryz.prog laidF w) ∧ sizedMet enc Tryz.prog Tryz.f6 (OpenSpec.ofChange Rows.treeChecksSpec) false w args)
      (Rows.treeChecksSpec.post enc Tryz.prog Tryz.f6 false true false false) := by
  refine returnsInHanded_of_change_and (C := Tryz.checked) (X := fun w _ => laidMetH Tryz.prog laidF w) (fun _ _ _ hh h => h.of_heap hh) own started (by kernel_rfl) Tryz.func6
    (ChangeSpec.witness_shaped (enc := enc) (C := Tryz.checked) (os := os) (X := fun w _ => laidMetH Tryz.prog laidF w) false (World.laidAll Tryz.prog os laidF) #[.agg #[.slice none 0 0, .slice none 0 0]] 8 (World.laidAll_os _ _ _) (wit_shaped os) (by kernel_rfl) (by kernel_rfl) (by kernel_rfl) (wit_met os _)) ?_
  intro W base args ds gs before hval0 hW _ hwt hL _
  have hval : ∀ (j : Nat) t v, Tryz.f6.params[j]? = some t → args[j]? = some v → Value.okWide Tryz.prog W .any base t v := hval0
  have hW' := hW
  obtain ⟨p, q, hA0, hV, rfl, hfz, hnd⟩ := hW
  have hA : DataW.TrodAll enc Tryz.prog W 0 (fun _ => true) true Tryz.f6.params.toList args.toList ds p := hA0
  rw [Tryz.params6] at hA hval
  obtain ⟨v0, vs0, d0, ds0, p0, q0, hargs, rfl, rfl, h0, r0⟩ := trodAll_cons hA
  obtain ⟨rfl, rfl, rfl⟩ := trodAll_nil r0
  obtain rfl : args = #[v0] := by cases args; simp_all
  obtain ⟨rfl, rfl⟩ := trodVars_none hV
  have lt0 : ∀ x ∈ p0, x.block < W.heap.size := by obtain ⟨m, hm⟩ := h0; exact DataW.trod_lt m _ _ _ hm
  rw [Tryz.params6] at hwt
  obtain ⟨me0, l0, vm0, vb0, hwm0, hml0, hwl0, hll0, hcs0, hm0, hb0⟩ := rd_doc h0.choose_spec (rch_each hwt 0 25 d0 rfl rfl)
  obtain ⟨cv0, rfl, -⟩ := okWide_struct Tryz.underlying25 (hval 0 25 v0 rfl rfl)
  obtain rfl : cv0 = #[vm0, vb0] := by
    have h : cv0.toList = [vm0, vb0] := hcs0
    cases cv0; simp_all
  clear hA0 hval0 hwt
  refine (walk me0 l0 vm0 vb0 W hm0 hb0 hwm0 hwl0).mono fun e W' ⟨he, bel⟩ => ?_
  subst he
  exact ⟨_, rfl, _, _, _, [], _, [], hW', trodAll_mk1 (shut_bool Tryz.underlying4 _), (trodAll_cons_mk (Below.trod laidOut (by kernel_rfl) (of_decide_eq_true (by kernel_rfl)) h0 bel lt0) trodAll_mk0), rfl, bel.frame _, fun h => by cases h⟩

theorem over : Rows.TreeChecksSaid :=
  OpenClaim.holds_of_wide 6 Tryz.f6 rfl rfl rfl rfl rfl rfl rfl ⟨rfl, rfl, rfl, rfl, rfl⟩ rfl rfl rfl rfl rfl (by kernel_rfl) Tryz.func6 (by kernel_rfl)
    (of_decide_eq_true (by kernel_rfl)) (by unfold Func.isWrapper; first | (rw [if_pos (by decide +kernel)]; kernel_rfl) | (rw [if_neg (by decide +kernel)]; exact ⟨rfl, rfl⟩))
    (fun os started H enc _ => lifted os started H enc)

theorem card_holds : Rows.TreeChecksCardSaid :=
  Claim7.holds_tied_plain_at .later [] [.data, .pinned] true Rows.treeChecksCard.stood.harness false
    over (fun _ h => by cases h) (by kernel_rfl) (fun _ h => by cases h) treeChecks_row_tie rfl ⟨rfl, rfl⟩ (by kernel_rfl) rfl
    (fun f fn hf hfn => by
      obtain rfl : f = 6 := Option.some.inj ((show Tryz.prog.funcNamed "publisher/publisherlaw04.TreeChecks" = some 6 by kernel_rfl).symm.trans hf) |>.symm
      obtain rfl : fn = Tryz.f6 := (Option.some.inj (Tryz.func6.symm.trans hfn)).symm
      exact ⟨by kernel_rfl, fun j t ht => by
        rw [Tryz.params6] at ht
        have hm : t ∈ [25] := by simpa using Array.mem_of_getElem? ht
        have hall : ([25].all fun u => !Tryz.prog.wantsStandIn u) = true := by kernel_rfl
        exact (show Tryz.prog.wantsStandIn t = false by simpa using List.all_eq_true.1 hall t hm)⟩)
    (by kernel_rfl)
end Go.Proofs.YtjobjicdfoklpaaGreatDoor.LawTreeChecks

namespace Go.Proofs.YtjobjicdfoklpaaGreatDoor
theorem treeChecks_proved : Rows.TreeChecksCardSaid := LawTreeChecks.card_holds
#print axioms treeChecks_proved
end Go.Proofs.YtjobjicdfoklpaaGreatDoor
