/- Proved: the tied card of publisherlaw04.TreeMerges: it returns true at every list of inlines, and the argument reads as before; the tables of the library are what the program's text lays. No other condition. -/
import Derived.Test.YtcfplilbhkaihaaGreatDoorRMerge
import Derived.Test.YtcfplilbhkaihaaGreatDoorMergB
import Derived.Test.YtcfplilbhkaihaaGreatDoorAwk
import Derived.Test.YtcfplilbhkaihaaGreatDoorChS
import Derived.Test.YtcfplilbhkaihaaGreatDoorSameBl
import Derived.Test.YtcfplilbhkaihaaGreatDoorSmLine
import Derived.Test.YtcfplilbhkaihaaGreatDoorLaid4
import Derived.Test.YtcfplilbhkaihaaGreatDoorCards
import Derived.Test.YtcfplilbhkaihaaGreatDoorTie
import Derived.ShutString
import Derived.SevenTiedAt
import Derived.ChangeOld
namespace Go.Proofs.YtcfplilbhkaihaaGreatDoor.LawTreeMerges
open Go.ChangeShapes Go.WideShapes Go.ChangeAt Go.RowKit
set_option linter.unusedVariables false
set_option linter.unusedSimpArgs false

set_option maxRecDepth 100000 in
set_option maxHeartbeats 2000000 in
theorem walk (l : List Inl) (v : Value) (w : World) (h : Rd (· < w.heap.size) w (inlsD l) [v]) (hwl : Inl.wfL l) (hll : l.length ≤ reachBytes) :
    Calls Tryz.prog 6 #[v] w fun e w' => e = .returned (.bool true) ∧ Below w.heap.size w w' := by
  obtain ⟨a, cap, hv, hs⟩ := Rd.sl_open h
  obtain rfl : v = .slice a l.length cap := by simpa using hv
  have SM := Lib.hid (small_line l _ w h hwl hll)
  unfold lRow at SM
  have H := Lib.hid h
  clear h hs hv
  go_enter Tryz.func6, Tryz.ntmps6
  go_wp2_with fail
  refine SM.out.mono ?_
  rintro e w1 ⟨b, rfl, hsm, b1⟩
  have B1 := Lib.hid b1
  cases b with
  | false =>
    clear hsm b1
    go_wp2_with fail
    refine (awake_any _).mono ?_
    rintro e w2 ⟨rfl, b2⟩
    go_wp2
    go_ret
    exact ⟨rfl, below_trans_size B1.out b2⟩
  | true =>
    obtain ⟨hil, hsz⟩ := hsm rfl
    obtain ⟨g1, g2, g3, g4, g5⟩ := merge_bnd l hil hsz
    have hpl : (Inl.plainL l).length ≤ 1000000000 := by have := Inl.plainL_sm l hil; omega
    have HPM := Inl.plain_mergeL l
    have HPL := hpl
    have HTW := Inl.merge_twice l
    have M1 := Lib.hid (tMerge_any 120 l w.heap.size (.slice a l.length cap) w1 hsz (by omega) (H.out.below b1) b1.size g1 g2)
    have M2 := Lib.hid (fun (w2 : World) (h : Below w.heap.size w w2) => rMerge_any 120 l w.heap.size (.slice a l.length cap) w2 hsz (by omega) (H.out.below h) h.size g2)
    have TL := Lib.hid (fun (w2 : World) (h : Below w.heap.size w w2) => tLineErr_any l a cap w2 hil (H.out.up h))
    have TP := Lib.hid (fun (w2 : World) (h : Below w.heap.size w w2) => tPlain_any l (.slice a l.length cap) w2 (H.out.up h) hpl)
    have MK := Lib.hid (Inl.merge_ok l)
    have SL := Lib.hid (fun (w2 : World) (v1 : Value) (h1 : Rd (· < w2.heap.size) w2 (inlsD (Inl.mergeL l)) [v1]) (h : Below w.heap.size w w2) => sameLine_any _ (Inl.mergeL l) l v1 (.slice a l.length cap) w2 (Nat.le_refl _) h1 (H.out.up h))
    clear hsm b1 hil hpl SM
    generalize Inl.mergeL l = m at *
    have M3 := Lib.hid (fun (v2 : Value) (w2 : World) (h : Rd (· < w2.heap.size) w2 (inlsD m) [v2]) => tMerge_any 120 m w2.heap.size v2 w2 g5 (by omega) h (Nat.le_refl _) g3 g4)
    rw [HTW] at M3
    have hpm : (Inl.plainL m).length ≤ 1000000000 := by rw [HPM]; exact HPL
    have TM := Lib.hid (fun (v2 : Value) (w2 : World) (h : Rd (· < w2.heap.size) w2 (inlsD m) [v2]) => tPlain_any m v2 w2 h hpm)
    rw [HPM] at TM
    have MM := Lib.hid (fun (w2 : World) (v1 v2 : Value) (h1 : Rd (· < w2.heap.size) w2 (inlsD m) [v1]) (h2 : Rd (· < w2.heap.size) w2 (inlsD m) [v2]) => sameLine_any _ m m v1 v2 w2 (Nat.le_refl _) h1 h2)
    generalize (⟨(Inl.plainL l).toArray⟩ : ByteArray) = P at *
    clear HPM HPL HTW g1 g2 g3 g4 g5 hsz hpm
    go_wp2_with fail
    refine M1.out.mono ?_
    rintro e w2 ⟨v2, rfl, hm2, b2⟩
    have B2 := Lib.hid (below_trans_size B1.out b2)
    have H2 := Lib.hid (any_lt hm2)
    clear hm2 b2
    go_wp2_with fail
    refine (M2.out _ B2.out).mono ?_
    rintro e w3 ⟨v3, rfl, hm3, b3⟩
    have B3 := Lib.hid (below_trans_size B2.out b3)
    have H3 := Lib.hid (H2.out.up b3)
    have K3 := Lib.hid (any_lt hm3)
    clear hm3 b3
    go_wp2_with fail
    refine (MM.out _ _ _ H3.out K3.out).mono ?_
    rintro e w4 ⟨b, rfl, hb, b4⟩
    obtain rfl : b = true := hb.2 rfl
    have B4 := Lib.hid (below_trans_size B3.out b4)
    have H4 := Lib.hid (H3.out.up b4)
    clear hb b4
    go_wp2_with fail
    refine (M3.out _ _ H4.out).mono ?_
    rintro e w5 ⟨v5, rfl, hm5, b5⟩
    have B5 := Lib.hid (below_trans_size B4.out b5)
    have H5 := Lib.hid (H4.out.up b5)
    have K5 := Lib.hid (any_lt hm5)
    clear hm5 b5
    go_wp2_with fail
    refine (MM.out _ _ _ K5.out H5.out).mono ?_
    rintro e w6 ⟨b, rfl, hb, b6⟩
    obtain rfl : b = true := hb.2 rfl
    have B6 := Lib.hid (below_trans_size B5.out b6)
    have H6 := Lib.hid (H5.out.up b6)
    clear hb b6
    go_wp2_with fail
    refine (TM.out _ _ H6.out).mono ?_
    rintro e w7 ⟨rfl, b7⟩
    have B7 := Lib.hid (below_trans_size B6.out b7)
    have H7 := Lib.hid (H6.out.up b7)
    clear b7
    go_wp2_with fail
    refine (TP.out _ B7.out).mono ?_
    rintro e w8 ⟨rfl, b8⟩
    have B8 := Lib.hid (below_trans_size B7.out b8)
    have H8 := Lib.hid (H7.out.up b8)
    clear b8
    go_upto_region 6 with (fail)
    go_wp2_with fail
    refine (TL.out _ B8.out).mono ?_
    rintro e w9 ⟨rfl, b9⟩
    have B9 := Lib.hid (below_trans_size B8.out b9)
    have H9 := Lib.hid (H8.out.up b9)
    clear b9
    by_cases hle : lineErr l = 0
    · have hml := MK.out hle
      have hz : (((lineErr l : Nat) : Int) != 0) = false := by rw [hle]; rfl
      generalize lineErr l = E at *
      go_wp2_with fail
      refine (SL.out _ _ H9.out B9.out).mono ?_
      rintro e w10 ⟨b, rfl, hb, b10⟩
      obtain rfl : b = true := hb.2 hml
      have B10 := Lib.hid (below_trans_size B9.out b10)
      clear hb b10
      go_wp2_with fail
      refine (awake_any _).mono ?_
      rintro e w11 ⟨rfl, b11⟩
      go_wp2
      go_ret
      exact ⟨rfl, below_trans_size B10.out b11⟩
    · have hz : (((lineErr l : Nat) : Int) != 0) = true := by rw [bne_iff_ne]; omega
      generalize lineErr l = E at *
      go_wp2_with fail
      refine (awake_any _).mono ?_
      rintro e w11 ⟨rfl, b11⟩
      go_wp2
      go_ret
      exact ⟨rfl, below_trans_size B9.out b11⟩

set_option maxRecDepth 100000 in
theorem lifted (os : Os) (started : os.Started) (H : Type) (enc : TypeId × Value → H) :
    ReturnsInHanded {} Tryz.checked os 6 .any (fun w args => (Rows.treeMergesSpec.pre enc Tryz.prog Tryz.f6 [] false w args ∧ laidMetH Tryz.prog laidF w) ∧ sizedMet enc Tryz.prog Tryz.f6 (OpenSpec.ofChange Rows.treeMergesSpec) false w args)
      (Rows.treeMergesSpec.post enc Tryz.prog Tryz.f6 false true false false) := by
  refine returnsInHanded_of_change_and (C := Tryz.checked) (X := fun w _ => laidMetH Tryz.prog laidF w) (fun _ _ _ hh h => h.of_heap hh) own started (by kernel_rfl) Tryz.func6
    (ChangeSpec.witness_shaped (enc := enc) (C := Tryz.checked) (os := os) (X := fun w _ => laidMetH Tryz.prog laidF w) false (World.laidAll Tryz.prog os laidF) #[.slice none 0 0] 8 (World.laidAll_os _ _ _) (wit_shaped os) (by kernel_rfl) (by kernel_rfl) (by kernel_rfl) (wit_met os _)) ?_
  intro W base args ds gs before hval0 hW _ hwt hL _
  have hval : ∀ (j : Nat) t v, Tryz.f6.params[j]? = some t → args[j]? = some v → Value.okWide Tryz.prog W .any base t v := hval0
  have hW' := hW
  obtain ⟨p, q, hA0, hV, rfl, hfz, hnd⟩ := hW
  have hA : DataW.TrodAll enc Tryz.prog W 0 (fun _ => true) true Tryz.f6.params.toList args.toList ds p := hA0
  rw [Tryz.params6] at hA hval
  obtain ⟨v0, vs0, d0, ds0, p0, q0, hargs, rfl, rfl, h0, r0⟩ := trodAll_cons hA
  obtain ⟨rfl, rfl, rfl⟩ := trodAll_nil r0
  obtain rfl : args = #[v0] := by cases args; simp_all
  obtain ⟨rfl, rfl⟩ := trodVars_none hV
  have lt0 : ∀ x ∈ p0, x.block < W.heap.size := by obtain ⟨m, hm⟩ := h0; exact DataW.trod_lt m _ _ _ hm
  have hw0 : Rch Tryz.prog 31 d0 := by
    rw [Tryz.params6] at hwt
    exact rch_each hwt 0 31 d0 rfl rfl
  obtain ⟨a0, n0, cap0, rfl⟩ := okWide_slice Tryz.underlying31 (hval 0 31 v0 rfl rfl)
  obtain ⟨l, hwl, hll, hb⟩ := rd_inls h0.choose_spec hw0
  clear hA0 hval0 hwt
  refine (walk l _ W hb hwl hll).mono fun e W' ⟨he, bel⟩ => ?_
  subst he
  exact ⟨_, rfl, _, _, _, [], _, [], hW', trodAll_mk1 (shut_bool Tryz.underlying4 _), (trodAll_cons_mk (Below.trod laidOut (by kernel_rfl) (of_decide_eq_true (by kernel_rfl)) h0 bel lt0) trodAll_mk0), rfl, bel.frame _, fun h => by cases h⟩

theorem over : Rows.TreeMergesSaid :=
  OpenClaim.holds_of_wide 6 Tryz.f6 rfl rfl rfl rfl rfl rfl rfl ⟨rfl, rfl, rfl, rfl, rfl⟩ rfl rfl rfl rfl rfl (by kernel_rfl) Tryz.func6 (by kernel_rfl)
    (of_decide_eq_true (by kernel_rfl)) (by unfold Func.isWrapper; first | (rw [if_pos (by decide +kernel)]; kernel_rfl) | (rw [if_neg (by decide +kernel)]; exact ⟨rfl, rfl⟩))
    (fun os started H enc _ => lifted os started H enc)

theorem card_holds : Rows.TreeMergesCardSaid :=
  Claim7.holds_tied_plain_at .later [] [.data, .pinned] true Rows.treeMergesCard.stood.harness false
    over (fun _ h => by cases h) (by kernel_rfl) (fun _ h => by cases h) treeMerges_row_tie rfl ⟨rfl, rfl⟩ (by kernel_rfl) rfl
    (fun f fn hf hfn => by
      obtain rfl : f = 6 := Option.some.inj ((show Tryz.prog.funcNamed "publisher/publisherlaw04.TreeMerges" = some 6 by kernel_rfl).symm.trans hf) |>.symm
      obtain rfl : fn = Tryz.f6 := (Option.some.inj (Tryz.func6.symm.trans hfn)).symm
      exact ⟨by kernel_rfl, fun j t ht => by
        rw [Tryz.params6] at ht
        have hm : t ∈ [31] := by simpa using Array.mem_of_getElem? ht
        have hall : ([31].all fun u => !Tryz.prog.wantsStandIn u) = true := by kernel_rfl
        exact (show Tryz.prog.wantsStandIn t = false by simpa using List.all_eq_true.1 hall t hm)⟩)
    (by kernel_rfl)
end Go.Proofs.YtcfplilbhkaihaaGreatDoor.LawTreeMerges

namespace Go.Proofs.YtcfplilbhkaihaaGreatDoor
theorem treeMerges_proved : Rows.TreeMergesCardSaid := LawTreeMerges.card_holds
#print axioms treeMerges_proved
end Go.Proofs.YtcfplilbhkaihaaGreatDoor
