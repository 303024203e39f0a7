/- Proved: the tied card of publisherlaw04.TreeLines: it returns true at every list of inlines, and the argument reads as before; the tables of the library are what the program's text lays. No other condition. -/
import Derived.Test.YtcfplilbhkaihaaGreatDoorRfJ
import Derived.Test.YtcfplilbhkaihaaGreatDoorAwk
import Derived.Test.YtcfplilbhkaihaaGreatDoorChS
import Derived.Test.YtcfplilbhkaihaaGreatDoorSmLine
import Derived.Test.YtcfplilbhkaihaaGreatDoorLaid4
import Derived.Test.YtcfplilbhkaihaaGreatDoorCards
import Derived.Test.YtcfplilbhkaihaaGreatDoorTie
import Derived.ShutString
import Derived.SevenTiedAt
import Derived.ChangeOld
namespace Go.Proofs.YtcfplilbhkaihaaGreatDoor.LawTreeLines
open Go.ChangeShapes Go.WideShapes Go.ChangeAt Go.RowKit
set_option linter.unusedVariables false
set_option linter.unusedSimpArgs false

set_option maxRecDepth 100000 in
set_option maxHeartbeats 2000000 in
theorem walk (l : List Inl) (v : Value) (w : World) (h : Rd (· < w.heap.size) w (inlsD l) [v]) (hwl : Inl.wfL l) (hll : l.length ≤ reachBytes) :
    Calls Tryz.prog 4 #[v] w fun e w' => e = .returned (.bool true) ∧ Below w.heap.size w w' := by
  obtain ⟨a, cap, hv, hs⟩ := Rd.sl_open h
  obtain rfl : v = .slice a l.length cap := by simpa using hv
  have SM := Lib.hid (small_line l _ w h hwl hll)
  unfold lRow at SM
  have H := Lib.hid h
  clear h hs hv
  go_enter Tryz.func4, Tryz.ntmps4
  go_wp2_with fail
  refine SM.out.mono ?_
  rintro e w1 ⟨b, rfl, hsm, b1⟩
  have B1 := Lib.hid b1
  cases b with
  | false =>
    clear hsm b1
    go_wp2_with fail
    refine (awake_any _).mono ?_
    rintro e w2 ⟨rfl, b2⟩
    go_wp2
    go_ret
    exact ⟨rfl, below_trans_size B1.out b2⟩
  | true =>
    obtain ⟨hil, hsz⟩ := hsm rfl
    have TL := Lib.hid (fun (w2 : World) (h : Below w.heap.size w w2) => tLineErr_any l a cap w2 hil (H.out.up h))
    have RL := Lib.hid (fun (w2 : World) (h : Below w.heap.size w w2) => rLineErr_any l a cap w2 hil (H.out.up h))
    clear hsm b1 hil hsz SM
    generalize lineErr l = E at *
    go_wp2_with fail
    refine (TL.out _ B1.out).mono ?_
    rintro e w2 ⟨rfl, b2⟩
    have B2 := Lib.hid (below_trans_size B1.out b2)
    clear b2
    go_wp2_with fail
    refine (RL.out _ B2.out).mono ?_
    rintro e w3 ⟨rfl, b3⟩
    have B3 := Lib.hid (below_trans_size B2.out b3)
    clear b3
    go_wp2_with fail
    refine (awake_any _).mono ?_
    rintro e w4 ⟨rfl, b4⟩
    go_wp2
    go_ret
    exact ⟨rfl, below_trans_size B3.out b4⟩

set_option maxRecDepth 100000 in
theorem lifted (os : Os) (started : os.Started) (H : Type) (enc : TypeId × Value → H) :
    ReturnsInHanded {} Tryz.checked os 4 .any (fun w args => (Rows.treeLinesSpec.pre enc Tryz.prog Tryz.f4 [] false w args ∧ laidMetH Tryz.prog laidF w) ∧ sizedMet enc Tryz.prog Tryz.f4 (OpenSpec.ofChange Rows.treeLinesSpec) false w args)
      (Rows.treeLinesSpec.post enc Tryz.prog Tryz.f4 false true false false) := by
  refine returnsInHanded_of_change_and (C := Tryz.checked) (X := fun w _ => laidMetH Tryz.prog laidF w) (fun _ _ _ hh h => h.of_heap hh) own started (by kernel_rfl) Tryz.func4
    (ChangeSpec.witness_shaped (enc := enc) (C := Tryz.checked) (os := os) (X := fun w _ => laidMetH Tryz.prog laidF w) false (World.laidAll Tryz.prog os laidF) #[.slice none 0 0] 8 (World.laidAll_os _ _ _) (wit_shaped os) (by kernel_rfl) (by kernel_rfl) (by kernel_rfl) (wit_met os _)) ?_
  intro W base args ds gs before hval0 hW _ hwt hL _
  have hval : ∀ (j : Nat) t v, Tryz.f4.params[j]? = some t → args[j]? = some v → Value.okWide Tryz.prog W .any base t v := hval0
  have hW' := hW
  obtain ⟨p, q, hA0, hV, rfl, hfz, hnd⟩ := hW
  have hA : DataW.TrodAll enc Tryz.prog W 0 (fun _ => true) true Tryz.f4.params.toList args.toList ds p := hA0
  rw [Tryz.params4] at hA hval
  obtain ⟨v0, vs0, d0, ds0, p0, q0, hargs, rfl, rfl, h0, r0⟩ := trodAll_cons hA
  obtain ⟨rfl, rfl, rfl⟩ := trodAll_nil r0
  obtain rfl : args = #[v0] := by cases args; simp_all
  obtain ⟨rfl, rfl⟩ := trodVars_none hV
  have lt0 : ∀ x ∈ p0, x.block < W.heap.size := by obtain ⟨m, hm⟩ := h0; exact DataW.trod_lt m _ _ _ hm
  have hw0 : Rch Tryz.prog 31 d0 := by
    rw [Tryz.params4] at hwt
    exact rch_each hwt 0 31 d0 rfl rfl
  obtain ⟨a0, n0, cap0, rfl⟩ := okWide_slice Tryz.underlying31 (hval 0 31 v0 rfl rfl)
  obtain ⟨l, hwl, hll, hb⟩ := rd_inls h0.choose_spec hw0
  clear hA0 hval0 hwt
  refine (walk l _ W hb hwl hll).mono fun e W' ⟨he, bel⟩ => ?_
  subst he
  exact ⟨_, rfl, _, _, _, [], _, [], hW', trodAll_mk1 (shut_bool Tryz.underlying4 _), (trodAll_cons_mk (Below.trod laidOut (by kernel_rfl) (of_decide_eq_true (by kernel_rfl)) h0 bel lt0) trodAll_mk0), rfl, bel.frame _, fun h => by cases h⟩

theorem over : Rows.TreeLinesSaid :=
  OpenClaim.holds_of_wide 4 Tryz.f4 rfl rfl rfl rfl rfl rfl rfl ⟨rfl, rfl, rfl, rfl, rfl⟩ rfl rfl rfl rfl rfl (by kernel_rfl) Tryz.func4 (by kernel_rfl)
    (of_decide_eq_true (by kernel_rfl)) (by unfold Func.isWrapper; first | (rw [if_pos (by decide +kernel)]; kernel_rfl) | (rw [if_neg (by decide +kernel)]; exact ⟨rfl, rfl⟩))
    (fun os started H enc _ => lifted os started H enc)

theorem card_holds : Rows.TreeLinesCardSaid :=
  Claim7.holds_tied_plain_at .later [] [.data, .pinned] true Rows.treeLinesCard.stood.harness false
    over (fun _ h => by cases h) (by kernel_rfl) (fun _ h => by cases h) treeLines_row_tie rfl ⟨rfl, rfl⟩ (by kernel_rfl) rfl
    (fun f fn hf hfn => by
      obtain rfl : f = 4 := Option.some.inj ((show Tryz.prog.funcNamed "publisher/publisherlaw04.TreeLines" = some 4 by kernel_rfl).symm.trans hf) |>.symm
      obtain rfl : fn = Tryz.f4 := (Option.some.inj (Tryz.func4.symm.trans hfn)).symm
      exact ⟨by kernel_rfl, fun j t ht => by
        rw [Tryz.params4] at ht
        have hm : t ∈ [31] := by simpa using Array.mem_of_getElem? ht
        have hall : ([31].all fun u => !Tryz.prog.wantsStandIn u) = true := by kernel_rfl
        exact (show Tryz.prog.wantsStandIn t = false by simpa using List.all_eq_true.1 hall t hm)⟩)
    (by kernel_rfl)
end Go.Proofs.YtcfplilbhkaihaaGreatDoor.LawTreeLines

namespace Go.Proofs.YtcfplilbhkaihaaGreatDoor
theorem treeLines_proved : Rows.TreeLinesCardSaid := LawTreeLines.card_holds
#print axioms treeLines_proved
end Go.Proofs.YtcfplilbhkaihaaGreatDoor
