/- The contracts of publisherref38.Break: the same answers as those of wrap.Break. -/
import Derived.Test.YtgjhfjplalcnbaaDoorRBest
import Derived.Test.YtgjhfjplalcnbaaDoorBreakBad
namespace Go.Proofs.YtgjhfjplalcnbaaDoor
open Go.RowKit
set_option linter.unusedVariables false

set_option maxRecDepth 100000 in
set_option maxHeartbeats 1000000 in
theorem rbreak_range (w : World) (a : Option Addr) (n cap : Nat) (sp wd : Int) (h : wd < 1 ∨ 1048576 < wd ∨ sp < 0 ∨ 1048576 < sp) :
    Calls Tryd.prog 22 #[.slice a n cap, .int .i64 sp, .int .i64 wd] w (BrNo w) := by
  by_cases h1 : wd < 1
  · have e1 : decide (wd < 1) = true := by simpa using h1
    go_enter Tryd.func22, Tryd.ntmps22
    go_wp2
    go_ret3
    exact ⟨rfl, Below.refl _ _⟩
  have e1 : decide (wd < 1) = false := by simpa using h1
  by_cases h2 : 1048576 < wd
  · have e2 : decide (1048576 < wd) = true := by simpa using h2
    go_enter Tryd.func22, Tryd.ntmps22
    go_wp2
    go_ret3
    exact ⟨rfl, Below.refl _ _⟩
  have e2 : decide (1048576 < wd) = false := by simpa using h2
  by_cases h3 : sp < 0
  · have e3 : decide (sp < 0) = true := by simpa using h3
    go_enter Tryd.func22, Tryd.ntmps22
    go_wp2
    go_ret3
    exact ⟨rfl, Below.refl _ _⟩
  have e3 : decide (sp < 0) = false := by simpa using h3
  have h4 : 1048576 < sp := by omega
  have e4 : decide (1048576 < sp) = true := by simpa using h4
  go_enter Tryd.func22, Tryd.ntmps22
  go_wp2
  go_ret3
  exact ⟨rfl, Below.refl _ _⟩

set_option maxRecDepth 100000 in
set_option maxHeartbeats 1000000 in
theorem rbreak_badw (w : World) (bw ow capw : Nat) (ws : List Int) (sp wd : Int) (hd0 : 1 ≤ wd) (hd1 : wd ≤ 1048576) (hs0 : 0 ≤ sp) (hs1 : sp ≤ 1048576) (hn : ws.length ≤ 4096) (hcap : ws.length ≤ capw)
    (hbad : ¬ ∀ x ∈ ws, (0 : Int) ≤ x ∧ x ≤ 1048576)
    (hcw : ∀ j x, ws[j]? = some x → w.cell? ⟨bw, ow + j, none⟩ = some (.int .i64 x)) :
    Calls Tryd.prog 22 #[.slice (some ⟨bw, ow, none⟩) ws.length capw, .int .i64 sp, .int .i64 wd] w (BrNo w) := by
  have HB := Lib.hid hbad
  have HCW := Lib.hid hcw
  have hn0 : 0 < ws.length := by
    cases ws with
    | nil => exact absurd (fun x hx => by cases hx) hbad
    | cons a l => simp
  clear hbad hcw
  go_enter Tryd.func22, Tryd.ntmps22
  go_wp2
  go_loop [9] (fun i => ∃ k : Nat, k ≤ ws.length ∧ i = .int .i64 k ∧ ∀ j x, j < k → ws[j]? = some x → (0 : Int) ≤ x ∧ x ≤ 1048576) (fun i => ws.length - (intOf i).toNat)
  case atStart => exact ⟨0, Nat.zero_le _, rfl, fun j x h => absurd h (by omega)⟩
  case round =>
    obtain ⟨k, hk, rfl, hall⟩ := hrel
    have HA := Lib.hid hall
    clear hall
    by_cases hlt : k < ws.length
    · obtain ⟨x, hwf⟩ : ∃ x, ws[k]? = some x := ⟨_, List.getElem?_eq_getElem hlt⟩
      have c0 := HCW.out k _ hwf
      have HW := Lib.hid hwf
      clear hwf
      by_cases b0 : x < 0
      · have e1 : decide (x < 0) = true := by simpa using b0
        go_wp2
        go_ret3
        exact ⟨rfl, Below.refl _ _⟩
      · have e1 : decide (x < 0) = false := by simpa using b0
        by_cases b1 : 1048576 < x
        · have e2 : decide (1048576 < x) = true := by simpa using b1
          go_wp2
          go_ret3
          exact ⟨rfl, Below.refl _ _⟩
        · have e2 : decide (1048576 < x) = false := by simpa using b1
          go_wp2
          go_round
          case rel =>
            refine ⟨k + 1, by omega, by go_num, fun j y hj hy => ?_⟩
            by_cases hjk : j = k
            · subst hjk
              have := HW.out
              rw [hy] at this
              simp at this
              omega
            · exact HA.out j y (by omega) hy
          case measure => simp [intOf]; omega
    · refine absurd (fun x hx => ?_) HB.out
      obtain ⟨j, hj, e⟩ := List.mem_iff_getElem.1 hx
      exact HA.out j x (by omega) (by rw [List.getElem?_eq_getElem hj, e])

set_option maxRecDepth 100000 in
set_option maxHeartbeats 1000000 in
theorem rbest_empty (w : World) (a : Option Addr) (cap : Nat) (sp wd : Int) :
    Calls Tryd.prog 36 #[.slice a 0 cap, .int .i64 sp, .int .i64 wd] w fun e w' =>
      ∃ gc gn, e = .returned (.tuple #[.slice (some ⟨gc, 0, none⟩) 1 1, .slice (some ⟨gn, 0, none⟩) 1 1]) ∧ w'.cell? ⟨gc, 0, none⟩ = some (.int .i64 0) ∧ Below w.heap.size w w' := by
  have hmk : ∀ w : World, (Instr.makeSlice 33 (.int .i64 1) (.int .i64 1)).run Tryd.prog w = .ok (.slice (some ⟨w.heap.size, 0, none⟩) 1 1) (w.alloc (.cells #[.int .i64 0] 3)) := fun _ => by kernel_rfl
  go_enter Tryd.func36, Tryd.ntmps36
  go_wp2
  refine wp_loop_rounds 1 ?_
  rw [rounds_succ]
  go_wp2
  go_ret2
  exact ⟨w.heap.size, _, rfl, by simp [go_sem], below3 _ _ _ _⟩

set_option maxRecDepth 100000 in
set_option maxHeartbeats 1000000 in
theorem rbreak_empty (w : World) (a : Option Addr) (cap : Nat) (sp wd : Int) (hd0 : 1 ≤ wd) (hd1 : wd ≤ 1048576) (hs0 : 0 ≤ sp) (hs1 : sp ≤ 1048576) :
    Calls Tryd.prog 22 #[.slice a 0 cap, .int .i64 sp, .int .i64 wd] w (BrPost w [] sp wd) := by
  go_enter Tryd.func22, Tryd.ntmps22
  go_wp2
  refine wp_loop_rounds 1 ?_
  rw [rounds_succ]
  go_wp2_with fail
  refine (rbest_empty _ _ _ _ _).mono ?_
  rintro e w1 ⟨gc, gn, rfl, hc, hb⟩
  go_wp2
  refine wp_loop_rounds 1 ?_
  rw [rounds_succ]
  go_wp2_with fail
  go_quiet (fail)
  go_wp2
  go_ret3
  exact ⟨.slice none 0 0, rfl, ⟨rfl, .inl ⟨rfl, rfl⟩⟩, below_dN hb _⟩

set_option maxRecDepth 100000 in
set_option maxHeartbeats 1000000 in
theorem rbreak_ok (w : World) (bw ow capw : Nat) (ws : List Int) (sp wd : Int) (hok : BrOk ws sp wd) (hn0 : 0 < ws.length) (hn : ws.length ≤ 4096) (hcap : ws.length ≤ capw)
    (hcw : ∀ j x, ws[j]? = some x → w.cell? ⟨bw, ow + j, none⟩ = some (.int .i64 x)) :
    Calls Tryd.prog 22 #[.slice (some ⟨bw, ow, none⟩) ws.length capw, .int .i64 sp, .int .i64 wd] w (BrPost w ws sp wd) := by
  have BE := Lib.hid (rbest_any w bw ow capw ws sp wd hok hn0 hn hcap hcw)
  obtain ⟨⟨hd0, hd1⟩, ⟨hs0, hs1⟩, hws⟩ := hok
  obtain ⟨iI, hiI, hzI0, hzI1, hzI2⟩ := info_parts infoI
  have HWS := Lib.hid hws
  have HCW := Lib.hid hcw
  have HWW : Hid (∀ x ∈ ws, (0 : Int) ≤ x) := fun x hx => (HWS.out x hx).1
  clear hws hcw
  go_enter Tryd.func22, Tryd.ntmps22
  go_wp2
  go_loop [9] (fun i => ∃ k : Nat, k ≤ ws.length ∧ i = .int .i64 k) (fun i => ws.length - (intOf i).toNat)
  case atStart => exact ⟨0, Nat.zero_le _, rfl⟩
  case round =>
    obtain ⟨k, hk, rfl⟩ := hrel
    by_cases hlt : k < ws.length
    · obtain ⟨x, hwf⟩ : ∃ x, ws[k]? = some x := ⟨_, List.getElem?_eq_getElem hlt⟩
      have c0 := HCW.out k _ hwf
      obtain ⟨b0, b1⟩ := HWS.out _ (List.mem_of_getElem? hwf)
      clear hwf
      go_wp2
      go_round
      case rel => exact ⟨k + 1, by omega, by go_num⟩
      case measure => simp [intOf]; omega
    · have hlf : decide (k < ws.length) = false := by simpa using hlt
      go_wp2_with fail
      refine BE.out.mono ?_
      rintro e w1 ⟨gc, gl, gn, rfl, hrows, hb1⟩
      have hTab := tab_ok ws sp wd ws.length hd1 hs0 HWW.out ws.length (Nat.le_refl _)
      obtain ⟨F, hF⟩ : ∃ F, F = brFirst ws sp wd := ⟨_, rfl⟩
      have HF : Hid (firsts ws.length (brT ws sp wd) ws.length 0 = F) := hF.symm
      have HFF := Lib.hid hF
      have HCC : Hid (brCost ws sp wd = (brT ws sp wd 0).c) := rfl
      have HTab : Hid (TabOk ws.length ws.length (brT ws sp wd)) := hTab
      clear hF hTab
      generalize brT ws sp wd = T at *
      have hcb := hrows.c.cellAt 0 (by omega)
      rw [icells_get _ _ _ (by omega)] at hcb
      have v1 := cell_lt hcb
      have HRW := Lib.hid hrows
      have hsz1 := hb1.size
      clear hrows BE
      go_wp2
      go_loopw [12, 13] (fun v vi wz => NRel w1 wz ws.length T F v vi) (fun _ i _ => ws.length - (intOf i).toNat)
      case atStart => exact ⟨0, ws.length, [], Nat.zero_le _, by omega, by simp, by simpa using HF.out, rfl, ⟨rfl, .inl ⟨rfl, rfl⟩⟩, Below.refl _ _⟩
      case round =>
        obtain ⟨i, f, acc, x1, x2, x3, x4, rfl, hown, hbel2⟩ := hrel
        have X4 := Lib.hid x4
        have hsz2 := hbel2.size
        clear x4
        by_cases hil : i < ws.length
        · have hci := HRW.out.n.cellAt i (by omega)
          rw [icells_get _ _ _ (by omega)] at hci
          have v5 := cell_lt hci
          have hnx := HTab.out.nx i (by omega) hil
          have hfn := Lib.hid (firsts_on ws.length T (f - 1) i hil)
          rw [show f - 1 + 1 = f from by omega] at hfn
          generalize (T i).nx = nx at *
          obtain ⟨m, rfl⟩ : ∃ m : Nat, nx = (m : Int) := ⟨nx.toNat, by omega⟩
          simp only [Int.toNat_natCast] at hfn
          have hi1 : (i : Int) < (ws.length : Int) + 1 := by omega
          go_wp2_with (at_builtin; refine wpList_append_own _ rfl _ _ 33 rfl w1.heap.size 3 iI (.int .i64 0) 1 8 Tryd.underlying33 hiI hzI0 hzI1 hzI2 rfl (by decide) _ _ _ rfl (hown.alloc _) ⟨wr.heap.size, 0, none⟩ 1 1 [.int .i64 i] rfl rfl ?c1 ?c2 ?c3 ?c4 ?c5 ?_)
          case c1 => exact new_one _ _ _
          case c2 => simp [Value.oneCell']
          case c3 => unfold maxLen; omega
          case c4 => omega
          case c5 => simp; omega
          intro v' w8 hown' hgrow _
          have hbel3 := below_app hbel2 hsz2 hown hgrow
          have z5 : w8.cell? ⟨gn, i, none⟩ = some (.int .i64 m) := by rw [hbel3.cell (p := ⟨gn, i, none⟩) v5]; exact hci
          clear hci
          go_wp2
          go_roundw
          case rel => exact ⟨m, f - 1, acc ++ [(i : Int)], by omega, by omega, by simp; omega, by rw [← X4.out, hfn.out]; simp, rfl, by simpa using hown', hbel3⟩
          case measure => simp [intOf]; omega
        · have hE := Lib.hid (firsts_end ws.length T f i hil)
          have y6 : wr.cell? ⟨gc, 0, none⟩ = some (.int .i64 (T 0).c) := by rw [hbel2.cell (p := ⟨gc, 0, none⟩) v1]; exact hcb
          have hi0 : (0 : Int) < (ws.length : Int) + 1 := by omega
          go_wp2_with fail
          go_quiet (fail)
          go_wp2
          go_ret3
          refine ⟨u12, by rw [HCC.out]; rfl, ?_, below_dN (below_trans_size hb1 hbel2) _⟩
          have hA : acc = brFirst ws sp wd := by have := X4.out; rw [hE.out, List.append_nil] at this; rw [this, HFF.out]
          rw [← hA]
          exact own_mono hown hsz1
end Go.Proofs.YtgjhfjplalcnbaaDoor
