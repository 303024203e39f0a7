/- The contracts of wrap.Break outside its range, and without words. -/
import Derived.Test.YtgjhfjplalcnbaaDoorBreak
namespace Go.Proofs.YtgjhfjplalcnbaaDoor
open Go.RowKit
set_option linter.unusedVariables false

def BrNo (w : World) (e : Ending) (w' : World) : Prop :=
  e = .returned (.tuple #[.slice none 0 0, .int .i64 0, .int .i64 9]) ∧ Below w.heap.size w w'

theorem below3 (w : World) (o1 o2 o3 : Obj) : Below w.heap.size w (((w.alloc o1).alloc o2).alloc o3) :=
  (((Below.refl _ _).alloc (Nat.le_refl _) _).alloc (by simp) _).alloc (by simp; omega) _

set_option maxRecDepth 100000 in
set_option maxHeartbeats 1000000 in
theorem break_range (w : World) (a : Option Addr) (n cap : Nat) (sp wd : Int) (h : wd < 1 ∨ 1048576 < wd ∨ sp < 0 ∨ 1048576 < sp) :
    Calls Tryd.prog 18 #[.slice a n cap, .int .i64 sp, .int .i64 wd] w (BrNo w) := by
  by_cases h1 : wd < 1
  · have e1 : decide (wd < 1) = true := by simpa using h1
    go_enter Tryd.func18, Tryd.ntmps18
    go_wp2
    go_ret3
    exact ⟨rfl, below3 _ _ _ _⟩
  have e1 : decide (wd < 1) = false := by simpa using h1
  by_cases h2 : 1048576 < wd
  · have e2 : decide (1048576 < wd) = true := by simpa using h2
    go_enter Tryd.func18, Tryd.ntmps18
    go_wp2
    go_ret3
    exact ⟨rfl, below3 _ _ _ _⟩
  have e2 : decide (1048576 < wd) = false := by simpa using h2
  by_cases h3 : sp < 0
  · have e3 : decide (sp < 0) = true := by simpa using h3
    go_enter Tryd.func18, Tryd.ntmps18
    go_wp2
    go_ret3
    exact ⟨rfl, below3 _ _ _ _⟩
  have e3 : decide (sp < 0) = false := by simpa using h3
  have h4 : 1048576 < sp := by omega
  have e4 : decide (1048576 < sp) = true := by simpa using h4
  go_enter Tryd.func18, Tryd.ntmps18
  go_wp2
  go_ret3
  exact ⟨rfl, below3 _ _ _ _⟩

set_option maxRecDepth 100000 in
set_option maxHeartbeats 1000000 in
theorem break_badw (w : World) (bw ow capw : Nat) (ws : List Int) (sp wd : Int) (hd0 : 1 ≤ wd) (hd1 : wd ≤ 1048576) (hs0 : 0 ≤ sp) (hs1 : sp ≤ 1048576) (hn : ws.length ≤ 4096) (hcap : ws.length ≤ capw)
    (hbad : ¬ ∀ x ∈ ws, (0 : Int) ≤ x ∧ x ≤ 1048576)
    (hcw : ∀ j x, ws[j]? = some x → w.cell? ⟨bw, ow + j, none⟩ = some (.int .i64 x)) :
    Calls Tryd.prog 18 #[.slice (some ⟨bw, ow, none⟩) ws.length capw, .int .i64 sp, .int .i64 wd] w (BrNo w) := by
  have HB := Lib.hid hbad
  have HCW := Lib.hid hcw
  have hn0 : 0 < ws.length := by
    cases ws with
    | nil => exact absurd (fun x hx => by cases hx) hbad
    | cons a l => simp
  have hbwl : bw < w.heap.size := cell_lt (hcw 0 _ (List.getElem?_eq_getElem hn0))
  clear hbad hcw
  go_enter Tryd.func18, Tryd.ntmps18
  go_wp2
  obtain ⟨w3, hw3⟩ : ∃ w3, w3 = ((w.alloc (.cells #[.slice (some ⟨bw, ow, none⟩) ws.length capw] 33)).alloc (.cells #[.int .i64 sp] 3)).alloc (.cells #[.int .i64 wd] 3) := ⟨_, rfl⟩
  rw [← hw3]
  have hb3 : Below w.heap.size w w3 := by rw [hw3]; exact below3 _ _ _ _
  have HCW3 : Hid (∀ j x, ws[j]? = some x → w3.cell? ⟨bw, ow + j, none⟩ = some (.int .i64 x)) := fun j x h => by rw [hb3.cell (p := ⟨bw, ow + j, none⟩) hbwl]; exact HCW.out j x h
  clear hw3 HCW
  go_loop [32] (fun i => ∃ k : Nat, k ≤ ws.length ∧ i = .int .i64 k ∧ ∀ j x, j < k → ws[j]? = some x → (0 : Int) ≤ x ∧ x ≤ 1048576) (fun i => ws.length - (intOf i).toNat)
  case atStart => exact ⟨0, Nat.zero_le _, rfl, fun j x h => absurd h (by omega)⟩
  case round =>
    obtain ⟨k, hk, rfl, hall⟩ := hrel
    have HA := Lib.hid hall
    clear hall
    by_cases hlt : k < ws.length
    · obtain ⟨x, hwf⟩ : ∃ x, ws[k]? = some x := ⟨_, List.getElem?_eq_getElem hlt⟩
      have c0 := HCW3.out k _ hwf
      have HW := Lib.hid hwf
      clear hwf
      by_cases b0 : x < 0
      · have e1 : decide (x < 0) = true := by simpa using b0
        go_wp2
        go_ret3
        exact ⟨rfl, hb3⟩
      · have e1 : decide (x < 0) = false := by simpa using b0
        by_cases b1 : 1048576 < x
        · have e2 : decide (1048576 < x) = true := by simpa using b1
          go_wp2
          go_ret3
          exact ⟨rfl, hb3⟩
        · have e2 : decide (1048576 < x) = false := by simpa using b1
          go_wp2
          go_round
          case rel =>
            refine ⟨k + 1, by omega, by go_num, fun j y hj hy => ?_⟩
            by_cases hjk : j = k
            · subst hjk
              have := HW.out
              rw [hy] at this
              simp at this
              omega
            · exact HA.out j y (by omega) hy
          case measure => simp [intOf]; omega
    · refine absurd (fun x hx => ?_) HB.out
      obtain ⟨j, hj, e⟩ := List.mem_iff_getElem.1 hx
      exact HA.out j x (by omega) (by rw [List.getElem?_eq_getElem hj, e])

set_option maxRecDepth 100000 in
set_option maxHeartbeats 1000000 in
theorem break_empty (w : World) (a : Option Addr) (cap : Nat) (sp wd : Int) (hd0 : 1 ≤ wd) (hd1 : wd ≤ 1048576) (hs0 : 0 ≤ sp) (hs1 : sp ≤ 1048576) :
    Calls Tryd.prog 18 #[.slice a 0 cap, .int .i64 sp, .int .i64 wd] w (BrPost w [] sp wd) := by
  obtain ⟨iD, hiD, hzD0, hzD1, hzD2⟩ := info_parts infoD
  have hmk : ∀ w : World, (Instr.makeSlice 51 (.int .i64 1) (.int .i64 1)).run Tryd.prog w = .ok (.slice (some ⟨w.heap.size, 0, none⟩) 1 1) (w.alloc (.cells #[.int .i64 0, .int .i64 0, .int .i64 0] 53)) := fun _ => by kernel_rfl
  go_enter Tryd.func18, Tryd.ntmps18
  go_wp2
  refine wp_loop_rounds 1 ?_
  rw [rounds_succ]
  go_wp2
  refine wp_loop_rounds 1 ?_
  rw [rounds_succ]
  go_wp2
  refine wp_loop_rounds 1 ?_
  rw [rounds_succ]
  go_wp2_with fail
  go_quiet (fail)
  go_wp2
  go_ret3
  refine ⟨.slice none 0 0, rfl, ⟨rfl, .inl ⟨rfl, rfl⟩⟩, ?_⟩
  exact below_dN ((((((((Below.refl _ _).alloc (Nat.le_refl _) _).alloc (by simp) _).alloc (by simp; omega) _).alloc (by simp; omega) _).alloc (by simp; omega) _).alloc (by simp; omega) _)) _
end Go.Proofs.YtgjhfjplalcnbaaDoor
