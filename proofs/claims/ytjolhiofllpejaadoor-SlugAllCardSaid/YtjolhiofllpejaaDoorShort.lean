/- publisherlaw21.short: at most sixty texts of at most two hundred bytes. -/
import Derived.Test.YtjolhiofllpejaaDoorRAll
namespace Go.Proofs.YtjolhiofllpejaaDoor
open Go.RowKit
set_option linter.unusedVariables false

def shortB (l : List ByteArray) : Bool := decide (l.length ≤ 60) && l.all fun x => decide (x.size ≤ 200)
theorem all_take_succ (p : ByteArray → Bool) (l : List ByteArray) (k : Nat) (y : ByteArray) (h : l[k]? = some y) : (l.take (k + 1)).all p = ((l.take k).all p && p y) := by
  rw [List.take_add_one, h]; simp
theorem all_of_take (p : ByteArray → Bool) (l : List ByteArray) (k : Nat) (h : (l.take k).all p = false) : l.all p = false := by
  rw [← List.take_append_drop k l, List.all_append, h]; rfl
theorem shortB_spec {l : List ByteArray} (h : shortB l = true) : l.length ≤ 60 ∧ ∀ x ∈ l, x.size ≤ 200 := by
  unfold shortB at h
  rw [Bool.and_eq_true] at h
  exact ⟨of_decide_eq_true h.1, fun x hx => of_decide_eq_true (List.all_eq_true.1 h.2 x hx)⟩

set_option maxRecDepth 100000 in
set_option maxHeartbeats 1000000 in
theorem short_any (l : List ByteArray) (v : Value) (w : World) (hs : Sees w 1 v l.length (l.map Value.string)) :
    Calls Tryd.prog 11 #[v] w fun e w' => e = .returned (.bool (shortB l)) ∧ w = w' := by
  obtain ⟨-, a, cap, rfl, hcap, hmx, hcs⟩ := hs
  unfold maxLen at hmx
  by_cases h60 : 60 < l.length
  · have e1 : decide ((60 : Int) < (l.length : Int)) = true := by simp; omega
    have hv : shortB l = false := by
      unfold shortB
      rw [Bool.and_eq_false_iff]
      exact .inl (decide_eq_false (by omega))
    rw [hv]
    clear hcs hv
    go_enter Tryd.func11, Tryd.ntmps11
    go_wp2
    go_ret
    exact ⟨rfl, rfl⟩
  have e1 : decide ((60 : Int) < (l.length : Int)) = false := by simp; omega
  have hv : shortB l = l.all fun x => decide (x.size ≤ 200) := by unfold shortB; rw [decide_eq_true (by omega : l.length ≤ 60), Bool.true_and]
  have HV := Lib.hid hv
  generalize shortB l = V at *
  have HCS := Lib.hid hcs
  clear hcs hv
  go_enter Tryd.func11, Tryd.ntmps11
  go_wp2
  go_loop [3] (fun vi => ∃ k : Nat, k ≤ l.length ∧ vi = .int .i64 k ∧ ((l.take k).all fun x => decide (x.size ≤ 200)) = true) (fun i => l.length - (intOf i).toNat)
  case atStart => exact ⟨0, Nat.zero_le _, rfl, by simp⟩
  case round =>
    obtain ⟨k, hk, rfl, hall⟩ := hrel
    have HA := Lib.hid hall
    clear hall
    by_cases hlt : k < l.length
    · obtain ⟨y, hy⟩ : ∃ y, l[k]? = some y := ⟨_, List.getElem?_eq_getElem hlt⟩
      rcases HCS.out with h0 | ⟨b, off, rfl, hc⟩
      · omega
      have c0 : w.cell? ⟨b, off + k, none⟩ = some (.string y) := hc k _ (by simp [hy])
      have hsn := all_take_succ (fun x => decide (x.size ≤ 200)) l k y hy
      rw [HA.out, Bool.true_and] at hsn
      have HSN := Lib.hid hsn
      clear hy hc hsn
      by_cases hyx : 200 < y.size
      · have e2 : decide ((200 : Int) < (y.size : Int)) = true := by simp; omega
        go_wp2
        go_ret
        refine ⟨?_, rfl⟩
        rw [HV.out, all_of_take _ l (k + 1) (by rw [HSN.out]; exact decide_eq_false (by omega))]
        rfl
      · have e2 : decide ((200 : Int) < (y.size : Int)) = false := by simp; omega
        go_wp2
        go_round
        case rel => exact ⟨k + 1, by omega, by go_num, by rw [HSN.out]; exact decide_eq_true (by omega)⟩
        case measure => simp [intOf]; omega
    · have hkl : k = l.length := by omega
      have hA := HA.out
      rw [hkl, List.take_length] at hA
      have HA2 := Lib.hid hA
      clear hA HA hkl
      go_wp2
      go_ret
      exact ⟨by rw [HV.out, HA2.out]; rfl, rfl⟩
end Go.Proofs.YtjolhiofllpejaaDoor
