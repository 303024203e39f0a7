/- Contracts of wrap.Center and publisherref38.Center. -/
import Derived.Test.YtgjhfjplalcnbaaDoorWide
import Derived.Test.YtgjhfjplalcnbaaDoorFontRef
import Derived.Test.YtgjhfjplalcnbaaDoorShelf
import Derived.WalkLawsBesides
namespace Go.Proofs.YtgjhfjplalcnbaaDoor
open Go.RowKit
set_option linter.unusedVariables false

def spacesB (n : Nat) : ByteArray := ⟨(List.replicate n 32).toArray⟩
theorem spacesB_succ (n : Nat) : spacesB n ++ ⟨#[32]⟩ = spacesB (n + 1) := by
  apply ByteArray.ext
  rw [ByteArray.data_append]
  apply Array.toList_inj.1
  simp [spacesB, List.replicate_succ']
theorem spacesB_size (n : Nat) : (spacesB n).size = n := by simp [spacesB, ByteArray.size]
theorem repeat_sp (n : Nat) : (⟨(Lib.repeatL [32] n).toArray⟩ : ByteArray) = spacesB n := by
  unfold spacesB
  congr 2
  induction n with
  | zero => rfl
  | succ n ih => simp [Lib.repeatL, List.replicate_succ, ih]
theorem wide_sp : wideS ⟨#[32]⟩ = 30 := by decide +kernel

def centerS (line : ByteArray) (wd : Int) : ByteArray := if wd ≤ (wideS line : Int) then line else spacesB ((wd - wideS line) / 2 / 30).toNat ++ line

set_option maxRecDepth 100000 in
set_option maxHeartbeats 1000000 in
theorem center_any (s : ByteArray) (wd : Int) (w : World) (hs : s.size ≤ 400) (hwd : wd ≤ 40000) (hlo : -9223372036854775808 ≤ wd) (ht : TabAt w) :
    Calls Tryd.prog 11 #[.string s, .int .i64 wd] w fun e w' => e = .returned (.string (centerS s wd)) ∧ Below w.heap.size w w' := by
  have hws := wideS_le s
  have W1 := Lib.hid (wideS_any ⟨#[32]⟩ w (by decide) ht)
  rw [wide_sp] at W1
  have W2 := Lib.hid (fun w1 hb => wideS_any s w1 (by omega) (ht.below (w' := w1) hb))
  obtain ⟨V, hV⟩ : ∃ V, V = centerS s wd := ⟨_, rfl⟩
  rw [← hV]
  unfold centerS at hV
  have HV := Lib.hid hV
  clear hV ht
  generalize wideS s = y at *
  go_enter Tryd.func11, Tryd.ntmps11
  have hmin : min wd 1048576 = wd := by omega
  go_wp2_with fail
  refine W1.out.mono ?_
  rintro e w1 ⟨rfl, hb1⟩
  go_wp2_with fail
  refine (W2.out w1 hb1).mono ?_
  rintro e w2 ⟨rfl, hb2⟩
  have hb12 := below_trans_size hb1 hb2
  clear W1 W2
  by_cases hle : wd ≤ (y : Int)
  · have e1 : decide (wd ≤ (y : Int)) = true := by simpa using hle
    go_wp2
    go_ret
    refine ⟨?_, hb12⟩
    rw [HV.out, if_pos hle]
    rfl
  · have e1 : decide (wd ≤ (y : Int)) = false := by simpa using hle
    obtain ⟨n, hn⟩ : ∃ n : Nat, (wd - y) / 2 / 30 = (n : Int) := ⟨((wd - y) / 2 / 30).toNat, by omega⟩
    have hn2 : n ≤ 700 := by omega
    have HN := Lib.hid hn
    have RP := Lib.hid (Tryd.strings_Repeat ⟨#[32]⟩ n w2 (by omega) (by show 1 * n ≤ _; omega))
    rw [show (ByteArray.mk #[32]).data.toList = [32] from rfl, repeat_sp] at RP
    have h0 : 0 ≤ wd - y := by omega
    clear hn
    go_wp2_with fail
    rw [HN.out]
    refine RP.out.mono ?_
    rintro e w3 ⟨rfl, hb3⟩
    have hsz : (spacesB n).size = n := spacesB_size n
    go_wp2
    go_ret
    refine ⟨?_, below_trans_size hb12 hb3⟩
    rw [HV.out, if_neg (by omega), HN.out]
    rfl

set_option maxRecDepth 100000 in
set_option maxHeartbeats 1000000 in
theorem rcenter_any (s : ByteArray) (wd : Int) (w : World) (hs : s.size ≤ 400) (hwd : wd ≤ 40000) (hlo : -9223372036854775808 ≤ wd) :
    Calls Tryd.prog 12 #[.string s, .int .i64 wd] w fun e w' => e = .returned (.string (centerS s wd)) ∧ Below w.heap.size w w' := by
  have hws := wideS_le s
  have W1 := Lib.hid (fun w => rwideS_any ⟨#[32]⟩ w (by decide) (by decide))
  rw [wide_sp] at W1
  have W2 := Lib.hid (rwideS_any s w (by omega) (by omega))
  obtain ⟨V, hV⟩ : ∃ V, V = centerS s wd := ⟨_, rfl⟩
  rw [← hV]
  unfold centerS at hV
  have HV := Lib.hid hV
  clear hV
  generalize wideS s = y at *
  go_enter Tryd.func12, Tryd.ntmps12
  have hmin : min wd 1048576 = wd := by omega
  go_wp2_with fail
  refine W2.out.mono ?_
  rintro e w1 ⟨rfl, hb1⟩
  go_wp2_with fail
  refine (W1.out _).mono ?_
  rintro e w2 ⟨rfl, hb2⟩
  have hb12 := below_trans_size hb1 hb2
  clear W1 W2
  by_cases hneg : wd < 0
  · have e0 : decide (wd < 0) = true := by simpa using hneg
    go_wp2
    go_ret
    refine ⟨?_, hb12⟩
    rw [HV.out, if_pos (by omega)]
    rfl
  have e0 : decide (wd < 0) = false := by simpa using hneg
  by_cases hle : wd ≤ (y : Int)
  · have e1 : decide (wd ≤ (y : Int)) = true := by simpa using hle
    go_wp2
    go_ret
    refine ⟨?_, hb12⟩
    rw [HV.out, if_pos hle]
    rfl
  · have e1 : decide (wd ≤ (y : Int)) = false := by simpa using hle
    obtain ⟨n, hn⟩ : ∃ n : Nat, (wd - y) / 2 / 30 = (n : Int) := ⟨((wd - y) / 2 / 30).toNat, by omega⟩
    have hn2 : n ≤ 700 := by omega
    have HN := Lib.hid hn
    have h0 : 0 ≤ wd - y := by omega
    clear hn
    go_wp2
    rw [HN.out]
    go_loop [8, 9] (fun v i => ∃ k : Nat, k ≤ n ∧ i = .int .i64 k ∧ v = .string (spacesB k)) (fun _ i => n - (intOf i).toNat)
    case atStart => exact ⟨0, Nat.zero_le _, rfl, rfl⟩
    case round =>
      obtain ⟨k, hk, rfl, rfl⟩ := hrel
      have hsz : (spacesB k).size = k := spacesB_size k
      by_cases hlt : k < n
      · have HS := Lib.hid (spacesB_succ k)
        go_wp2
        go_round
        case rel => exact ⟨k + 1, by omega, by go_num, by rw [← HS.out]⟩
        case measure => simp [intOf]; omega
      · have hkn : k = n := by omega
        subst hkn
        go_wp2
        go_ret
        refine ⟨?_, hb12⟩
        rw [HV.out, if_neg (by omega), HN.out]
        rfl
end Go.Proofs.YtgjhfjplalcnbaaDoor
