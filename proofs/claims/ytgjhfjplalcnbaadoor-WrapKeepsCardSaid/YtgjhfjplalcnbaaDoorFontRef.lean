/- Contracts of publisherref37.among, wide, Width and Wide. -/
import Derived.Test.YtgjhfjplalcnbaaDoorPlFont
import Derived.Test.YtgjhfjplalcnbaaDoorNext
import Derived.Test.YtgjhfjplalcnbaaDoorMem
namespace Go.Proofs.YtgjhfjplalcnbaaDoor
open Go.RowKit
set_option linter.unusedVariables false

theorem among_snoc (c : Nat) (s : ByteArray) (k : Nat) (h : k < s.size) : amongB c (s.data.toList.take (k + 1)) = (amongB c (s.data.toList.take k) || (s[k].toNat == c)) := by
  rw [List.take_succ_eq_append_getElem (by simpa using h)]
  unfold amongB
  rw [List.any_append]
  simp
  rfl

set_option maxRecDepth 100000 in
theorem among_any (c : Nat) (s : ByteArray) (w : World) (hc : c ≤ 1114111) (hs : s.size ≤ 1000) :
    Calls Tryd.prog 45 #[.int .i64 c, .string s] w fun e w' => e = .returned (.bool (amongB c s.data.toList)) ∧ w = w' := by
  go_enter Tryd.func45, Tryd.ntmps45
  go_wp2
  go_loop [5] (fun i => ∃ k : Nat, k ≤ s.size ∧ i = .int .i64 k ∧ amongB c (s.data.toList.take k) = false) (fun i => s.size - (intOf i).toNat)
  case atStart => exact ⟨0, Nat.zero_le _, rfl, rfl⟩
  case round =>
    obtain ⟨k, hk, rfl, hno⟩ := hrel
    have HNO := Lib.hid hno
    clear hno
    by_cases hlt : k < s.size
    · have hsn := Lib.hid (among_snoc c s k hlt)
      have hb : s[k].toNat < 256 := UInt8.toNat_lt _
      have hw : wrap64 (s[k].toNat : Int) = (s[k].toNat : Int) := IntWalk.wrap64_in _ ⟨by omega, by omega⟩
      by_cases he : s[k].toNat = c
      · have HB : Hid (amongB c s.data.toList = true) := by
          have h1 : amongB c (s.data.toList.take (k + 1)) = true := by rw [hsn.out]; simp [he]
          show amongB c s.data.toList = true
          unfold amongB at h1 ⊢
          rw [List.any_eq_true] at h1 ⊢
          obtain ⟨x, hx, hx'⟩ := h1
          exact ⟨x, List.mem_of_mem_take hx, hx'⟩
        have HE := Lib.hid he
        have e1 : ((s[k].toNat : Int) == (c : Int)) = true := by rw [beq_iff_eq]; omega
        have e2 : (s[k].toNat == c) = true := by rw [beq_iff_eq]; exact he
        clear he hsn
        go_wp2
        go_ret
        exact ⟨by rw [HB.out]; rfl, rfl⟩
      · have HE := Lib.hid he
        have e1 : ((s[k].toNat : Int) == (c : Int)) = false := by rw [beq_eq_false_iff_ne]; omega
        have e2 : (s[k].toNat == c) = false := by rw [beq_eq_false_iff_ne]; exact he
        have HS : Hid (amongB c (s.data.toList.take (k + 1)) = false) := by
          show amongB c (s.data.toList.take (k + 1)) = false
          rw [hsn.out, HNO.out, e2]; rfl
        clear he hsn HNO
        go_wp2
        go_round
        case rel => exact ⟨k + 1, by omega, by go_num, HS.out⟩
        case measure => simp [intOf]; omega
    · have HA : Hid (amongB c s.data.toList = false) := by
        have := HNO.out
        rw [List.take_of_length_le (by simp; omega)] at this
        exact this
      go_wp2
      go_ret
      exact ⟨by rw [HA.out]; rfl, rfl⟩

set_option maxRecDepth 100000 in
set_option maxHeartbeats 1000000 in
theorem rwide_is (c : Nat) (w : World) (hc : c ≤ 1114111) :
    Calls Tryd.prog 44 #[.int .i64 c] w fun e w' => e = .returned (.bool (wideB c)) ∧ w = w' := by
  have key : ((4352 ≤ c ∧ c ≤ 4447) ∨ (11904 ≤ c ∧ c ≤ 42191) ∨ (44032 ≤ c ∧ c ≤ 55203) ∨ (63744 ≤ c ∧ c ≤ 64255) ∨ (65072 ≤ c ∧ c ≤ 65103) ∨ (65281 ≤ c ∧ c ≤ 65376)) ∨
      ((0 ≤ c ∧ c < 4352) ∨ (4447 < c ∧ c < 11904) ∨ (42191 < c ∧ c < 44032) ∨ (55203 < c ∧ c < 63744) ∨ (64255 < c ∧ c < 65072) ∨ (65103 < c ∧ c < 65281) ∨ (65376 < c ∧ c ≤ 1114111)) := by omega
  rcases key with key | key
  · have hv : wideB c = true := by simp only [wideB, decide_eq_true_eq]; omega
    rw [hv]
    clear hv
    rcases key with ⟨h, h'⟩ | ⟨h, h'⟩ | ⟨h, h'⟩ | ⟨h, h'⟩ | ⟨h, h'⟩ | ⟨h, h'⟩
    all_goals
      go_enter Tryd.func44, Tryd.ntmps44
      go_wp2
      go_ret
      exact ⟨by simp; try omega, rfl⟩
  · have hv : wideB c = false := by simp only [wideB, decide_eq_false_iff_not]; omega
    rw [hv]
    clear hv
    rcases key with ⟨h, h'⟩ | ⟨h, h'⟩ | ⟨h, h'⟩ | ⟨h, h'⟩ | ⟨h, h'⟩ | ⟨h, h'⟩ | ⟨h, h'⟩
    all_goals
      go_enter Tryd.func44, Tryd.ntmps44
      go_wp2
      go_ret
      exact ⟨by simp; try omega, rfl⟩

set_option maxRecDepth 100000 in
set_option maxHeartbeats 1000000 in
theorem rwidth_any (c : Nat) (w : World) (hc : c ≤ 1114111) :
    Calls Tryd.prog 35 #[.int .i64 c] w fun e w' => e = .returned (.int .i64 (widthC c : Nat)) ∧ w = w' := by
  by_cases h1 : c < 32
  · rw [widthC_zero c (.inl h1)]
    go_enter Tryd.func35, Tryd.ntmps35
    go_wp2
    go_ret
    exact ⟨rfl, rfl⟩
  by_cases h2 : c = 127
  · rw [widthC_zero c (.inr (.inl h2))]
    have e1 : ((c : Int) == 127) = true := by simp; omega
    have H2 := Lib.hid h2
    clear h2
    go_enter Tryd.func35, Tryd.ntmps35
    go_wp2
    go_ret
    exact ⟨rfl, rfl⟩
  have e1 : ((c : Int) == 127) = false := by simp; omega
  by_cases h3 : c < 127
  · rw [widthC_ascii c (by omega) h3]
    have ha := ascii_among ⟨c - 32, by omega⟩
    simp only at ha
    rw [show c - 32 + 32 = c from by omega] at ha
    rw [ha]
    have A1 := Lib.hid (among_any c ⟨#[33, 39, 44, 46, 58, 59, 124, 96, 105, 106, 108]⟩ w hc (by decide))
    have A2 := Lib.hid (among_any c ⟨#[32, 40, 41, 45, 47, 91, 92, 93, 102, 114, 116, 73]⟩ w hc (by decide))
    have A3 := Lib.hid (among_any c ⟨#[109, 119, 77, 87, 37, 64]⟩ w hc (by decide))
    rw [show (ByteArray.mk #[33, 39, 44, 46, 58, 59, 124, 96, 105, 106, 108]).data.toList = am1 from rfl] at A1
    rw [show (ByteArray.mk #[32, 40, 41, 45, 47, 91, 92, 93, 102, 114, 116, 73]).data.toList = am2 from rfl] at A2
    rw [show (ByteArray.mk #[109, 119, 77, 87, 37, 64]).data.toList = am3 from rfl] at A3
    clear ha
    cases b1 : amongB c am1
    rotate_left
    · rw [b1] at A1
      simp only [if_true]
      clear b1
      go_enter Tryd.func35, Tryd.ntmps35
      go_wp2_with fail
      refine A1.out.mono ?_
      rintro e w' ⟨rfl, rfl⟩
      go_wp2
      go_ret
      exact ⟨rfl, rfl⟩
    rw [b1] at A1
    clear b1
    cases b2 : amongB c am2
    rotate_left
    · rw [b2] at A2
      simp only [if_true, Bool.false_eq_true, if_false]
      clear b2
      go_enter Tryd.func35, Tryd.ntmps35
      go_wp2_with fail
      refine A1.out.mono ?_
      rintro e w' ⟨rfl, rfl⟩
      go_wp2_with fail
      refine A2.out.mono ?_
      rintro e w' ⟨rfl, rfl⟩
      go_wp2
      go_ret
      exact ⟨rfl, rfl⟩
    rw [b2] at A2
    clear b2
    cases b3 : amongB c am3
    rotate_left
    · rw [b3] at A3
      simp only [if_true, Bool.false_eq_true, if_false]
      clear b3
      go_enter Tryd.func35, Tryd.ntmps35
      go_wp2_with fail
      refine A1.out.mono ?_
      rintro e w' ⟨rfl, rfl⟩
      go_wp2_with fail
      refine A2.out.mono ?_
      rintro e w' ⟨rfl, rfl⟩
      go_wp2_with fail
      refine A3.out.mono ?_
      rintro e w' ⟨rfl, rfl⟩
      go_wp2
      go_ret
      exact ⟨rfl, rfl⟩
    rw [b3] at A3
    clear b3
    simp only [Bool.false_eq_true, if_false]
    by_cases hq : (65 ≤ c ∧ c ≤ 90 ∧ c ≠ 74) ∨ c = 38
    · rw [if_pos hq]
      by_cases hA : 65 ≤ c
      · have a1 : decide ((65 : Int) ≤ (c : Int)) = true := by simp; omega
        have a2 : decide ((c : Int) ≤ (90 : Int)) = true := by simp; omega
        have a3 : ((c : Int) != 74) = true := by rw [bne_iff_ne]; omega
        clear hq hA
        go_enter Tryd.func35, Tryd.ntmps35
        go_wp2_with fail
        refine A1.out.mono ?_
        rintro e w' ⟨rfl, rfl⟩
        go_wp2_with fail
        refine A2.out.mono ?_
        rintro e w' ⟨rfl, rfl⟩
        go_wp2_with fail
        refine A3.out.mono ?_
        rintro e w' ⟨rfl, rfl⟩
        go_wp2
        go_ret
        exact ⟨rfl, rfl⟩
      · have a1 : decide ((65 : Int) ≤ (c : Int)) = false := by simp; omega
        have a3 : ((c : Int) == 38) = true := by rw [beq_iff_eq]; omega
        clear hq hA
        go_enter Tryd.func35, Tryd.ntmps35
        go_wp2_with fail
        refine A1.out.mono ?_
        rintro e w' ⟨rfl, rfl⟩
        go_wp2_with fail
        refine A2.out.mono ?_
        rintro e w' ⟨rfl, rfl⟩
        go_wp2_with fail
        refine A3.out.mono ?_
        rintro e w' ⟨rfl, rfl⟩
        go_wp2
        go_ret
        exact ⟨rfl, rfl⟩
    · rw [if_neg hq]
      have e3 : ((c : Int) == 38) = false := by rw [beq_eq_false_iff_ne]; omega
      by_cases hA : 65 ≤ c
      · have a1 : decide ((65 : Int) ≤ (c : Int)) = true := by simp; omega
        by_cases hB : c ≤ 90
        · have a2 : decide ((c : Int) ≤ (90 : Int)) = true := by simp; omega
          have a3 : ((c : Int) != 74) = false := by rw [bne_eq_false_iff_eq]; omega
          clear hq hA hB
          go_enter Tryd.func35, Tryd.ntmps35
          go_wp2_with fail
          refine A1.out.mono ?_
          rintro e w' ⟨rfl, rfl⟩
          go_wp2_with fail
          refine A2.out.mono ?_
          rintro e w' ⟨rfl, rfl⟩
          go_wp2_with fail
          refine A3.out.mono ?_
          rintro e w' ⟨rfl, rfl⟩
          go_wp2
          go_ret
          exact ⟨rfl, rfl⟩
        · have a2 : decide ((c : Int) ≤ (90 : Int)) = false := by simp; omega
          clear hq hA hB
          go_enter Tryd.func35, Tryd.ntmps35
          go_wp2_with fail
          refine A1.out.mono ?_
          rintro e w' ⟨rfl, rfl⟩
          go_wp2_with fail
          refine A2.out.mono ?_
          rintro e w' ⟨rfl, rfl⟩
          go_wp2_with fail
          refine A3.out.mono ?_
          rintro e w' ⟨rfl, rfl⟩
          go_wp2
          go_ret
          exact ⟨rfl, rfl⟩
      · have a1 : decide ((65 : Int) ≤ (c : Int)) = false := by simp; omega
        clear hq hA
        go_enter Tryd.func35, Tryd.ntmps35
        go_wp2_with fail
        refine A1.out.mono ?_
        rintro e w' ⟨rfl, rfl⟩
        go_wp2_with fail
        refine A2.out.mono ?_
        rintro e w' ⟨rfl, rfl⟩
        go_wp2_with fail
        refine A3.out.mono ?_
        rintro e w' ⟨rfl, rfl⟩
        go_wp2
        go_ret
        exact ⟨rfl, rfl⟩
  by_cases h4 : 55296 ≤ c ∧ c ≤ 57343
  · rw [widthC_zero c (.inr (.inr (.inl h4)))]
    obtain ⟨h4, h5⟩ := h4
    go_enter Tryd.func35, Tryd.ntmps35
    go_wp2
    go_ret
    exact ⟨rfl, rfl⟩
  · rw [widthC_high c (by omega) h4 hc]
    have WI := Lib.hid (rwide_is c w hc)
    have h5 : c < 55296 ∨ 57343 < c := by omega
    clear h4
    cases hw : wideB c
    · rw [hw] at WI
      simp only [Bool.false_eq_true, if_false]
      clear hw
      rcases h5 with h5 | h5
      all_goals
        go_enter Tryd.func35, Tryd.ntmps35
        go_wp2_with fail
        refine WI.out.mono ?_
        rintro e w' ⟨rfl, rfl⟩
        go_wp2
        go_ret
        exact ⟨rfl, rfl⟩
    · rw [hw] at WI
      simp only [if_true]
      clear hw
      rcases h5 with h5 | h5
      all_goals
        go_enter Tryd.func35, Tryd.ntmps35
        go_wp2_with fail
        refine WI.out.mono ?_
        rintro e w' ⟨rfl, rfl⟩
        go_wp2
        go_ret
        exact ⟨rfl, rfl⟩

set_option maxRecDepth 100000 in
set_option maxHeartbeats 1000000 in
theorem rwideS_any (s : ByteArray) (w : World) (hs : s.size ≤ 140737488355328) (hs2 : s.size ≤ 1099511627776) :
    Calls Tryd.prog 21 #[.string s] w fun e w' => e = .returned (.int .i64 (wideS s : Nat)) ∧ Below w.heap.size w w' := by
  have HV : Hid (wideFrom s s.size 0 = wideS s) := rfl
  generalize wideS s = V at *
  go_enter Tryd.func21, Tryd.ntmps21
  go_wp2
  go_loopw [3, 4] (fun vs vi wr => ∃ k f sum : Nat, k ≤ s.size ∧ s.size ≤ k + f ∧ sum ≤ 100 * k ∧ sum + wideFrom s f k = V ∧ vs = .int .i64 sum ∧ vi = .int .i64 k ∧ Below w.heap.size w wr) (fun _ i _ => s.size - (intOf i).toNat)
  case atStart => exact ⟨0, s.size, 0, Nat.zero_le _, by omega, by omega, by simpa using HV.out, rfl, rfl, Below.refl _ _⟩
  case round =>
    obtain ⟨k, f, sum, h1, h2, h3, h4, rfl, rfl, hbel⟩ := hrel
    have H4 := Lib.hid h4
    clear h4
    by_cases hlt : k < s.size
    · have NX := Lib.hid (next_any s k · hs hlt)
      have hd := dec_le s k hlt
      have hw := Lib.width_pos s k
      have hr := Lib.rune_le s k
      have hon := Lib.hid (wideFrom_on s (f - 1) k hlt)
      rw [show f - 1 + 1 = f from by omega] at hon
      generalize Utf8.decode s k = d at *
      obtain ⟨d1, d2⟩ := d
      simp only at hd hw hr
      have hle := widthC_le d1
      have WI := Lib.hid (rwidth_any d1 · hr)
      generalize widthC d1 = y at *
      go_wp2_with fail
      refine (NX.out _).mono ?_
      rintro e w1 ⟨rfl, hb1⟩
      have hbel1 := below_trans_size hbel hb1
      go_wp2_with fail
      refine (WI.out _).mono ?_
      rintro e w2 ⟨rfl, rfl⟩
      go_wp2
      go_roundw
      case rel => exact ⟨k + d2, f - 1, sum + y, by omega, by omega, by omega, by rw [← H4.out, hon.out]; omega, by go_num, by go_num, hbel1⟩
      case measure => simp [intOf]; omega
    · have hE := Lib.hid (wideFrom_end s f k hlt)
      go_wp2
      go_ret
      exact ⟨ret_int (by have := H4.out; rw [hE.out] at this; omega), hbel⟩
end Go.Proofs.YtgjhfjplalcnbaaDoor
