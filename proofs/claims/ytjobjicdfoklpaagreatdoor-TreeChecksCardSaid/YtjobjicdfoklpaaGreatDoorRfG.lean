/- Contracts of publisherref01.Next and publisherref04.Label. -/
import Derived.Test.YtjobjicdfoklpaaGreatDoorRfC
import Derived.Test.YtjobjicdfoklpaaGreatDoorChL
import Derived.RegionTactic
import Derived.BigQuiet
import Derived.Deep.QuietTactic
namespace Go.Proofs.YtjobjicdfoklpaaGreatDoor
open Go.RowKit
set_option linter.unusedVariables false
set_option linter.unusedSimpArgs false

set_option maxRecDepth 100000 in
set_option maxHeartbeats 400000 in
theorem rNext_any (s : ByteArray) (i : Nat) (w : World) (hs : s.size ≤ 140737488355328) (hi : i < s.size) :
    Calls Tryz.prog 223 #[.string s, .int .i64 i] w fun e w' => e = .returned (.tuple #[.int .i64 (Utf8.decode s i).1, .int .i64 (Utf8.decode s i).2]) ∧ Below w.heap.size w w' := by
  have T := at_any s i hs hi
  generalize Utf8.decode s i = d at *
  obtain ⟨d1, d2⟩ := d
  go_enter Tryz.func223, Tryz.ntmps223
  go_wp2_with fail
  refine (T _).mono ?_
  rintro e w' ⟨rfl, hb⟩
  obtain ⟨hc, hf⟩ := bcell hb
  go_wp2_with fail
  go_quiet (fail)
  go_wp2
  go_ret2
  refine ⟨rfl, ?_⟩
  exact below_dN (hb.alloc hb.size _) nq

theorem one_byte (s : ByteArray) (i : Nat) (hi : i < s.size) : (s.extract i (i + 1)).data.toList = [s[i]] := by
  have h1 : (s.extract i (i + 1)).data.toList = (s.data.toList.take (i + 1)).drop i := by
    simp [ByteArray.data_extract, Array.toList_extract, List.drop_take]
  rw [h1, List.take_add_one, byte_get s i hi, Option.toList_some, List.drop_append_of_le_length (by simp; omega), List.drop_of_length_le (by simp; omega)]
  rfl
theorem dec_six (b : UInt8) (n : Nat) (h : b.toNat = n) : ([32, 45, 95, 46, 58] : List UInt8).contains b = ([32, 45, 95, 46, 58] : List Nat).contains n := by
  subst h
  rw [Bool.eq_iff_iff]
  simp [← UInt8.toNat_inj]
/-- Within the five signs: the byte and the code point are one. -/
theorem has_dec (s : ByteArray) (i : Nat) (hi : i < s.size) : hasAny (s.extract i (i + 1)) [32, 45, 95, 46, 58] = ([32, 45, 95, 46, 58] : List Nat).contains (Utf8.decode s i).1 := by
  unfold hasAny
  rw [one_byte s i hi]
  simp only [List.any_cons, List.any_nil, Bool.or_false]
  rcases dec_parts s i hi with ⟨h1, h2⟩ | ⟨h1, h2⟩
  · rw [h2]
    exact dec_six _ _ (bt_eq s i hi)
  · have h3 := h2 0 (dec_pos s i)
    rw [Nat.add_zero] at h3
    rw [dec_six _ _ (bt_eq s i hi)]
    generalize (Utf8.decode s i).1 = c at *
    generalize bt s i = b at *
    rw [Bool.eq_iff_iff]
    simp
    omega
def RlRel (s : ByteArray) (V : Bool) (w : World) (vi : Value) (wr : World) : Prop := ∃ i f : Nat, i ≤ s.size ∧ s.size ≤ i + f ∧ vi = .int .i64 i ∧ (ptsF s f i).all labPt = V ∧ Below w.heap.size w wr

set_option maxRecDepth 100000 in
set_option maxHeartbeats 2000000 in
theorem rLabel_any (s : ByteArray) (w : World) (hs : s.size ≤ 1000000000) :
    Calls Tryz.prog 188 #[.string s] w (RetB (.bool (labelS s)) w) := by
  by_cases h0 : s.size < 1
  · have hv : labelS s = false := by unfold labelS; simp; omega
    rw [hv]
    have q1 : decide ((s.size : Int) < (1 : Int)) = true := by simp; omega
    clear hv
    go_enter Tryz.func188, Tryz.ntmps188
    go_wp2
    go_ret
    exact ⟨rfl, Below.refl _ _⟩
  have q0 : decide ((s.size : Int) < (1 : Int)) = false := by simp; omega
  by_cases h60 : 60 < s.size
  · have hv : labelS s = false := by unfold labelS; simp; omega
    rw [hv]
    have q1 : decide ((60 : Int) < (s.size : Int)) = true := by simp; omega
    clear hv
    go_enter Tryz.func188, Tryz.ntmps188
    go_wp2
    go_ret
    exact ⟨rfl, Below.refl _ _⟩
  have q1 : decide ((60 : Int) < (s.size : Int)) = false := by simp; omega
  have FO := Lib.hid (rFold_any s w hs)
  by_cases hfd : foldS s = s
  case neg =>
    have hv : labelS s = false := by unfold labelS; simp [hfd]
    rw [hv]
    have hb1 := str_bne hfd
    have hb2 := str_beq hfd
    generalize foldS s = fs at *
    clear hv hfd
    go_enter Tryz.func188, Tryz.ntmps188
    go_wp2_with fail
    refine FO.out.mono ?_
    rintro e w1 ⟨rfl, hb⟩
    have HB := Lib.hid hb
    clear hb
    go_wp2
    go_ret
    exact ⟨rfl, HB.out⟩
  rw [hfd] at FO
  have hv : labelS s = (pts s).all labPt := by
    unfold labelS; rw [hfd, decide_eq_true (show 1 ≤ s.size by omega), decide_eq_true (show s.size ≤ 60 by omega)]; simp
  rw [hv]
  obtain ⟨V, hV⟩ : ∃ V, (pts s).all labPt = V := ⟨_, rfl⟩
  rw [hV]
  have HV : Hid ((ptsF s s.size 0).all labPt = V) := hV
  have hb1 : (s.toList != s.toList) = false := by simp
  clear hv hfd hV
  go_enter Tryz.func188, Tryz.ntmps188
  go_wp2_with fail
  refine FO.out.mono ?_
  rintro e w1 ⟨rfl, hb⟩
  have R0 : Hid (RlRel s V w (.int .i64 0) w1) := ⟨0, s.size, Nat.zero_le _, by omega, rfl, HV.out, hb⟩
  clear hb FO
  go_wp2
  go_loopw [3] (fun vi wr => RlRel s V w vi wr) (fun i _ => s.size - (intOf i).toNat)
  case atStart => exact R0.out
  case round =>
    clear R0
    obtain ⟨i, f, hi, hf, rfl, hall, hbel⟩ := hrel
    have HB := Lib.hid hbel
    by_cases hlt : i < s.size
    · have NX := Lib.hid (rNext_any s i wr (by omega) hlt)
      have hd := Lib.rune_le s i
      have hwd := dec_pos s i
      have hle := decs_le s i hlt
      have hst := ptsF_step s f i hlt hf
      have HST : Hid ((labPt (Utf8.decode s i) && (ptsF s (f - 1) (i + (Utf8.decode s i).2)).all labPt) = V) := by
        show _ = V
        rw [← hall, hst, List.all_cons]
      have HH := Lib.hid (fun w => rHasB_any (s.extract i (i + 1)) ⟨#[32, 45, 95, 46, 58]⟩ w (by rw [ByteArray.size_extract]; omega) (by decide))
      have HHD : Hid (hasAny (s.extract i (i + 1)) (⟨#[32, 45, 95, 46, 58]⟩ : ByteArray).data.toList = ([32, 45, 95, 46, 58] : List Nat).contains (Utf8.decode s i).1) := has_dec s i hlt
      rw [HHD.out] at HH
      clear hst hall hbel HHD
      generalize Utf8.decode s i = d at *
      obtain ⟨d1, d2⟩ := d
      simp only at hd hwd hle NX HST HH
      have CL := Lib.hid (fun w => rLetter_any d1 w hd)
      have CD := Lib.hid (fun w => rDigit_any d1 w hd)
      have HLP : Hid (labPt (d1, d2) = (letterC d1 || digC d1 || ([32, 45, 95, 46, 58] : List Nat).contains d1)) := rfl
      generalize ([32, 45, 95, 46, 58] : List Nat).contains d1 = bo at *
      generalize letterC d1 = bl at *
      generalize digC d1 = bd at *
      have q2 : decide ((d2 : Int) < (1 : Int)) = false := by simp; omega
      go_wp2_with fail
      refine NX.out.mono ?_
      rintro e w2 ⟨rfl, b2⟩
      have HB2 := Lib.hid (below_trans_size HB.out b2)
      clear b2 NX
      go_wp2_with fail
      refine (CL.out _).mono ?_
      rintro e w3 ⟨rfl, b3⟩
      have HB3 := Lib.hid (below_trans_size HB2.out b3)
      clear b3
      cases bl with
      | true =>
        go_wp2
        go_roundw
        case rel => exact ⟨i + d2, f - 1, hle, by omega, by go_num, by rw [← HST.out, HLP.out]; rfl, HB3.out⟩
        case measure => simp [intOf]; omega
      | false =>
        go_wp2_with fail
        refine (CD.out _).mono ?_
        rintro e w4 ⟨rfl, rfl⟩
        cases bd with
        | true =>
          go_wp2
          go_roundw
          case rel => exact ⟨i + d2, f - 1, hle, by omega, by go_num, by rw [← HST.out, HLP.out]; rfl, HB3.out⟩
          case measure => simp [intOf]; omega
        | false =>
          go_wp2_with fail
          refine (HH.out _).mono ?_
          rintro e w5 ⟨rfl, b5⟩
          have HB5 := Lib.hid (below_trans_size HB3.out b5)
          clear b5
          cases bo with
          | true =>
            go_wp2
            go_roundw
            case rel => exact ⟨i + d2, f - 1, hle, by omega, by go_num, by rw [← HST.out, HLP.out]; rfl, HB5.out⟩
            case measure => simp [intOf]; omega
          | false =>
            have HE : Hid (V = false) := by show V = false; rw [← HST.out, HLP.out]; rfl
            go_wp2
            go_ret
            exact ⟨by rw [HE.out]; rfl, HB5.out⟩
    · have HE : Hid (V = true) := by
        show V = true
        rw [← hall, ptsF_end s f i hlt]; rfl
      clear hall hbel
      go_wp2
      go_ret
      exact ⟨by rw [HE.out]; rfl, HB.out⟩
end Go.Proofs.YtjobjicdfoklpaaGreatDoor
