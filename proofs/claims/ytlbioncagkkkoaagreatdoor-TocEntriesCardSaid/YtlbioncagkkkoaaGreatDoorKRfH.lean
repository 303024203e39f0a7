/- Contracts of publisherref01.Next and publisherref04.Label. Contracts of publisherref04.cites, named. -/
import Derived.Test.YtlbioncagkkkoaaGreatDoorKRfD
import Derived.Test.YtlbioncagkkkoaaGreatDoorKChU
import Derived.RegionTactic
import Derived.BigQuiet
import Derived.Deep.QuietTactic
import Derived.Test.YtlbioncagkkkoaaGreatDoorKSame
import Derived.BigGuard
import Derived.Deep.DeepCutAuto
namespace Go.Proofs.YtlbioncagkkkoaaGreatDoor
open Go.RowKit
set_option linter.unusedVariables false
set_option linter.unusedSimpArgs false

set_option maxRecDepth 100000 in
set_option maxHeartbeats 400000 in
theorem rNext_any (s : ByteArray) (i : Nat) (w : World) (hs : s.size ≤ 140737488355328) (hi : i < s.size) :
    Calls Tryz.prog 178 #[.string s, .int .i64 i] w fun e w' => e = .returned (.tuple #[.int .i64 (Utf8.decode s i).1, .int .i64 (Utf8.decode s i).2]) ∧ Below w.heap.size w w' := by
  have T := at_any s i hs hi
  generalize Utf8.decode s i = d at *
  obtain ⟨d1, d2⟩ := d
  go_enter Tryz.func178, Tryz.ntmps178
  go_wp2_with fail
  refine (T _).mono ?_
  rintro e w' ⟨rfl, hb⟩
  obtain ⟨hc, hf⟩ := bcell hb
  go_wp2_with fail
  go_quiet (fail)
  go_wp2
  go_ret2
  refine ⟨rfl, ?_⟩
  exact below_dN (hb.alloc hb.size _) nq

theorem one_byte (s : ByteArray) (i : Nat) (hi : i < s.size) : (s.extract i (i + 1)).data.toList = [s[i]] := by
  have h1 : (s.extract i (i + 1)).data.toList = (s.data.toList.take (i + 1)).drop i := by
    simp [ByteArray.data_extract, Array.toList_extract, List.drop_take]
  rw [h1, List.take_add_one, byte_get s i hi, Option.toList_some, List.drop_append_of_le_length (by simp; omega), List.drop_of_length_le (by simp; omega)]
  rfl
theorem dec_six (b : UInt8) (n : Nat) (h : b.toNat = n) : ([32, 45, 95, 46, 58] : List UInt8).contains b = ([32, 45, 95, 46, 58] : List Nat).contains n := by
  subst h
  rw [Bool.eq_iff_iff]
  simp [← UInt8.toNat_inj]
/-- Within the five signs: the byte and the code point are one. -/
theorem has_dec (s : ByteArray) (i : Nat) (hi : i < s.size) : hasAny (s.extract i (i + 1)) [32, 45, 95, 46, 58] = ([32, 45, 95, 46, 58] : List Nat).contains (Utf8.decode s i).1 := by
  unfold hasAny
  rw [one_byte s i hi]
  simp only [List.any_cons, List.any_nil, Bool.or_false]
  rcases dec_parts s i hi with ⟨h1, h2⟩ | ⟨h1, h2⟩
  · rw [h2]
    exact dec_six _ _ (bt_eq s i hi)
  · have h3 := h2 0 (dec_pos s i)
    rw [Nat.add_zero] at h3
    rw [dec_six _ _ (bt_eq s i hi)]
    generalize (Utf8.decode s i).1 = c at *
    generalize bt s i = b at *
    rw [Bool.eq_iff_iff]
    simp
    omega
def RlRel (s : ByteArray) (V : Bool) (w : World) (vi : Value) (wr : World) : Prop := ∃ i f : Nat, i ≤ s.size ∧ s.size ≤ i + f ∧ vi = .int .i64 i ∧ (ptsF s f i).all labPt = V ∧ Below w.heap.size w wr

set_option maxRecDepth 100000 in
set_option maxHeartbeats 2000000 in
theorem rLabel_any (s : ByteArray) (w : World) (hs : s.size ≤ 1000000000) :
    Calls Tryz.prog 142 #[.string s] w (RetB (.bool (labelS s)) w) := by
  by_cases h0 : s.size < 1
  · have hv : labelS s = false := by unfold labelS; simp; omega
    rw [hv]
    have q1 : decide ((s.size : Int) < (1 : Int)) = true := by simp; omega
    clear hv
    go_enter Tryz.func142, Tryz.ntmps142
    go_wp2
    go_ret
    exact ⟨rfl, Below.refl _ _⟩
  have q0 : decide ((s.size : Int) < (1 : Int)) = false := by simp; omega
  by_cases h60 : 60 < s.size
  · have hv : labelS s = false := by unfold labelS; simp; omega
    rw [hv]
    have q1 : decide ((60 : Int) < (s.size : Int)) = true := by simp; omega
    clear hv
    go_enter Tryz.func142, Tryz.ntmps142
    go_wp2
    go_ret
    exact ⟨rfl, Below.refl _ _⟩
  have q1 : decide ((60 : Int) < (s.size : Int)) = false := by simp; omega
  have FO := Lib.hid (rFold_any s w hs)
  by_cases hfd : foldS s = s
  case neg =>
    have hv : labelS s = false := by unfold labelS; simp [hfd]
    rw [hv]
    have hb1 := str_bne hfd
    have hb2 := str_beq hfd
    generalize foldS s = fs at *
    clear hv hfd
    go_enter Tryz.func142, Tryz.ntmps142
    go_wp2_with fail
    refine FO.out.mono ?_
    rintro e w1 ⟨rfl, hb⟩
    have HB := Lib.hid hb
    clear hb
    go_wp2
    go_ret
    exact ⟨rfl, HB.out⟩
  rw [hfd] at FO
  have hv : labelS s = (pts s).all labPt := by
    unfold labelS; rw [hfd, decide_eq_true (show 1 ≤ s.size by omega), decide_eq_true (show s.size ≤ 60 by omega)]; simp
  rw [hv]
  obtain ⟨V, hV⟩ : ∃ V, (pts s).all labPt = V := ⟨_, rfl⟩
  rw [hV]
  have HV : Hid ((ptsF s s.size 0).all labPt = V) := hV
  have hb1 : (s.toList != s.toList) = false := by simp
  clear hv hfd hV
  go_enter Tryz.func142, Tryz.ntmps142
  go_wp2_with fail
  refine FO.out.mono ?_
  rintro e w1 ⟨rfl, hb⟩
  have R0 : Hid (RlRel s V w (.int .i64 0) w1) := ⟨0, s.size, Nat.zero_le _, by omega, rfl, HV.out, hb⟩
  clear hb FO
  go_wp2
  go_loopw [3] (fun vi wr => RlRel s V w vi wr) (fun i _ => s.size - (intOf i).toNat)
  case atStart => exact R0.out
  case round =>
    clear R0
    obtain ⟨i, f, hi, hf, rfl, hall, hbel⟩ := hrel
    have HB := Lib.hid hbel
    by_cases hlt : i < s.size
    · have NX := Lib.hid (rNext_any s i wr (by omega) hlt)
      have hd := Lib.rune_le s i
      have hwd := dec_pos s i
      have hle := decs_le s i hlt
      have hst := ptsF_step s f i hlt hf
      have HST : Hid ((labPt (Utf8.decode s i) && (ptsF s (f - 1) (i + (Utf8.decode s i).2)).all labPt) = V) := by
        show _ = V
        rw [← hall, hst, List.all_cons]
      have HH := Lib.hid (fun w => rHasB_any (s.extract i (i + 1)) ⟨#[32, 45, 95, 46, 58]⟩ w (by rw [ByteArray.size_extract]; omega) (by decide))
      have HHD : Hid (hasAny (s.extract i (i + 1)) (⟨#[32, 45, 95, 46, 58]⟩ : ByteArray).data.toList = ([32, 45, 95, 46, 58] : List Nat).contains (Utf8.decode s i).1) := has_dec s i hlt
      rw [HHD.out] at HH
      clear hst hall hbel HHD
      generalize Utf8.decode s i = d at *
      obtain ⟨d1, d2⟩ := d
      simp only at hd hwd hle NX HST HH
      have CL := Lib.hid (fun w => rLetter_any d1 w hd)
      have CD := Lib.hid (fun w => rDigit_any d1 w hd)
      have HLP : Hid (labPt (d1, d2) = (letterC d1 || digC d1 || ([32, 45, 95, 46, 58] : List Nat).contains d1)) := rfl
      generalize ([32, 45, 95, 46, 58] : List Nat).contains d1 = bo at *
      generalize letterC d1 = bl at *
      generalize digC d1 = bd at *
      have q2 : decide ((d2 : Int) < (1 : Int)) = false := by simp; omega
      go_wp2_with fail
      refine NX.out.mono ?_
      rintro e w2 ⟨rfl, b2⟩
      have HB2 := Lib.hid (below_trans_size HB.out b2)
      clear b2 NX
      go_wp2_with fail
      refine (CL.out _).mono ?_
      rintro e w3 ⟨rfl, b3⟩
      have HB3 := Lib.hid (below_trans_size HB2.out b3)
      clear b3
      cases bl with
      | true =>
        go_wp2
        go_roundw
        case rel => exact ⟨i + d2, f - 1, hle, by omega, by go_num, by rw [← HST.out, HLP.out]; rfl, HB3.out⟩
        case measure => simp [intOf]; omega
      | false =>
        go_wp2_with fail
        refine (CD.out _).mono ?_
        rintro e w4 ⟨rfl, rfl⟩
        cases bd with
        | true =>
          go_wp2
          go_roundw
          case rel => exact ⟨i + d2, f - 1, hle, by omega, by go_num, by rw [← HST.out, HLP.out]; rfl, HB3.out⟩
          case measure => simp [intOf]; omega
        | false =>
          go_wp2_with fail
          refine (HH.out _).mono ?_
          rintro e w5 ⟨rfl, b5⟩
          have HB5 := Lib.hid (below_trans_size HB3.out b5)
          clear b5
          cases bo with
          | true =>
            go_wp2
            go_roundw
            case rel => exact ⟨i + d2, f - 1, hle, by omega, by go_num, by rw [← HST.out, HLP.out]; rfl, HB5.out⟩
            case measure => simp [intOf]; omega
          | false =>
            have HE : Hid (V = false) := by show V = false; rw [← HST.out, HLP.out]; rfl
            go_wp2
            go_ret
            exact ⟨by rw [HE.out]; rfl, HB5.out⟩
    · have HE : Hid (V = true) := by
        show V = true
        rw [← hall, ptsF_end s f i hlt]; rfl
      clear hall hbel
      go_wp2
      go_ret
      exact ⟨by rw [HE.out]; rfl, HB.out⟩
end Go.Proofs.YtlbioncagkkkoaaGreatDoor

namespace Go.Proofs.YtlbioncagkkkoaaGreatDoor
open Go.RowKit
set_option linter.unusedVariables false
set_option linter.unusedSimpArgs false

def CcRel (l : List Ci) (E : Nat) (w : World) (vi : Value) (wr : World) : Prop := ∃ k : Nat, k ≤ l.length ∧ vi = .int .i64 k ∧ Below w.heap.size w wr ∧ cisErr (l.drop k) = E
theorem citBad_is (s : ByteArray) : citBad s = (!lineS s || !trimS s || hasAny s [91, 93, 59, 64, 123, 36, 96]) := rfl

set_option maxRecDepth 100000 in
set_option maxHeartbeats 4000000 in
theorem rCites_any (l : List Ci) (a : Option Addr) (cap : Nat) (w : World) (h : Rd (· < w.heap.size) w (cisD l) [.slice a l.length cap]) (hsz : ∀ c ∈ l, c.key.size ≤ 5000 ∧ c.pre.size ≤ 5000 ∧ c.suf.size ≤ 5000) :
    Calls Tryz.prog 249 #[.slice a l.length cap] w (RetB (.int .i64 (citesErr l : Nat)) w) := by
  obtain ⟨a', c', hv, hs⟩ := Rd.sl_open h
  obtain ⟨rfl, rfl⟩ : a' = a ∧ c' = cap := by simp at hv; exact ⟨hv.1.symm, hv.2.symm⟩
  have hcap : l.length ≤ c' := by simpa using hs.le
  have hmx := hs.max
  unfold maxLen at hmx
  have HS := Lib.hid hs
  have SZ := Lib.hid hsz
  clear hs hv h hsz
  by_cases h0 : l.length = 0
  · have hv : citesErr l = 8 := by
      obtain rfl := List.eq_nil_of_length_eq_zero h0
      rfl
    rw [hv]
    have e0 : ((l.length : Int) == 0) = true := by rw [h0]; rfl
    clear hv h0
    go_enter Tryz.func249, Tryz.ntmps249
    go_wp2
    go_ret
    exact ⟨rfl, Below.refl _ _⟩
  have hv : citesErr l = cisErr l := by
    cases l with
    | nil => simp at h0
    | cons x l => rfl
  rw [hv]
  have e0 : ((l.length : Int) == 0) = false := by rw [beq_eq_false_iff_ne]; omega
  obtain ⟨E, hE⟩ : ∃ E, cisErr l = E := ⟨_, rfl⟩
  rw [hE]
  have R0 : Hid (CcRel l E w (.int .i64 0) w) := ⟨0, Nat.zero_le _, rfl, Below.refl _ _, hE⟩
  clear hv hE h0
  go_enter Tryz.func249, Tryz.ntmps249
  (try simp only [List.append_eq, List.cons_append, List.nil_append])
  go_wp2
  go_loopw [3] (fun i wr => CcRel l E w i wr) (fun i _ => l.length - (intOf i).toNat)
  case atStart => exact R0.out
  case round =>
    clear R0
    obtain ⟨k, hk, rfl, hbel, herr⟩ := hrel
    have HB := Lib.hid hbel
    by_cases hlt : k < l.length
    · obtain ⟨x, hx⟩ : ∃ x, l[k]? = some x := ⟨_, List.getElem?_eq_getElem hlt⟩
      have hxs := SZ.out x (List.mem_of_getElem? hx)
      obtain ⟨b, off, rfl, -, -, c0, c1, c2, c3⟩ := cis_at HS.out hx
      have c0 : wr.cell? ⟨b, off + k * 4, none⟩ = some (.string x.key) := by rw [hbel.cell (p := ⟨b, off + k * 4, none⟩) (cell_lt c0)]; exact c0
      have c1 : wr.cell? ⟨b, off + k * 4 + 1, none⟩ = some (.string x.pre) := by rw [hbel.cell (p := ⟨b, off + k * 4 + 1, none⟩) (cell_lt c1)]; exact c1
      have c2 : wr.cell? ⟨b, off + k * 4 + 2, none⟩ = some (.string x.suf) := by rw [hbel.cell (p := ⟨b, off + k * 4 + 2, none⟩) (cell_lt c2)]; exact c2
      have c3 : wr.cell? ⟨b, off + k * 4 + 3, none⟩ = some (.bool x.bare) := by rw [hbel.cell (p := ⟨b, off + k * 4 + 3, none⟩) (cell_lt c3)]; exact c3
      rw [drop_cons l k x hx, cisErr] at herr
      obtain ⟨key, pre, suf, bare⟩ := x
      dsimp only at c0 c1 c2 c3 hxs herr
      have HERR := Lib.hid herr
      have CN := Lib.hid (fun w => rName_any key w (by omega))
      have CLp := Lib.hid (fun w => rLine_any pre w (by omega))
      have CTp := Lib.hid (fun w => rTrim_any pre w (by omega))
      have CHp := Lib.hid (fun w => rHasB_any pre ⟨#[91, 93, 59, 64, 123, 36, 96]⟩ w (by omega) (by decide))
      change Hid (∀ w, Calls Tryz.prog 176 #[.string pre, .string ⟨#[91, 93, 59, 64, 123, 36, 96]⟩] w (RetB (.bool (hasAny pre [91, 93, 59, 64, 123, 36, 96])) w)) at CHp
      have CLs := Lib.hid (fun w => rLine_any suf w (by omega))
      have CTs := Lib.hid (fun w => rTrim_any suf w (by omega))
      have CHs := Lib.hid (fun w => rHasB_any suf ⟨#[91, 93, 59, 64, 123, 36, 96]⟩ w (by omega) (by decide))
      change Hid (∀ w, Calls Tryz.prog 176 #[.string suf, .string ⟨#[91, 93, 59, 64, 123, 36, 96]⟩] w (RetB (.bool (hasAny suf [91, 93, 59, 64, 123, 36, 96])) w)) at CHs
      have HBP := Lib.hid (citBad_is pre)
      have HBS := Lib.hid (citBad_is suf)
      obtain ⟨wi, hwi⟩ : ∃ wi, wi = wr.alloc (.cells #[.string key, .string pre, .string suf, .bool bare] 96) := ⟨_, rfl⟩
      have k2 : CB 96 wr.heap.size [.string key, .string pre, .string suf, .bool bare] wi := by rw [hwi]; exact CB.new _ _ _
      have HB2 : Hid (Below w.heap.size w wi) := by show Below _ _ _; rw [hwi]; exact HB.out.alloc HB.out.size _
      have i0 := k2.cell 0 _ rfl
      have i1 := k2.cell 1 _ rfl
      have i2 := k2.cell 2 _ rfl
      have K2 := Lib.hid k2
      clear herr hx hbel k2
      generalize lineS pre = Lp at *
      generalize trimS pre = Tp at *
      generalize hasAny pre [91, 93, 59, 64, 123, 36, 96] = Hp at *
      generalize lineS suf = Ls at *
      generalize trimS suf = Ts at *
      generalize hasAny suf [91, 93, 59, 64, 123, 36, 96] = Hs at *
      go_upto_region 7 with (fail)
      rw [← hwi]
      clear hwi c0 c1 c2 c3
      cases hn : nameOk key with
      | false =>
        rw [hn] at CN
        have HE : Hid (E = 6) := by
          show E = 6
          have := HERR.out
          rw [if_pos hn] at this
          exact this.symm
        clear hn
        go_wp2_with fail
        refine (CN.out _).mono ?_
        rintro e w3 ⟨rfl, rfl⟩
        go_wp2
        go_ret
        exact ⟨by rw [HE.out]; rfl, HB2.out⟩
      | true =>
        rw [hn] at CN
        have HERR2 : Hid ((if citBad pre = true ∨ citBad suf = true then 17 else cisErr (l.drop (k + 1))) = E) := by
          show _ = _
          have := HERR.out
          rw [if_neg (by rw [hn]; decide)] at this
          exact this
        clear hn HERR
        go_wp2_with fail
        refine (CN.out _).mono ?_
        rintro e w3 ⟨rfl, rfl⟩
        go_wp2_with fail
        refine (CLp.out _).mono ?_
        rintro e w3 ⟨rfl, b3⟩
        have K3 := Lib.hid (K2.out.below b3)
        have HB3 := Lib.hid (below_trans_size HB2.out b3)
        have i1 := K3.out.cell 1 _ rfl
        have i2 := K3.out.cell 2 _ rfl
        clear b3
        cases Lp
        case false =>
          have HE : Hid (E = 17) := by
            show E = 17
            have := HERR2.out
            rw [if_pos (.inl (by rw [HBP.out]; rfl))] at this
            exact this.symm
          go_wp2
          go_ret
          exact ⟨by rw [HE.out]; rfl, HB3.out⟩
        case true =>
          go_wp2_with fail
          refine (CTp.out _).mono ?_
          rintro e wt ⟨rfl, rfl⟩
          cases Tp
          case false =>
            have HE : Hid (E = 17) := by
              show E = 17
              have := HERR2.out
              rw [if_pos (.inl (by rw [HBP.out]; rfl))] at this
              exact this.symm
            go_wp2
            go_ret
            exact ⟨by rw [HE.out]; rfl, HB3.out⟩
          case true =>
            go_wp2_with fail
            refine (CHp.out _).mono ?_
            rintro e w4 ⟨rfl, b4⟩
            have K4 := Lib.hid (K3.out.below b4)
            have HB4 := Lib.hid (below_trans_size HB3.out b4)
            have i1 := K4.out.cell 1 _ rfl
            have i2 := K4.out.cell 2 _ rfl
            clear b4
            cases Hp
            case true =>
              have HE : Hid (E = 17) := by
                show E = 17
                have := HERR2.out
                rw [if_pos (.inl (by rw [HBP.out]; rfl))] at this
                exact this.symm
              go_wp2
              go_ret
              exact ⟨by rw [HE.out]; rfl, HB4.out⟩
            case false =>
              have PB : Hid (citBad pre = false) := by show _ = _; rw [HBP.out]; rfl
              go_wp2_with fail
              refine (CLs.out _).mono ?_
              rintro e w5 ⟨rfl, b5⟩
              have K5 := Lib.hid (K4.out.below b5)
              have HB5 := Lib.hid (below_trans_size HB4.out b5)
              have i1 := K5.out.cell 1 _ rfl
              have i2 := K5.out.cell 2 _ rfl
              clear b5
              cases Ls
              case false =>
                have HE : Hid (E = 17) := by
                  show E = 17
                  have := HERR2.out
                  rw [if_pos (.inr (by rw [HBS.out]; rfl))] at this
                  exact this.symm
                go_wp2
                go_ret
                exact ⟨by rw [HE.out]; rfl, HB5.out⟩
              case true =>
                go_wp2_with fail
                refine (CTs.out _).mono ?_
                rintro e wt ⟨rfl, rfl⟩
                cases Ts
                case false =>
                  have HE : Hid (E = 17) := by
                    show E = 17
                    have := HERR2.out
                    rw [if_pos (.inr (by rw [HBS.out]; rfl))] at this
                    exact this.symm
                  go_wp2
                  go_ret
                  exact ⟨by rw [HE.out]; rfl, HB5.out⟩
                case true =>
                  go_wp2_with fail
                  refine (CHs.out _).mono ?_
                  rintro e w6 ⟨rfl, b6⟩
                  have K6 := Lib.hid (K5.out.below b6)
                  have HB6 := Lib.hid (below_trans_size HB5.out b6)
                  have i1 := K6.out.cell 1 _ rfl
                  have i2 := K6.out.cell 2 _ rfl
                  clear b6
                  cases Hs
                  case true =>
                    have HE : Hid (E = 17) := by
                      show E = 17
                      have := HERR2.out
                      rw [if_pos (.inr (by rw [HBS.out]; rfl))] at this
                      exact this.symm
                    go_wp2
                    go_ret
                    exact ⟨by rw [HE.out]; rfl, HB6.out⟩
                  case false =>
                    have SB : Hid (citBad suf = false) := by show _ = _; rw [HBS.out]; rfl
                    have HN2 : Hid (cisErr (l.drop (k + 1)) = E) := by
                      show _ = E
                      have := HERR2.out
                      rw [if_neg (by rw [PB.out, SB.out]; decide)] at this
                      exact this
                    go_wp2
                    go_roundw
                    case rel => exact ⟨k + 1, by omega, by go_num, HB6.out, HN2.out⟩
                    case measure => simp [intOf]; omega
    · have HE : Hid (E = 0) := by
        show E = 0
        rw [← herr, List.drop_of_length_le (by omega), cisErr]
      clear herr hbel
      go_wp2
      go_ret
      exact ⟨by rw [HE.out]; rfl, HB.out⟩

theorem argBad_is (s : ByteArray) : argBad s = (!lineS s || hasAny s [124, 123, 125]) := rfl
set_option maxRecDepth 100000 in
set_option maxHeartbeats 4000000 in
theorem rNamed_any (w : World) (k : Int) (t d ti : ByteArray) (at_ : At) (ar : List ByteArray) (ci : List Ci) (ks : List Inl) (ac ap aa ai ak : Option Addr) (cc cp ca cai ck : Nat)
    (h : InR (· < w.heap.size) w at_ ar ci ks (.slice ac at_.cls.length cc) (.slice ap at_.prs.length cp) (.slice aa ar.length ca) (.slice ai ci.length cai) (.slice ak ks.length ck)) (hs : InS t d ti at_ ar ci) :
    Calls Tryz.prog 248 #[.agg #[.int .i64 k, .string t, .string d, .string ti, .string at_.id, .slice ac at_.cls.length cc, .slice ap at_.prs.length cp, .slice aa ar.length ca, .slice ai ci.length cai, .slice ak ks.length ck]] w (RetB (.int .i64 (namedErr k t ti ar : Nat)) w) := by
  obtain ⟨a', c', hv, hsl⟩ := Rd.sl_open h.args
  obtain ⟨rfl, rfl⟩ : aa = a' ∧ ca = c' := by simp at hv; exact hv
  have hcap : ar.length ≤ ca := by simpa using hsl.le
  have hmx := hsl.max
  unfold maxLen at hmx
  have HS := Lib.hid hsl
  have SZ := Lib.hid hs.ars
  have NT := Lib.hid (fun w => rName_any t w (by have := hs.t; omega))
  obtain ⟨w1, hw1⟩ : ∃ w1, w1 = w.alloc (.cells #[.int .i64 k, .string t, .string d, .string ti, .string at_.id, .slice ac at_.cls.length cc, .slice ap at_.prs.length cp, .slice aa ar.length ca, .slice ai ci.length cai, .slice ak ks.length ck] 47) := ⟨_, rfl⟩
  have k1 : CB 47 w.heap.size [.int .i64 k, .string t, .string d, .string ti, .string at_.id, .slice ac at_.cls.length cc, .slice ap at_.prs.length cp, .slice aa ar.length ca, .slice ai ci.length cai, .slice ak ks.length ck] w1 := by rw [hw1]; exact CB.new _ _ _
  have b1 : Below w.heap.size w w1 := by rw [hw1]; exact (Below.refl _ _).alloc (Nat.le_refl _) _
  have p0 := k1.cell 0 _ rfl
  have p1 := k1.cell 1 _ rfl
  have p3 := k1.cell 3 _ rfl
  have p5 := k1.cell 7 _ rfl
  have K1 := Lib.hid k1
  have B1 := Lib.hid b1
  have R0 : Hid (NmR ar w1 (.int .i64 0) w1) := ⟨0, Nat.zero_le _, rfl, Below.refl _ _, by simp⟩
  clear hv hsl h hs k1 b1
  have HE : Hid (namedErr k t ti ar = if nameOk t = false then 6 else if k = 14 ∧ emptyS ti = false ∧ ti.data.toList ≠ pageL then 5 else if 8 < ar.length then 3 else if ar.any argBad then 17 else 0) := rfl
  obtain ⟨V, hV⟩ : ∃ V, V = namedErr k t ti ar := ⟨_, rfl⟩
  rw [← hV] at HE ⊢
  clear hV
  go_enter Tryz.func248, Tryz.ntmps248
  (try simp only [List.append_eq, List.cons_append, List.nil_append])
  go_upto_region 1 with (fail)
  rw [← hw1]
  clear hw1
  cases hn : nameOk t with
  | false =>
    rw [hn] at NT
    have HV : Hid (V = 6) := by show V = 6; rw [HE.out, if_pos hn]
    clear hn R0
    go_wp2_with fail
    refine (NT.out _).mono ?_
    rintro e w3 ⟨rfl, rfl⟩
    go_wp2
    go_ret
    exact ⟨by rw [HV.out]; rfl, B1.out⟩
  | true =>
  rw [hn] at NT
  have HE2 : Hid (V = if k = 14 ∧ emptyS ti = false ∧ ti.data.toList ≠ pageL then 5 else if 8 < ar.length then 3 else if ar.any argBad then 17 else 0) := by
    show V = _; rw [HE.out, if_neg (by rw [hn]; decide)]
  clear hn HE
  go_wp2_with fail
  refine (NT.out _).mono ?_
  rintro e w3 ⟨rfl, rfl⟩
  clear NT
  go_upto_region 3 with (fail)
  have hemp := emp_eq ti
  have hpg : (ti.toList == [112, 97, 103, 101]) = decide (ti.data.toList = pageL) := by
    rw [Lib.toList_data, Bool.eq_iff_iff, beq_iff_eq, decide_eq_true_iff]; rfl
  go_cut [20] (fun s wx => s = .bool (decide (k = 14 ∧ emptyS ti = false ∧ ti.data.toList ≠ pageL)) ∧ w1 = wx)
  case first =>
    clear R0 HE2
    by_cases hk : k = 14
    case neg =>
      have hq := beq_false_of_ne hk
      go_wp2_with fail
      go_meet
      exact ⟨by simp [hk], rfl⟩
    subst hk
    cases he : emptyS ti with
    | true =>
      rw [he] at hemp
      go_wp2_with fail
      go_meet
      exact ⟨by simp [he], rfl⟩
    | false =>
      rw [he] at hemp
      by_cases hp : ti.data.toList = pageL
      · have hpp : (ti.toList != [112, 97, 103, 101]) = false := by unfold bne; rw [hpg, decide_eq_true hp]; rfl
        rw [decide_eq_true hp] at hpg
        have HP := Lib.hid hp
        clear hp
        go_wp2_with fail
        go_meet
        exact ⟨by simp [HP.out], rfl⟩
      · have hpp : (ti.toList != [112, 97, 103, 101]) = true := by unfold bne; rw [hpg, decide_eq_false hp]; rfl
        rw [decide_eq_false hp] at hpg
        have HP := Lib.hid hp
        have HEE := Lib.hid he
        clear hp he
        go_wp2_with fail
        go_meet
        exact ⟨by simp [HP.out, HEE.out], rfl⟩
  case rest =>
    obtain ⟨rfl, rfl⟩ := hcut
    clear hemp hpg
    by_cases htt : k = 14 ∧ emptyS ti = false ∧ ti.data.toList ≠ pageL
    · have HV : Hid (V = 5) := by show V = 5; rw [HE2.out, if_pos htt]
      rw [decide_eq_true htt]
      clear htt R0
      go_wp2
      go_ret
      exact ⟨by rw [HV.out]; rfl, B1.out⟩
    have HE3 : Hid (V = if 8 < ar.length then 3 else if ar.any argBad then 17 else 0) := by show V = _; rw [HE2.out, if_neg htt]
    rw [decide_eq_false htt]
    clear htt HE2
    by_cases h8 : 8 < ar.length
    · have q1 : decide ((8 : Int) < (ar.length : Int)) = true := by simp; omega
      have HV : Hid (V = 3) := by show V = 3; rw [HE3.out, if_pos h8]
      clear R0
      go_wp2
      go_ret
      exact ⟨by rw [HV.out]; rfl, B1.out⟩
    have q1 : decide ((8 : Int) < (ar.length : Int)) = false := by simp; omega
    have HL : Hid (V = if ar.any argBad then 17 else 0) := by show V = _; rw [HE3.out, if_neg h8]
    clear HE3
    go_wp2
    go_loopw [3] (fun i wr => NmR ar w1 i wr) (fun i _ => ar.length - (intOf i).toNat)
    case atStart => exact R0.out
    case round =>
      clear R0 p0 p1 p3 p5
      obtain ⟨j, hj, rfl, hbel, hno⟩ := hrel
      have HB := Lib.hid (below_trans_size B1.out hbel)
      have HBW := Lib.hid hbel
      have HNO := Lib.hid hno
      have p5 := (K1.out.below hbel).cell 7 _ rfl
      by_cases hlt : j < ar.length
      · obtain ⟨x, hx⟩ : ∃ x, ar[j]? = some x := ⟨_, List.getElem?_eq_getElem hlt⟩
        have hxs := SZ.out x (List.mem_of_getElem? hx)
        obtain ⟨b2, off, rfl, -, -, x0⟩ := strs_at HS.out hx
        have x0 : wr.cell? ⟨b2, off + j, none⟩ = some (.string x) := by rw [HB.out.cell (p := ⟨b2, off + j, none⟩) (cell_lt x0)]; exact x0
        have CL := Lib.hid (rLine_any x wr (by omega))
        have CH := Lib.hid (fun w => rHasB_any x ⟨#[124, 123, 125]⟩ w (by omega) (by decide))
        change Hid (∀ w, Calls Tryz.prog 176 #[.string x, .string ⟨#[124, 123, 125]⟩] w (RetB (.bool (hasAny x [124, 123, 125])) w)) at CH
        have HAB := Lib.hid (argBad_is x)
        have HSN := Lib.hid (any_snoc argBad hx)
        have HBAD : Hid (argBad x = true → V = 17) := fun hb => by rw [HL.out, any_at argBad hx hb]; rfl
        clear hx hbel hno
        generalize lineS x = L at *
        generalize hasAny x [124, 123, 125] = Hh at *
        cases L with
        | false =>
          have HV : Hid (V = 17) := HBAD.out (by rw [HAB.out]; rfl)
          go_wp2_with fail
          refine CL.out.mono ?_
          rintro e w4 ⟨rfl, b4⟩
          have HB4 := Lib.hid (below_trans_size HB.out b4)
          clear b4
          go_wp2
          go_ret
          exact ⟨by rw [HV.out]; rfl, HB4.out⟩
        | true =>
          go_wp2_with fail
          refine CL.out.mono ?_
          rintro e w4 ⟨rfl, b4⟩
          have HB4 := Lib.hid (below_trans_size HB.out b4)
          have HW4 := Lib.hid (below_trans_size HBW.out b4)
          have p5 := (K1.out.below HW4.out).cell 7 _ rfl
          have x0 : w4.cell? ⟨b2, off + j, none⟩ = some (.string x) := by rw [b4.cell (p := ⟨b2, off + j, none⟩) (cell_lt x0)]; exact x0
          clear b4
          go_wp2_with fail
          refine (CH.out _).mono ?_
          rintro e w5 ⟨rfl, b5⟩
          have HB5 := Lib.hid (below_trans_size HB4.out b5)
          have HW5 := Lib.hid (below_trans_size HW4.out b5)
          clear b5
          cases Hh with
          | true =>
            have HV : Hid (V = 17) := HBAD.out (by rw [HAB.out]; rfl)
            go_wp2
            go_ret
            exact ⟨by rw [HV.out]; rfl, HB5.out⟩
          | false =>
            go_wp2
            go_roundw
            case rel => exact ⟨j + 1, by omega, by go_num, HW5.out, by rw [HSN.out, HNO.out, HAB.out]; rfl⟩
            case measure => simp [intOf]; omega
      · have HV : Hid (V = 0) := by
          show V = 0
          have := HNO.out
          rw [List.take_of_length_le (by omega)] at this
          rw [HL.out, this]; rfl
        clear hbel hno
        go_wp2
        go_ret
        exact ⟨by rw [HV.out]; rfl, HB.out⟩
end Go.Proofs.YtlbioncagkkkoaaGreatDoor
