/- Plain laws on anchors: how long they are; what is used when the k-th one is looked for. The contract of slug.Of. -/
import Derived.Test.YtjobjicdfoklpaaGreatDoorBd
import Derived.Test.YtjobjicdfoklpaaGreatDoorFold
namespace Go.Proofs.YtjobjicdfoklpaaGreatDoor
open Go.RowKit
set_option linter.unusedVariables false
set_option linter.unusedSimpArgs false

theorem dec_len (n : Nat) : (Lib.decDigits n).length ≤ n + 1 := by
  induction n using Nat.strongRecOn with
  | _ n ih =>
    rw [Lib.decDigits]
    split
    · simp
    · have := ih (n / 10) (by omega)
      simp; omega
theorem cutL54_len (a : List UInt8) : (cutL54 a).length ≤ 54 := by
  unfold cutL54
  split
  · split
    · rw [List.length_dropLast, List.length_take]; omega
    · rw [List.length_take]; omega
  · omega
theorem slugS_size (s : ByteArray) : (slugS s).size ≤ 54 := by
  have e : (slugS s).size = (slugL s).length := by simp [slugS, ByteArray.size]
  rw [e]
  unfold slugL anchorL
  split
  · decide
  · exact cutL54_len _
theorem numB_size (base : ByteArray) (n : Nat) : (numB base n).size ≤ base.size + n + 2 := by
  have := dec_len n
  have e : (numB base n).size = base.size + 1 + (Lib.decDigits n).length := by
    rw [Lib.size_eq, numB_list, Lib.size_eq]; simp; omega
  omega
theorem cand_size (base : ByteArray) (n : Nat) : (cand base n).size ≤ base.size + n + 2 := by
  unfold cand; split
  · omega
  · exact numB_size base n

/-- What is used when the k-th anchor is looked for. -/
def useT (bs T : List ByteArray) (k : Nat) : List ByteArray := (outTo bs T k).reverse ++ T
theorem use_has (bs T : List ByteArray) (k : Nat) (x : ByteArray) : (hasB T x || hasB (outTo bs T k) x) = hasB (useT bs T k) x := by
  rw [Bool.eq_iff_iff, Bool.or_eq_true, hasB_iff, hasB_iff, hasB_iff]
  unfold useT
  simp only [List.mem_append, List.mem_reverse]
  exact Or.comm
end Go.Proofs.YtjobjicdfoklpaaGreatDoor

namespace Go.Proofs.YtjobjicdfoklpaaGreatDoor
open Go.RowKit
set_option linter.unusedVariables false
set_option linter.unusedSimpArgs false

def ORel (w : World) (k : Nat) (s : ByteArray) (R : List UInt8) (vg : Value) (wr : World) : Prop :=
  ∃ (pos : Nat) (acc : List UInt8) (gap : Bool), BdIt w k s pos acc wr ∧ ofG (runesAt s pos) gap acc = R ∧ acc.length ≤ 2 * pos ∧ pos ≤ s.size ∧ vg = .bool gap

theorem u8_wrap (c : Nat) (h : c < 256) : (Value.int .u8 (IntKind.u8.wrap (c : Int))) = .int .u8 (c : Int) := by
  congr 1
  show (c : Int) % 256 = c
  omega

theorem trim_dash (l : List UInt8) : Lib.trimSuffix l [45] = if l.getLast? = some 45 then l.dropLast else l := by
  unfold Lib.trimSuffix Lib.hasSuffix
  have h : ([45] : List UInt8).isSuffixOf l = decide (l.getLast? = some 45) := by
    rw [Bool.eq_iff_iff, List.isSuffixOf_iff_suffix, decide_eq_true_eq]
    constructor
    · rintro ⟨a, rfl⟩; simp
    · intro h
      obtain ⟨a, ha⟩ := List.getLast?_eq_some_iff.1 h
      exact ⟨a, ha.symm⟩
  rw [h]
  by_cases hl : l.getLast? = some 45
  · simp [hl, List.dropLast_eq_take]
  · simp [hl]

set_option maxRecDepth 100000 in
set_option maxHeartbeats 4000000 in
theorem slOf_any (s : ByteArray) (w : World) (hs : s.size ≤ 100000000) :
    Calls Tryz.prog 75 #[.string s] w fun e w' => e = .returned (.string (slugS s)) ∧ Below w.heap.size w w' := by
  have hfs := foldS_size s
  have FO := Lib.hid (fun w => chFold_any s w (by omega))
  obtain ⟨R, hR⟩ : ∃ R, R = ofG (runes (foldS s)) false [] := ⟨_, rfl⟩
  have HS : Hid (slugS s = ⟨(anchorL R).toArray⟩) := by rw [hR]; rfl
  have HR : Hid (ofG (runesAt (foldS s) 0) false [] = R) := by rw [hR]; rfl
  clear hR
  generalize slugS s = V at *
  generalize foldS s = t at *
  go_enter Tryz.func75, Tryz.ntmps75
  go_wp2_with fail
  refine (FO.out _).mono ?_
  rintro e w1 ⟨rfl, b1⟩
  have B0 := Lib.hid (BdIt.later w w1 t b1)
  clear b1 FO
  go_wp2
  go_loopw [4] (fun vg wr => ORel w w1.heap.size t R vg wr) (fun _ wr => t.size - wr.iterPos w1.heap.size)
  case atStart => exact ⟨0, [], false, B0.out, HR.out, by simp, by omega, rfl⟩
  case round =>
    obtain ⟨pos, acc, gap, hI, hacc, hal, hps, rfl⟩ := hrel
    have HA := Lib.hid hacc
    have HI := Lib.hid hI
    clear hacc
    by_cases hp : pos < t.size
    · have hnx : ∀ ty, (Instr.next (.pointer (some ⟨w1.heap.size, 0, none⟩)) true ty).run Tryz.prog wr = _ := fun ty => Lib.run_next_any_at wr w1.heap.size t pos ty hI.2.1 hp
      have hd := Lib.rune_le t pos
      have hwd := dec_pos t pos
      have hle := decs_le t pos hp
      have hst := Lib.hid (runesAt_step t pos hp)
      have HI2 := Lib.hid (hI.next (pos + (Utf8.decode t pos).2))
      clear hI
      generalize Utf8.decode t pos = d at *
      obtain ⟨d1, d2⟩ := d
      simp only at hd hwd hle hnx hst HI2
      have hwr : wrap64 (d1 : Int) = d1 := IntWalk.wrap64_in _ ⟨by omega, by omega⟩
      have CD := Lib.hid (fun w => chDigit_any d1 w hd)
      have CE := Lib.hid (fun w => chLetter_any d1 w hd)
      go_upto_region 7 with (fail)
      obtain ⟨wi, hwi⟩ : ∃ wi, wi = wr.iterAt w1.heap.size t (pos + d2) := ⟨_, rfl⟩
      rw [← hwi] at HI2 ⊢
      clear hwi hnx
      go_cut [17] (fun s17 wx => s17 = .bool (lowLetC d1 || digC d1) ∧ wi = wx)
      case first =>
        by_cases h97 : 97 ≤ d1
        · have e1 : decide ((97 : Int) ≤ (d1 : Int)) = true := by simp; omega
          by_cases h122 : d1 ≤ 122
          · have e2 : decide ((d1 : Int) ≤ 122) = true := by simp; omega
            have e3 : (lowLetC d1 || digC d1) = true := by simp [lowLetC, inR]; omega
            have E3 := Lib.hid e3
            clear e3
            go_wp2_with fail
            go_meet
            exact ⟨by rw [E3.out], rfl⟩
          · have e2 : decide ((d1 : Int) ≤ 122) = false := by simp; omega
            have e3 : lowLetC d1 = false := by simp [lowLetC, inR]; omega
            have E3 := Lib.hid e3
            clear e3
            go_wp2_with fail
            refine (CD.out _).mono ?_
            rintro e w2 ⟨rfl, rfl⟩
            go_wp2_with fail
            go_meet
            exact ⟨by rw [E3.out]; rfl, rfl⟩
        · have e1 : decide ((97 : Int) ≤ (d1 : Int)) = false := by simp; omega
          have e3 : lowLetC d1 = false := by simp [lowLetC, inR]; omega
          have E3 := Lib.hid e3
          clear e3
          go_wp2_with fail
          refine (CD.out _).mono ?_
          rintro e w2 ⟨rfl, rfl⟩
          go_wp2_with fail
          go_meet
          exact ⟨by rw [E3.out]; rfl, rfl⟩
      case rest =>
        obtain ⟨rfl, rfl⟩ := hcut
        by_cases hld : (lowLetC d1 || digC d1) = true
        · have h128 : d1 ≤ 122 := by
            simp [lowLetC, digC, inR] at hld; omega
          have HLD := Lib.hid hld
          have hacl : (Lib.byteCells acc).length = acc.length := Lib.byteCells_length _
          have LN := Lib.hid (fun wi (h : BdIt w w1.heap.size t (pos + d2) acc wi) => (Tryz.Builder_Len_f w.heap.size w.heap.size (Lib.byteCells acc) wi h.1).mono fun _ _ ⟨he, hw⟩ => (⟨he, hw.symm⟩ : _ ∧ wi = _))
          rw [hacl] at LN
          have WB := Lib.hid (fun wi (h : BdIt w w1.heap.size t (pos + d2) acc wi) => (writeByte_k w.heap.size w.heap.size (Lib.byteCells acc) 45 wi h.1 (by rw [hacl]; omega) h.size).mono fun _ _ ⟨he, hw⟩ => (⟨he, h.wrote (l' := [45]) hw⟩ : _ ∧ BdIt w w1.heap.size t (pos + d2) (acc ++ [45]) _))
          obtain ⟨A, hA⟩ : ∃ A, A = if gap && !acc.isEmpty then acc ++ [45] else acc := ⟨_, rfl⟩
          have HAE := Lib.hid hA
          have hAl : A.length ≤ acc.length + 1 := by rw [hA]; split <;> simp
          have hu : Lib.byteCells [UInt8.ofNat d1] = [Value.int .u8 (d1 : Int)] := by
            simp [Lib.byteCells, Nat.mod_eq_of_lt (show d1 < 256 by omega)]
          have WC := Lib.hid (fun wi (h : BdIt w w1.heap.size t (pos + d2) A wi) => (writeByte_k w.heap.size w.heap.size (Lib.byteCells A) d1 wi h.1 (by rw [Lib.byteCells_length]; omega) h.size).mono fun _ _ ⟨he, hw⟩ => (⟨he, h.wrote (l' := [UInt8.ofNat d1]) (by rw [hu]; exact hw)⟩ : _ ∧ BdIt w w1.heap.size t (pos + d2) (A ++ [UInt8.ofNat d1]) _))
          have HFA : Hid (ofAdd gap acc d1 = A ++ [UInt8.ofNat d1]) := by rw [hA]; rfl
          rw [hld]
          clear hA hld hacl hu CD CE
          go_upto_region 8 with (fail)
          go_cut [32] (fun s32 wx => s32 = .bool (gap && !acc.isEmpty) ∧ wi = wx)
          case first =>
            cases gap with
            | false =>
              go_wp2_with fail
              go_meet
              exact ⟨rfl, rfl⟩
            | true =>
              go_wp2_with fail
              refine (LN.out _ HI2.out).mono ?_
              rintro e w1 ⟨rfl, rfl⟩
              go_wp2_with fail
              go_meet
              refine ⟨?_, rfl⟩
              cases acc with
              | nil => rfl
              | cons x l => simp
          case rest =>
            obtain ⟨rfl, rfl⟩ := hcut
            go_upto_if 32 with (fail)
            go_cut [] (fun wx => BdIt w w1.heap.size t (pos + d2) A wx)
            case first =>
              by_cases hga : (gap && !acc.isEmpty) = true
              · have hA2 : A = acc ++ [45] := by rw [HAE.out, if_pos hga]
                have HA2 := Lib.hid hA2
                clear hA2
                rw [hga]
                go_wp2_with fail
                refine (WB.out _ HI2.out).mono ?_
                rintro e w1 ⟨rfl, b1⟩
                go_wp2_with fail
                go_meet
                rw [HA2.out]
                exact b1
              · have hA2 : A = acc := by rw [HAE.out, if_neg hga]
                have HA2 := Lib.hid hA2
                have hga : (gap && !acc.isEmpty) = false := by simpa using hga
                clear hA2
                rw [hga]
                go_wp2_with fail
                go_meet
                rw [HA2.out]
                exact HI2.out
            case rest =>
              have HC := Lib.hid hcut
              clear hcut
              go_wp2_with fail
              refine (WC.out _ HC.out).mono ?_
              rintro e w2 ⟨rfl, b2⟩
              have B2 := Lib.hid b2
              clear b2
              go_wp2
              go_roundw
              case rel =>
                refine ⟨pos + d2, A ++ [UInt8.ofNat d1], false, B2.out, ?_, by simp; omega, by omega, rfl⟩
                rw [← HA.out, hst.out, ofG, if_pos HLD.out, HFA.out]
              case measure => rw [B2.out.posn, HI.out.posn]; omega
        · have hld : (lowLetC d1 || digC d1) = false := by simpa using hld
          have HLD := Lib.hid hld
          rw [hld]
          clear hld CD
          by_cases hle2 : letterC d1 = true
          · rw [hle2] at CE
            have HL := Lib.hid hle2
            clear hle2
            go_wp2_with fail
            refine (CE.out _).mono ?_
            rintro e w2 ⟨rfl, rfl⟩
            go_wp2
            go_roundw
            case rel =>
              refine ⟨pos + d2, acc, gap, HI2.out, ?_, by omega, by omega, rfl⟩
              rw [← HA.out, hst.out, ofG, if_neg (by rw [HLD.out]; decide), if_pos HL.out]
            case measure => rw [HI2.out.posn, HI.out.posn]; omega
          · have hle2 : letterC d1 = false := by simpa using hle2
            rw [hle2] at CE
            have HL := Lib.hid hle2
            clear hle2
            go_wp2_with fail
            refine (CE.out _).mono ?_
            rintro e w2 ⟨rfl, rfl⟩
            go_wp2
            go_roundw
            case rel =>
              refine ⟨pos + d2, acc, true, HI2.out, ?_, by omega, by omega, rfl⟩
              rw [← HA.out, hst.out, ofG, if_neg (by rw [HLD.out]; decide), if_neg (by rw [HL.out]; decide)]
            case measure => rw [HI2.out.posn, HI.out.posn]; omega
    · have hnx : ∀ ty, (Instr.next (.pointer (some ⟨w1.heap.size, 0, none⟩)) true ty).run Tryz.prog wr = _ := fun ty => Lib.run_next_end_at wr w1.heap.size t pos ty hI.2.1 hp
      have ST := Lib.hid (Tryz.Builder_String_any_k w.heap.size w.heap.size acc wr hI.1 hI.size)
      have hE := runesAt_end t pos hp
      have HE : Hid (acc = R) := by rw [← HA.out, hE]; rfl
      have hb := hI.2.2.1
      clear hI hE
      go_wp2_with fail
      refine ST.out.mono ?_
      rintro e w2 ⟨rfl, -, b1, -⟩
      by_cases he : acc.isEmpty = true
      · have hac : acc = [] := List.isEmpty_iff.1 he
        have HV : Hid (V = ⟨secL.toArray⟩) := by
          show V = _
          rw [HS.out, ← HE.out, hac]; rfl
        clear hac HS HE HA HI
        go_wp2
        go_ret
        exact ⟨by rw [HV.out]; rfl, hb.trans b1⟩
      · have he : acc.isEmpty = false := by simpa using he
        have hl : 0 < acc.length := by cases acc <;> simp_all
        obtain ⟨c, hc⟩ : ∃ c, c = (⟨acc.toArray⟩ : ByteArray)[0]'(by simpa [ByteArray.size] using hl) := ⟨_, rfl⟩
        have hcl := UInt8.toNat_lt c
        have hw0 : wrap64 ((⟨acc.toArray⟩ : ByteArray)[0]'(by simpa [ByteArray.size] using hl)).toNat = (c.toNat : Int) := by
          rw [← hc]; exact IntWalk.wrap64_in _ ⟨by omega, by omega⟩
        have CD := Lib.hid (fun w => chDigit_any c.toNat w (by omega))
        obtain ⟨Y, hY⟩ : ∃ Y : List UInt8, Y = if digC c.toNat then 115 :: 45 :: acc else acc := ⟨_, rfl⟩
        have HV : Hid (V = ⟨(cutL54 Y).toArray⟩) := by
          show V = _
          rw [HS.out, ← HE.out, hY]
          cases acc with
          | nil => simp at hl
          | cons a l =>
            have : c = a := by rw [hc]; rfl
            rw [this]; rfl
        have HY := Lib.hid hY
        have hYl : Y.length ≤ acc.length + 2 := by rw [hY]; split <;> simp
        clear hY hc HS HE HA HI
        go_upto_if 47 with (fail)
        refine (CD.out _).mono ?_
        rintro e w3 ⟨rfl, rfl⟩
        go_upto_if 47 with (fail)
        go_cut [8] (fun s8 wx => s8 = .string ⟨Y.toArray⟩ ∧ w2 = wx)
        case first =>
          by_cases hdg : digC c.toNat = true
          · have HY2 : Hid (Y = 115 :: 45 :: acc) := by rw [HY.out, if_pos hdg]; exact rfl
            rw [hdg]
            go_wp2_with fail
            go_meet
            refine ⟨?_, rfl⟩
            rw [HY2.out]
            congr 1
          · have hdg : digC c.toNat = false := by simpa using hdg
            have HY2 : Hid (Y = acc) := by rw [HY.out, hdg]; exact rfl
            rw [hdg]
            go_wp2_with fail
            go_meet
            exact ⟨by rw [HY2.out], rfl⟩
        case rest =>
          obtain ⟨rfl, rfl⟩ := hcut
          clear HY hw0 CD
          by_cases h54 : 54 < Y.length
          · have TS := Lib.hid (Tryz.strings_TrimSuffix ((⟨Y.toArray⟩ : ByteArray).extract 0 54) ⟨#[45]⟩ w2 (by simp; omega))
            go_wp2_with fail
            refine TS.out.mono ?_
            rintro e w3 ⟨rfl, rfl⟩
            go_wp2
            go_ret
            refine ⟨?_, hb.trans b1⟩
            rw [HV.out]
            show Ending.returned (Value.string ⟨(Lib.trimSuffix (Y.take 54) [45]).toArray⟩) = _
            rw [trim_dash]
            unfold cutL54
            rw [if_pos h54]
          · go_wp2
            go_ret
            refine ⟨?_, hb.trans b1⟩
            rw [HV.out]
            unfold cutL54
            rw [if_neg h54]
            rfl
end Go.Proofs.YtjobjicdfoklpaaGreatDoor
