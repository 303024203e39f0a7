/- The contract of publisherref21.Of. -/
import Derived.Test.YtjolhiofllpejaaDoorRFold
import Derived.Test.YtjolhiofllpejaaDoorSlugOf
import Derived.WalkSpells
namespace Go.Proofs.YtjolhiofllpejaaDoor
open Go.RowKit
set_option linter.unusedVariables false

def HeadOk (x : UInt8) : Prop := (lowLetC x.toNat || digC x.toNat) = true
theorem ofAdd_head (gap : Bool) (acc : List UInt8) (c : Nat) (hc : (lowLetC c || digC c) = true) (h : ∀ x, acc.head? = some x → HeadOk x) : ∀ x, (ofAdd gap acc c).head? = some x → HeadOk x := by
  intro x hx
  have hlt : c < 256 := by simp [lowLetC, digC, inR] at hc; omega
  cases acc with
  | nil =>
    have : x = UInt8.ofNat c := by simp [ofAdd] at hx; exact hx.symm
    subst this
    unfold HeadOk
    rw [show (UInt8.ofNat c).toNat = c by simp [Nat.mod_eq_of_lt hlt]]
    exact hc
  | cons a l =>
    refine h x ?_
    unfold ofAdd at hx
    split at hx <;> simpa using hx
theorem ofG_head : ∀ (cs : List Nat) (gap : Bool) (acc : List UInt8), (∀ x, acc.head? = some x → HeadOk x) → ∀ x, (ofG cs gap acc).head? = some x → HeadOk x
  | [], _, _, h => h
  | c :: cs, gap, acc, h => by
    rw [ofG]
    split
    · rename_i hc; exact ofG_head cs false _ (ofAdd_head gap acc c hc h)
    · split
      · exact ofG_head cs gap acc h
      · exact ofG_head cs true acc h

def RoRel (w wr : World) (ps : List (Nat × Nat)) (R : List UInt8) (v vg vi : Value) : Prop :=
  ∃ (k : Nat) (acc : List UInt8) (gap : Bool), k ≤ ps.length ∧ acc.length ≤ 2 * k ∧ ofG ((ps.drop k).map (·.1)) gap acc = R ∧ vi = .int .i64 k ∧ vg = .bool gap ∧ wr.ownsRow w.heap.size 5 1 v acc.length (Lib.byteCells acc) ∧ Below w.heap.size w wr
def MidB (w1 wr : World) (A : List UInt8) (d1 : Nat) (v : Value) (wx : World) : Prop :=
  wx.ownsRow w1.heap.size 5 1 v A.length (Lib.byteCells A) ∧ Below w1.heap.size w1 wx ∧ wx.cell? ⟨wr.heap.size, 0, none⟩ = some (.int .i64 (d1 : Int))

/-- What the points read as, nil let in. -/
theorem pts_cells {w1 : World} {B : Nat} {ps : List (Nat × Nat)} {v1 : Value} (ho1 : w1.ownsRow B 59 2 v1 ps.length (ptRows ps).flatten) :
    ∃ a cap, v1 = .slice a ps.length cap ∧ ps.length ≤ cap ∧ cap ≤ maxLen ∧ (0 < ps.length → ∃ b, a = some ⟨b, 0, none⟩ ∧ b < w1.heap.size ∧ ∀ k p, ps[k]? = some p → w1.cell? ⟨b, k * 2, none⟩ = some (.int .i64 (p.1 : Int)) ∧ w1.cell? ⟨b, k * 2 + 1, none⟩ = some (.int .i64 (p.2 : Int))) := by
  rcases ho1.2 with ⟨rfl, h0⟩ | ⟨g, cap, cur, rfl, hg, hh, hn, hm, _⟩
  · exact ⟨none, 0, by rw [h0], by omega, Nat.zero_le _, fun h => by omega⟩
  · refine ⟨_, cap, rfl, hn, hm, fun _ => ⟨g, rfl, (ho1.lt g rfl).2, fun k p hk => ?_⟩⟩
    have hr : (ptRows ps)[k]? = some (ptRow p) := by simp [ptRows, hk]
    have h0 := ho1.cells rfl _ _ (flat_get 2 _ (ptRows_k ps) k 0 _ (.int .i64 (p.1 : Int)) hr rfl)
    have h1 := ho1.cells rfl _ _ (flat_get 2 _ (ptRows_k ps) k 1 _ (.int .i64 (p.2 : Int)) hr rfl)
    have e : ∀ j, ((⟨g, 0, none⟩ : Addr).add j) = ⟨g, j, none⟩ := fun j => by unfold Addr.add; split <;> simp_all
    rw [e] at h0 h1
    exact ⟨h0, h1⟩

set_option maxRecDepth 100000 in
set_option maxHeartbeats 4000000 in
theorem rOf_any (s : ByteArray) (w : World) (hs : s.size ≤ 100000000) :
    Calls Tryd.prog 10 #[.string s] w fun e w' => e = .returned (.string (slugS s)) ∧ Below w.heap.size w w' := by
  obtain ⟨i0, hi, hz0, hz1, hz2⟩ := info_parts bdByte
  have hfs := foldS_size s
  have FO := Lib.hid (fun w => rFold_any s w (by omega))
  have PO := Lib.hid (fun w => rPoints_any (foldS s) w (by omega))
  obtain ⟨R, hR⟩ : ∃ R, R = ofG (runes (foldS s)) false [] := ⟨_, rfl⟩
  have HS : Hid (slugS s = ⟨(anchorL R).toArray⟩) := by rw [hR]; rfl
  have HR : Hid (ofG (((pts (foldS s)).drop 0).map (·.1)) false [] = R) := by rw [hR, List.drop_zero, pts_runes]; exact rfl
  have HH : Hid (∀ x, R.head? = some x → HeadOk x) := by rw [hR]; exact ofG_head _ _ _ (by simp)
  have hpl : (pts (foldS s)).length ≤ (foldS s).size := by have := ptsF_len (foldS s) (foldS s).size 0; unfold pts; simpa using this
  have HPL := Lib.hid (ptsF_le (foldS s) (foldS s).size 0)
  change Hid (∀ p ∈ pts (foldS s), p.1 ≤ 1114111) at HPL
  clear hR
  generalize slugS s = V at *
  generalize foldS s = t at *
  generalize pts t = ps at *
  go_enter Tryd.func10, Tryd.ntmps10
  go_wp2_with fail
  refine (FO.out _).mono ?_
  rintro e w0 ⟨rfl, b0⟩
  go_wp2_with fail
  refine (PO.out _).mono ?_
  rintro e w1 ⟨v1, rfl, ho1, b1⟩
  have b01 := below_trans_size b0 b1
  obtain ⟨a, cap, rfl, hcap, hmx, hcs⟩ := pts_cells ho1
  have HCS := Lib.hid hcs
  clear hcs ho1 PO FO b0 b1
  unfold maxLen at hmx
  go_wp2
  go_loopw [3, 4, 12] (fun v vg vi wr => RoRel w1 wr ps R v vg vi) (fun _ _ i _ => ps.length - (intOf i).toNat)
  case atStart => exact ⟨0, [], false, Nat.zero_le _, by simp, HR.out, rfl, rfl, ⟨rfl, .inl ⟨rfl, rfl⟩⟩, Below.refl _ _⟩
  case round =>
    obtain ⟨k, acc, gap, hk, hal, hfg, rfl, rfl, hown, hbel⟩ := hrel
    have HO := Lib.hid hown
    have HF := Lib.hid hfg
    clear hown hfg
    by_cases hlt : k < ps.length
    · obtain ⟨p, hp⟩ : ∃ p, ps[k]? = some p := ⟨_, List.getElem?_eq_getElem hlt⟩
      obtain ⟨b, rfl, hbl, hc⟩ := HCS.out (by omega)
      obtain ⟨k1, k2⟩ := hc k p hp
      have c1 : wr.cell? ⟨b, k * 2, none⟩ = some (.int .i64 (p.1 : Int)) := by rw [hbel.cell (p := ⟨b, k * 2, none⟩) hbl]; exact k1
      have c2 : wr.cell? ⟨b, k * 2 + 1, none⟩ = some (.int .i64 (p.2 : Int)) := by rw [hbel.cell (p := ⟨b, k * 2 + 1, none⟩) hbl]; exact k2
      have hd := HPL.out p (List.mem_of_getElem? hp)
      have HD := Lib.hid (drop_cons ps k p hp)
      obtain ⟨d1, d2⟩ := p
      simp only at hd c1 c2
      have CE := Lib.hid (fun w => rLetter_any d1 w hd)
      have hsz1 := hbel.size
      clear hp hc k1 k2
      obtain ⟨av, cv, rfl⟩ := own_slice HO.out
      go_upto_region 6 with (fail)
      obtain ⟨wi, hwi⟩ : ∃ wi, wi = wr.alloc (.cells #[.int .i64 (d1 : Int), .int .i64 (d2 : Int)] 59) := ⟨_, rfl⟩
      have HI : Hid (MidB w1 wr acc d1 (.slice av acc.length cv) wi) := by
        rw [hwi]
        exact ⟨HO.out.alloc _, hbel.alloc hbel.size _, new_cell wr [.int .i64 (d1 : Int), .int .i64 (d2 : Int)] _ 0 _ rfl⟩
      rw [← hwi]
      clear hwi c1 c2
      have c0 := HI.out.2.2
      by_cases hld : (lowLetC d1 || digC d1) = true
      · have h128 : d1 ≤ 122 := by
          simp [lowLetC, digC, inR] at hld; omega
        have HLD := Lib.hid hld
        obtain ⟨A, hA⟩ : ∃ A, A = if gap && !acc.isEmpty then acc ++ [45] else acc := ⟨_, rfl⟩
        have HAE := Lib.hid hA
        have hAl : A.length ≤ acc.length + 1 := by rw [hA]; split <;> simp
        have HFA : Hid (ofAdd gap acc d1 = A ++ [UInt8.ofNat d1]) := by rw [hA]; rfl
        have hu : Lib.byteCells [UInt8.ofNat d1] = [Value.int .u8 (d1 : Int)] := by
          simp [Lib.byteCells, Nat.mod_eq_of_lt (show d1 < 256 by omega)]
        have HU := Lib.hid hu
        clear hA hu CE
        by_cases h1 : lowLetC d1 = true
        · have e1 : decide ((97 : Int) ≤ (d1 : Int)) = true := by simp [lowLetC, inR] at h1; simp; omega
          have e2 : decide ((d1 : Int) ≤ 122) = true := by simp; omega
          clear hld h1
          go_upto_region 8 with (fail)
          go_cut [38] (fun s38 wx => s38 = .bool (gap && !acc.isEmpty) ∧ wi = wx)
          case first =>
            cases gap with
            | false =>
              go_wp2_with fail
              go_meet
              exact ⟨rfl, rfl⟩
            | true =>
              go_wp2_with fail
              go_meet
              refine ⟨?_, rfl⟩
              cases acc with
              | nil => rfl
              | cons x l => simp
          case rest =>
            obtain ⟨rfl, rfl⟩ := hcut
            go_upto_if 38 with (fail)
            go_cut [3] (fun s3 wx => MidB w1 wr A d1 s3 wx)
            case first =>
              by_cases hga : (gap && !acc.isEmpty) = true
              · have HA2 : Hid (A = acc ++ [45]) := by rw [HAE.out, if_pos hga]; exact rfl
                rw [hga]
                obtain ⟨ho, hb, hcl⟩ := HI.out
                have hsz := hb.size
                go_wp2_with (at_builtin; refine wpList_append_own _ rfl _ _ 46 rfl w1.heap.size 5 i0 (.int .u8 0) 1 1 Tryd.underlying46 hi hz0 hz1 hz2 rfl (by decide) _ _ _ rfl (ho.alloc _) ⟨wi.heap.size, 0, none⟩ 1 1 [.int .u8 45] rfl rfl ?c1 ?c2 ?c3 ?c4 ?c5 ?_)
                case c1 => exact new_one wi _ _
                case c2 => intro u hu; simp at hu; subst hu; rfl
                case c3 => unfold maxLen; omega
                case c4 => omega
                case c5 => simp; omega
                intro v' w3 hown' hgrow _
                have b3 : Below w1.heap.size w1 w3 := below_app hb hsz ho hgrow
                have c3 : w3.cell? ⟨wr.heap.size, 0, none⟩ = some (.int .i64 (d1 : Int)) := grown_cell hgrow (past hcl _) (own_ne HO.out (Nat.le_refl _))
                have M3 := Lib.hid (⟨hown', b3, c3⟩ : _ ∧ _ ∧ _)
                clear hown' hgrow ho hb hcl b3 c3
                go_wp2_with fail
                go_meet
                rw [HA2.out]
                refine ⟨?_, M3.out.2.1, M3.out.2.2⟩
                rw [Lib.byteCells_append, List.length_append]
                exact M3.out.1
              · have HA2 : Hid (A = acc) := by rw [HAE.out, if_neg hga]; exact rfl
                have hga : (gap && !acc.isEmpty) = false := by simpa using hga
                rw [hga]
                go_wp2_with fail
                go_meet
                rw [HA2.out]
                exact HI.out
            case rest =>
              obtain ⟨ho, hb, hcl⟩ := hcut
              have hsz := hb.size
              have HOM := Lib.hid ho
              go_wp2_with (at_builtin; refine wpList_append_own _ rfl _ _ 46 rfl w1.heap.size 5 i0 (.int .u8 0) 1 1 Tryd.underlying46 hi hz0 hz1 hz2 rfl (by decide) _ _ _ rfl (HOM.out.alloc _) ⟨wc.heap.size, 0, none⟩ 1 1 [.int .u8 (d1 : Int)] rfl rfl ?c1 ?c2 ?c3 ?c4 ?c5 ?_)
              case c1 => exact new_one wc _ _
              case c2 => intro u hu; simp at hu; subst hu; rfl
              case c3 => unfold maxLen; omega
              case c4 => omega
              case c5 => simp; omega
              intro v' w3 hown' hgrow _
              have b3 : Below w1.heap.size w1 w3 := below_app hb hsz HOM.out hgrow
              have HO3 := Lib.hid hown'
              clear hown' hgrow ho hb hcl
              go_wp2
              go_roundw
              case rel =>
                refine ⟨k + 1, A ++ [UInt8.ofNat d1], false, by omega, by simp; omega, ?_, by go_num, rfl, ?_, b3⟩
                · rw [← HF.out, HD.out, List.map_cons, ofG, if_pos HLD.out, HFA.out]
                · rw [Lib.byteCells_append, HU.out, List.length_append]; exact HO3.out
              case measure => simp [intOf]; omega
        · have e1 : decide ((97 : Int) ≤ (d1 : Int)) = false := by simp [lowLetC, digC, inR] at hld h1; simp; omega
          have e2 : decide ((48 : Int) ≤ (d1 : Int)) = true := by simp [lowLetC, digC, inR] at hld h1; simp; omega
          have e3 : decide ((d1 : Int) ≤ 57) = true := by simp [lowLetC, digC, inR] at hld h1; simp; omega
          clear hld h1
          go_upto_region 8 with (fail)
          go_cut [38] (fun s38 wx => s38 = .bool (gap && !acc.isEmpty) ∧ wi = wx)
          case first =>
            cases gap with
            | false =>
              go_wp2_with fail
              go_meet
              exact ⟨rfl, rfl⟩
            | true =>
              go_wp2_with fail
              go_meet
              refine ⟨?_, rfl⟩
              cases acc with
              | nil => rfl
              | cons x l => simp
          case rest =>
            obtain ⟨rfl, rfl⟩ := hcut
            go_upto_if 38 with (fail)
            go_cut [3] (fun s3 wx => MidB w1 wr A d1 s3 wx)
            case first =>
              by_cases hga : (gap && !acc.isEmpty) = true
              · have HA2 : Hid (A = acc ++ [45]) := by rw [HAE.out, if_pos hga]; exact rfl
                rw [hga]
                obtain ⟨ho, hb, hcl⟩ := HI.out
                have hsz := hb.size
                go_wp2_with (at_builtin; refine wpList_append_own _ rfl _ _ 46 rfl w1.heap.size 5 i0 (.int .u8 0) 1 1 Tryd.underlying46 hi hz0 hz1 hz2 rfl (by decide) _ _ _ rfl (ho.alloc _) ⟨wi.heap.size, 0, none⟩ 1 1 [.int .u8 45] rfl rfl ?c1 ?c2 ?c3 ?c4 ?c5 ?_)
                case c1 => exact new_one wi _ _
                case c2 => intro u hu; simp at hu; subst hu; rfl
                case c3 => unfold maxLen; omega
                case c4 => omega
                case c5 => simp; omega
                intro v' w3 hown' hgrow _
                have b3 : Below w1.heap.size w1 w3 := below_app hb hsz ho hgrow
                have c3 : w3.cell? ⟨wr.heap.size, 0, none⟩ = some (.int .i64 (d1 : Int)) := grown_cell hgrow (past hcl _) (own_ne HO.out (Nat.le_refl _))
                have M3 := Lib.hid (⟨hown', b3, c3⟩ : _ ∧ _ ∧ _)
                clear hown' hgrow ho hb hcl b3 c3
                go_wp2_with fail
                go_meet
                rw [HA2.out]
                refine ⟨?_, M3.out.2.1, M3.out.2.2⟩
                rw [Lib.byteCells_append, List.length_append]
                exact M3.out.1
              · have HA2 : Hid (A = acc) := by rw [HAE.out, if_neg hga]; exact rfl
                have hga : (gap && !acc.isEmpty) = false := by simpa using hga
                rw [hga]
                go_wp2_with fail
                go_meet
                rw [HA2.out]
                exact HI.out
            case rest =>
              obtain ⟨ho, hb, hcl⟩ := hcut
              have hsz := hb.size
              have HOM := Lib.hid ho
              go_wp2_with (at_builtin; refine wpList_append_own _ rfl _ _ 46 rfl w1.heap.size 5 i0 (.int .u8 0) 1 1 Tryd.underlying46 hi hz0 hz1 hz2 rfl (by decide) _ _ _ rfl (HOM.out.alloc _) ⟨wc.heap.size, 0, none⟩ 1 1 [.int .u8 (d1 : Int)] rfl rfl ?c1 ?c2 ?c3 ?c4 ?c5 ?_)
              case c1 => exact new_one wc _ _
              case c2 => intro u hu; simp at hu; subst hu; rfl
              case c3 => unfold maxLen; omega
              case c4 => omega
              case c5 => simp; omega
              intro v' w3 hown' hgrow _
              have b3 : Below w1.heap.size w1 w3 := below_app hb hsz HOM.out hgrow
              have HO3 := Lib.hid hown'
              clear hown' hgrow ho hb hcl
              go_wp2
              go_roundw
              case rel =>
                refine ⟨k + 1, A ++ [UInt8.ofNat d1], false, by omega, by simp; omega, ?_, by go_num, rfl, ?_, b3⟩
                · rw [← HF.out, HD.out, List.map_cons, ofG, if_pos HLD.out, HFA.out]
                · rw [Lib.byteCells_append, HU.out, List.length_append]; exact HO3.out
              case measure => simp [intOf]; omega
      · have hld : (lowLetC d1 || digC d1) = false := by simpa using hld
        have HLD := Lib.hid hld
        have hr1 : ¬ (97 ≤ d1 ∧ d1 ≤ 122) := by simp [lowLetC, digC, inR] at hld; omega
        have hr2 : ¬ (48 ≤ d1 ∧ d1 ≤ 57) := by simp [lowLetC, digC, inR] at hld; omega
        clear hld
        go_upto_region 12 with (fail)
        all_goals
          by_cases hle2 : letterC d1 = true
          · rw [hle2] at CE
            have HL := Lib.hid hle2
            clear hle2
            go_wp2_with fail
            refine (CE.out _).mono ?_
            rintro e w2 ⟨rfl, b2⟩
            have B2 := Lib.hid b2
            clear b2
            go_wp2
            go_roundw
            case rel => exact ⟨k + 1, acc, gap, by omega, by omega, by rw [← HF.out, HD.out, List.map_cons, ofG, if_neg (by rw [HLD.out]; decide), if_pos HL.out], by go_num, rfl, own_below HI.out.1 B2.out, below_trans_size HI.out.2.1 B2.out⟩
            case measure => simp [intOf]; omega
          · have hle2 : letterC d1 = false := by simpa using hle2
            rw [hle2] at CE
            have HL := Lib.hid hle2
            clear hle2
            go_wp2_with fail
            refine (CE.out _).mono ?_
            rintro e w2 ⟨rfl, b2⟩
            have B2 := Lib.hid b2
            clear b2
            go_wp2
            go_roundw
            case rel => exact ⟨k + 1, acc, true, by omega, by omega, by rw [← HF.out, HD.out, List.map_cons, ofG, if_neg (by rw [HLD.out]; decide), if_neg (by rw [HL.out]; decide)], by go_num, rfl, own_below HI.out.1 B2.out, below_trans_size HI.out.2.1 B2.out⟩
            case measure => simp [intOf]; omega
    · have HE : Hid (acc = R) := by
        show acc = R
        rw [← HF.out, List.drop_eq_nil_of_le (by omega)]; rfl
      have hcv := conv_own HO.out
      clear HO
      have hbw := below_trans_size b01 hbel
      by_cases he : acc.isEmpty = true
      · have hac : acc = [] := List.isEmpty_iff.1 he
        have HV : Hid (V = ⟨secL.toArray⟩) := by
          show V = _
          rw [HS.out, ← HE.out, hac]; rfl
        clear HS HE HF
        subst hac
        go_wp2
        go_ret
        exact ⟨by rw [HV.out]; rfl, hbw⟩
      · have he : acc.isEmpty = false := by simpa using he
        have hl : 0 < acc.length := by cases acc <;> simp_all
        obtain ⟨c, hc⟩ : ∃ c, (⟨acc.toArray⟩ : ByteArray)[0]'(by simpa [ByteArray.size] using hl) = c := ⟨_, rfl⟩
        have hcl := UInt8.toNat_lt c
        have hdg : digC c.toNat = decide (c.toNat ≤ 57) := by
          have h := HH.out c (by
            rw [← HE.out]
            cases acc with
            | nil => simp at hl
            | cons a l => rw [← hc]; rfl)
          unfold HeadOk at h
          simp [lowLetC, digC, inR] at h ⊢
          omega
        obtain ⟨Y, hY⟩ : ∃ Y : List UInt8, Y = if digC c.toNat then 115 :: 45 :: acc else acc := ⟨_, rfl⟩
        have HV : Hid (V = ⟨(cutL54 Y).toArray⟩) := by
          show V = _
          rw [HS.out, ← HE.out, hY]
          cases acc with
          | nil => simp at hl
          | cons a l =>
            have : c = a := by rw [← hc]; rfl
            rw [this]; rfl
        rw [hdg] at hY
        have HY := Lib.hid hY
        have hYl : Y.length ≤ acc.length + 2 := by rw [hY]; split <;> simp
        clear hY HS HE HF hdg
        go_upto_if 60 with (fail)
        go_cut [7] (fun s7 wx => s7 = .string ⟨Y.toArray⟩ ∧ wr = wx)
        case first =>
          by_cases h57 : c.toNat ≤ 57
          · have HY2 : Hid (Y = 115 :: 45 :: acc) := by rw [HY.out, if_pos (by simpa using h57)]; exact rfl
            go_wp2_with fail
            go_meet
            refine ⟨?_, rfl⟩
            rw [HY2.out]
            congr 1
          · have HY2 : Hid (Y = acc) := by rw [HY.out, if_neg (by simpa using h57)]; exact rfl
            go_wp2_with fail
            go_meet
            exact ⟨by rw [HY2.out], rfl⟩
        case rest =>
          obtain ⟨rfl, rfl⟩ := hcut
          clear HY hc
          by_cases h54 : 54 < Y.length
          · go_upto_region 22 with (fail)
            obtain ⟨x, hx⟩ : ∃ x, x = (⟨Y.toArray⟩ : ByteArray).extract 0 54 := ⟨_, rfl⟩
            rw [← hx]
            have hxd : x.data.toList = Y.take 54 := by rw [hx, Lib.extract_data]; simp
            have hxs : x.size = 54 := by rw [Lib.size_eq, hxd]; simp; omega
            have HXD := Lib.hid hxd
            obtain ⟨z, hz⟩ : ∃ z, x[53]'(by omega) = z := ⟨_, rfl⟩
            have hzl := UInt8.toNat_lt z
            have hlast : (Y.take 54).getLast? = some z := by
              rw [← hxd, List.getLast?_eq_getElem?, ← Lib.size_eq, hxs, ← hz]
              simp [hxs]
              rfl
            have HV2 : Hid (cutL54 Y = if z = 45 then (Y.take 54).dropLast else Y.take 54) := by
              show cutL54 Y = _
              unfold cutL54
              rw [if_pos h54, hlast]
              simp
            clear hx hxd hlast
            by_cases hz45 : z = 45
            · have e1 : ((z.toNat : Int) == 45) = true := by rw [hz45]; rfl
              have HZ := Lib.hid hz45
              clear hz45
              go_wp2
              go_ret
              refine ⟨?_, hbw⟩
              rw [HV.out, HV2.out, if_pos HZ.out]
              have e : x.extract 0 53 = ⟨((Y.take 54).dropLast).toArray⟩ := by
                apply ByteArray.ext
                apply Array.toList_inj.1
                rw [Lib.extract_data, HXD.out]
                simp [List.dropLast_eq_take]
                omega
              rw [← e]
              rfl
            · have e1 : ((z.toNat : Int) == 45) = false := by
                rw [beq_eq_false_iff_ne]
                intro h
                exact hz45 (UInt8.toNat_inj.1 (by show z.toNat = 45; omega))
              have HZ := Lib.hid hz45
              clear hz45
              go_wp2
              go_ret
              refine ⟨?_, hbw⟩
              rw [HV.out, HV2.out, if_neg HZ.out]
              have e : x = ⟨(Y.take 54).toArray⟩ := by
                apply ByteArray.ext
                apply Array.toList_inj.1
                rw [HXD.out]
              rw [← e]
              rfl
          · go_wp2
            go_ret
            refine ⟨?_, hbw⟩
            rw [HV.out]
            unfold cutL54
            rw [if_neg h54]
            rfl
end Go.Proofs.YtjolhiofllpejaaDoor
