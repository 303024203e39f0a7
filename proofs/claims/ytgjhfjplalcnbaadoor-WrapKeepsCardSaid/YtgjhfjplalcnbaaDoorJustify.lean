/- Contracts of wrap.Justify and publisherref38.Justify: the plain justified line. -/
import Derived.Test.YtgjhfjplalcnbaaDoorJoined
import Derived.Test.YtgjhfjplalcnbaaDoorBuilder
import Derived.Test.YtgjhfjplalcnbaaDoorWords
namespace Go.Proofs.YtgjhfjplalcnbaaDoor
open Go.RowKit
set_option linter.unusedVariables false

theorem gapJ_of (k n : Nat) : gapJ k n = gapOf (1 + k / n) (k % n) := by
  funext i; unfold gapJ gapOf; split <;> rfl
theorem jB_size_le (g : Nat → Nat) (M : Nat) (hg : ∀ i, g i ≤ M) (s : ByteArray) (hs : s.size ≤ 400) : (jB g (words38 s)).size ≤ 401 * (M + 400) := by
  have h := jB_size g M 400 hg (words38 s) 0 (fun x hx => Nat.le_trans (words_size s x hx) hs)
  have h2 := words_len s
  have h3 : (jB g (words38 s)).size = (jrec g 0 (words38 s)).length := by simp [jB, ByteArray.size]
  rw [h3]
  exact Nat.le_trans h (Nat.mul_le_mul_right _ (by omega))
theorem gapJ_le (k n M : Nat) (h : k ≤ M) (i : Nat) : gapJ k n i ≤ M + 2 := by
  have := Nat.div_le_self k n
  unfold gapJ; split <;> omega
theorem addJ_le (wd : Int) (y : Nat) (h : wd ≤ 40000) : addJ wd y ≤ 1400 := by
  unfold addJ; split <;> omega

/-- A builder stays one while blocks are made behind it. -/
theorem bd_below {T e : TypeId} {B b : Nat} {p : Value} {bs : List Value} {w w' : World} (h : Lib.BuilderAt T e B b p bs w) (hb : Below w.heap.size w w') : Lib.BuilderAt T e B b p bs w' := by
  obtain ⟨h1, v, h2, h3, h4⟩ := h
  have hlt : b < w.heap.size := (Array.getElem?_eq_some_iff.1 h2).1
  exact ⟨h1, v, by rw [hb.block b hlt]; exact h2, own_below h3 hb, h4⟩

/-- The bytes of a builder in which i words have been written. -/
def bdOf (g : Nat → Nat) (l : List ByteArray) (i : Nat) : List Value := Lib.byteCells (jrec g 0 (l.take i))

theorem bd_first (g : Nat → Nat) (l : List ByteArray) (x : ByteArray) (h : l[0]? = some x) : bdOf g l 0 ++ Lib.strCells x = bdOf g l 1 := by
  have ht : l.take 1 = [x] := by rw [List.take_add_one, h]; rfl
  unfold bdOf
  rw [ht]
  simp [jrec, Lib.byteCells, Lib.strCells]
theorem bd_next (g : Nat → Nat) (l : List ByteArray) (i : Nat) (x : ByteArray) (hi : 0 < i) (h : l[i]? = some x) : (bdOf g l i ++ Lib.strCells (spacesB (g i))) ++ Lib.strCells x = bdOf g l (i + 1) := by
  have hl : i < l.length := (List.getElem?_eq_some_iff.1 h).1
  have ht : l.take (i + 1) = l.take i ++ [x] := by rw [List.take_add_one, h]; rfl
  have hlen : (l.take i).length = i := by simp; omega
  unfold bdOf
  rw [ht, jrec_snoc, hlen, if_neg (by omega)]
  simp [Lib.byteCells, Lib.strCells, spacesB]
theorem bd_len (g : Nat → Nat) (l : List ByteArray) (i : Nat) : (bdOf g l i).length ≤ (jB g l).size := by
  have h := jB_take_le g l i
  have : (bdOf g l i).length = (jB g (l.take i)).size := by simp [bdOf, Lib.byteCells, jB, ByteArray.size]
  omega

set_option maxRecDepth 100000 in
set_option maxHeartbeats 1000000 in
theorem justify_any (s : ByteArray) (wd : Int) (w : World) (hs : s.size ≤ 400) (hwd : wd ≤ 40000) (hlo : -9223372036854775808 ≤ wd) (ht : TabAt w) :
    Calls Tryd.prog 13 #[.string s, .int .i64 wd] w fun e w' => e = .returned (.string (justS s wd wideS)) ∧ Below w.heap.size w w' := by
  have hmin : min wd 1048576 = wd := by omega
  have hwl := words_len s
  have hws := words_size s
  have hj1 := jB_size_le (fun _ => 1) 1 (fun _ => Nat.le_refl _) s hs
  have hj2 := fun k n (hk : k ≤ 1400) => jB_size_le (gapJ k n) 1402 (gapJ_le k n 1400 hk) s hs
  have W0 := Lib.hid (words_any s w (by omega))
  obtain ⟨V, hV⟩ : ∃ V, V = justS s wd wideS := ⟨_, rfl⟩
  rw [← hV]
  unfold justS at hV
  have HV := Lib.hid hV
  have HT := Lib.hid ht
  have HWS := Lib.hid hws
  have HJ2 := Lib.hid hj2
  clear hV ht hws hj2
  generalize words38 s = l at *
  go_enter Tryd.func13, Tryd.ntmps13
  go_wp2_with fail
  refine W0.out.mono ?_
  rintro e w1 ⟨v, rfl, hown, hb1⟩
  have hse := Sees.of_own hown
  clear hown W0
  obtain ⟨-, a, cap, rfl, p1, p2, p3⟩ := hse
  unfold maxLen at p2
  by_cases hl2 : l.length < 2
  · have hV2 : V = jB (fun _ => 1) l := by rw [HV.out, if_pos hl2]
    have HV2 := Lib.hid hV2
    have e1 : decide ((l.length : Int) - 1 < 1) = true := by simp; omega
    clear hV2 HV
    rcases Nat.eq_zero_or_pos l.length with h0 | hpos
    · obtain rfl := List.length_eq_zero_iff.1 h0
      clear p3
      go_wp2_with fail
      refine (Tryd.strings_Join_none a cap _ w1).mono ?_
      rintro e w2 ⟨rfl, rfl⟩
      go_wp2
      go_ret
      exact ⟨by rw [HV2.out]; rfl, hb1⟩
    · rcases p3 with p3 | ⟨b, off, rfl, p3⟩
      · omega
      obtain ⟨x, rfl⟩ : ∃ x, l = [x] := by
        match l, hpos, hl2 with
        | [x], _, _ => exact ⟨x, rfl⟩
      have hcells : ∀ (j : Nat) y, [x][j]? = some y → w1.cell? ⟨b, off + j, none⟩ = some (.string y) := fun j y hy => p3 j _ (by rw [List.getElem?_map, hy]; rfl)
      have hxs := HWS.out x (by simp)
      have J := Lib.hid (Tryd.strings_Join b off cap [x] ⟨#[]⟩ w1 hcells (cell_lt (hcells 0 x rfl)) (by simp) (by simpa using p1) (by rw [List.map_cons, List.map_nil, Lib.join_one]; exact Nat.le_trans (Nat.le_of_eq Array.length_toList) (Nat.le_trans hxs (by omega))))
      rw [show (⟨(Lib.join (List.map (fun y => y.data.toList) [x]) (ByteArray.mk #[]).data.toList).toArray⟩ : ByteArray) = x from by rw [List.map_cons, List.map_nil, Lib.join_one]] at J
      clear p3 hcells
      go_wp2_with fail
      refine J.out.mono ?_
      rintro e w2 ⟨rfl, hb2⟩
      go_wp2
      go_ret
      refine ⟨?_, below_trans_size hb1 hb2⟩
      rw [HV2.out]
      show _ = Ending.returned (.string (jB (fun _ => 1) [x]))
      rw [show jB (fun _ => 1) [x] = x from by unfold jB; simp [jrec]]
      rfl
  · rcases p3 with p3 | ⟨b, off, rfl, p3⟩
    · omega
    have hcells : ∀ (j : Nat) y, l[j]? = some y → w1.cell? ⟨b, off + j, none⟩ = some (.string y) := fun j y hy => p3 j _ (by simp [hy])
    have hbl : b < w1.heap.size := cell_lt (hcells 0 _ (List.getElem?_eq_getElem (by omega)))
    have HC := Lib.hid hcells
    have hV2 : V = jB (gapJ (addJ wd (wideS (jB (fun _ => 1) l))) (l.length - 1)) l := by rw [HV.out, if_neg hl2]
    have e1 : decide ((l.length : Int) - 1 < 1) = false := by simp; omega
    have W1 := Lib.hid (wideS_any ⟨#[32]⟩ w1 (by decide) (HT.out.below hb1))
    rw [wide_sp] at W1
    clear p3 hcells HV
    go_wp2_with fail
    refine W1.out.mono ?_
    rintro e w2 ⟨rfl, hb2⟩
    have hc2 : ∀ (j : Nat) y, l[j]? = some y → w2.cell? ⟨b, off + j, none⟩ = some (.string y) := fun j y hy => by rw [hb2.cell (p := ⟨b, off + j, none⟩) hbl]; exact HC.out j y hy
    have hbl2 : b < w2.heap.size := Nat.lt_of_lt_of_le hbl hb2.size
    have J := Lib.hid (Tryd.strings_Join b off cap l ⟨#[32]⟩ w2 hc2 hbl2 (by omega) p1 (by
      have h := join_jB l
      have h2 : (Lib.join (l.map (·.data.toList)) [32]).length = (jB (fun _ => 1) l).size := by rw [← h]; simp [ByteArray.size]
      show (Lib.join (l.map (·.data.toList)) [32]).length ≤ _
      omega))
    rw [show (ByteArray.mk #[32]).data.toList = [32] from rfl, join_jB] at J
    clear W1 hc2
    go_wp2_with fail
    refine J.out.mono ?_
    rintro e w3 ⟨rfl, hb3⟩
    have hb13 := below_trans_size hb2 hb3
    have W3 := Lib.hid (wideS_any (jB (fun _ => 1) l) w3 (by omega) ((HT.out.below hb1).below hb13))
    have hyb := wideS_le (jB (fun _ => 1) l)
    generalize wideS (jB (fun _ => 1) l) = y at *
    clear J
    go_wp2_with fail
    refine W3.out.mono ?_
    rintro e w4 ⟨rfl, hb4⟩
    have hb14 := below_trans_size hb13 hb4
    clear W3
    obtain ⟨K, hK⟩ : ∃ K, K = addJ wd y := ⟨_, rfl⟩
    have hKb : K ≤ 1400 := by rw [hK]; exact addJ_le wd y hwd
    rw [← hK] at hV2
    have HK := Lib.hid hK
    have HV2 := Lib.hid hV2
    clear hK hV2
    go_upto_if 35 with (fail)
    go_cut [9] (fun s9 wx => s9 = .int .i64 K ∧ w4 = wx)
    case first =>
      by_cases hyw : (y : Int) < wd
      · have e2 : decide ((y : Int) < wd) = true := by simpa using hyw
        have h0 : 0 ≤ wd - y := by omega
        go_wp2_with fail
        go_meet
        refine ⟨?_, rfl⟩
        have := HK.out
        unfold addJ at this
        rw [if_pos hyw] at this
        rw [this, Int.toNat_of_nonneg (by omega)]
      · have e2 : decide ((y : Int) < wd) = false := by simpa using hyw
        go_wp2_with fail
        go_meet
        refine ⟨?_, rfl⟩
        have := HK.out
        unfold addJ at this
        rw [if_neg (by omega)] at this
        rw [this]; rfl
    case rest =>
      obtain ⟨rfl, rfl⟩ := hcut
      obtain ⟨n, hn⟩ : ∃ n, n = l.length - 1 := ⟨_, rfl⟩
      have hn2 : (l.length : Int) - 1 = (n : Int) := by omega
      have hn1 : 1 ≤ n := by omega
      rw [← hn] at HV2
      have HN := Lib.hid hn
      have hsz := HJ2.out K n hKb
      have hgl := gapJ_le K n 1400 hKb
      have hgf : ∀ i, gapJ K n i = if i ≤ K % n then 1 + K / n + 1 else 1 + K / n := fun i => rfl
      have HG := Lib.hid hgl
      have HGF := Lib.hid hgf
      have hdv := Nat.div_le_self K n
      have hmd := Nat.mod_lt K (show n > 0 by omega)
      generalize hgg : gapJ K n = g at *
      clear hn hgl hgf hgg HK HJ2
      obtain ⟨Q, hQ⟩ : ∃ Q, Q = K / n := ⟨_, rfl⟩
      obtain ⟨R, hR⟩ : ∃ R, R = K % n := ⟨_, rfl⟩
      have hq : (K : Int) / (n : Int) = (Q : Int) := by rw [hQ]; rfl
      have hr : (K : Int) % (n : Int) = (R : Int) := by rw [hR]; rfl
      rw [← hQ] at hdv
      rw [← hR] at hmd
      rw [← hQ, ← hR] at HGF
      clear hQ hR
      rw [hn2]
      have hbd := Lib.hid (bd_len g l)
      have hnx := Lib.hid (bd_next g l)
      have hft := Lib.hid (bd_first g l)
      have hB := Lib.fresh_isBuilder 41 5 w4
      have HB := Lib.hid hB
      have HC4 : Hid (∀ (j : Nat) y, l[j]? = some y → w4.cell? ⟨b, off + j, none⟩ = some (.string y)) := fun j y hy => by rw [hb14.cell (p := ⟨b, off + j, none⟩) hbl]; exact HC.out j y hy
      have hbl4 : b < w4.heap.size := Nat.lt_of_lt_of_le hbl hb14.size
      clear hB hn2
      go_wp2
      go_loopw [43] (fun i wr => ∃ k : Nat, k ≤ l.length ∧ i = .int .i64 k ∧ Lib.IsBuilder 41 5 w4.heap.size w4.heap.size (bdOf g l k) wr ∧ Below w4.heap.size w4 wr) (fun i _ => l.length - (intOf i).toNat)
      case atStart => exact ⟨0, Nat.zero_le _, rfl, HB.out, (Below.refl _ _).alloc (Nat.le_refl _) _⟩
      case round =>
        obtain ⟨k, hk, rfl, hI, hbel⟩ := hrel
        have HI := Lib.hid hI
        have hsz4 := hbel.size
        clear hI
        by_cases hlt : k < l.length
        · obtain ⟨x, hx⟩ : ∃ x, l[k]? = some x := ⟨_, List.getElem?_eq_getElem hlt⟩
          have c0 : wr.cell? ⟨b, off + k, none⟩ = some (.string x) := by rw [hbel.cell (p := ⟨b, off + k, none⟩) hbl4]; exact HC4.out k x hx
          have hxs := HWS.out x (List.mem_of_getElem? hx)
          have hbk := hbd.out k
          by_cases hk0 : k = 0
          · have HW : Hid (bdOf g l k ++ Lib.strCells x = bdOf g l (k + 1)) := by
              show bdOf g l k ++ Lib.strCells x = bdOf g l (k + 1)
              rw [hk0] at hx ⊢
              exact hft.out x hx
            have WS := Lib.hid (fun w' h1 h2 => writeString_any w4.heap.size w4.heap.size (bdOf g l k) x w' h1 (by omega) h2)
            have e1 : decide ((0 : Int) < (k : Int)) = false := by simp; omega
            have e2 : decide (0 < k) = false := by simp; omega
            have HK0 := Lib.hid hk0
            clear hk0 hx
            go_wp2_with fail
            refine (WS.out _ HI.out hsz4).mono ?_
            rintro e w5 ⟨rfl, h5, hb5⟩
            rw [HW.out] at h5
            have H5 := Lib.hid h5
            clear h5 WS HW
            go_wp2
            go_roundw
            case rel => exact ⟨k + 1, by omega, by go_num, .inr H5.out, hbel.trans hb5⟩
            case measure => simp [intOf]; omega
          · obtain ⟨G, hG⟩ : ∃ G, G = g k := ⟨_, rfl⟩
            have hGb : G ≤ 1402 := by rw [hG]; exact HG.out k
            have hGf := HGF.out k
            rw [← hG] at hGf
            have HW : Hid ((bdOf g l k ++ Lib.strCells (spacesB G)) ++ Lib.strCells x = bdOf g l (k + 1)) := by
              show (bdOf g l k ++ Lib.strCells (spacesB G)) ++ Lib.strCells x = bdOf g l (k + 1)
              rw [hG]; exact hnx.out k x (by omega) hx
            have HGf := Lib.hid hGf
            have RP := Lib.hid (fun w' => Tryd.strings_Repeat ⟨#[32]⟩ G w' (by omega) (by show 1 * G ≤ _; omega))
            rw [show (ByteArray.mk #[32]).data.toList = [32] from rfl, repeat_sp] at RP
            have WS := Lib.hid (fun w' h1 h2 => writeString_any w4.heap.size w4.heap.size (bdOf g l k) (spacesB G) w' h1 (by rw [spacesB_size]; omega) h2)
            have WT := Lib.hid (fun w' h1 h2 => writeString_any w4.heap.size w4.heap.size (bdOf g l k ++ Lib.strCells (spacesB G)) x w' h1 (by rw [List.length_append, Lib.strCells_length, spacesB_size]; omega) h2)
            have e1 : decide ((0 : Int) < (k : Int)) = true := by simp; omega
            have e2 : decide (0 < k) = true := by simp; omega
            have hk1 : 0 < k := by omega
            clear hG hGf hx hk0
            go_upto_if 58 with (fail)
            go_cut [13] (fun s13 wx => s13 = .int .i64 G ∧ wr = wx)
            case first =>
              by_cases hkr : k ≤ R
              · have e3 : decide ((k : Int) ≤ (R : Int)) = true := by simp; omega
                go_wp2_with fail
                go_meet
                refine ⟨?_, rfl⟩
                have := HGf.out
                rw [if_pos hkr] at this
                rw [this]; go_num
              · have e3 : decide ((k : Int) ≤ (R : Int)) = false := by simp; omega
                go_wp2_with fail
                go_meet
                refine ⟨?_, rfl⟩
                have := HGf.out
                rw [if_neg hkr] at this
                rw [this]; go_num
            case rest =>
              obtain ⟨rfl, rfl⟩ := hcut
              go_wp2_with fail
              refine (RP.out _).mono ?_
              rintro e w5 ⟨rfl, hb5⟩
              have hI5 : Lib.IsBuilder 41 5 w4.heap.size w4.heap.size (bdOf g l k) w5 := by
                rcases HI.out with h | h
                · exact .inl (bd_below h hb5)
                · exact .inr (bd_below h hb5)
              have HI5 := Lib.hid hI5
              have hsz5 := hb5.size
              clear hI5
              go_wp2_with fail
              refine (WS.out _ HI5.out (by omega)).mono ?_
              rintro e w6 ⟨rfl, h6, hb6⟩
              have HI6 : Hid (Lib.IsBuilder 41 5 w4.heap.size w4.heap.size (bdOf g l k ++ Lib.strCells (spacesB G)) w6) := .inr h6
              have hsz6 := hb6.size
              have hbel6 : Below w4.heap.size w4 w6 := (hbel.trans (hb5.mono hsz4)).trans hb6
              clear h6
              go_wp2_with fail
              refine (WT.out _ HI6.out (by omega)).mono ?_
              rintro e w7 ⟨rfl, h7, hb7⟩
              rw [HW.out] at h7
              have H7 := Lib.hid h7
              clear h7 WS WT RP HW
              go_wp2
              go_roundw
              case rel => exact ⟨k + 1, by omega, by go_num, .inr H7.out, hbel6.trans hb7⟩
              case measure => simp [intOf]; omega
        · have hkl : k = l.length := by omega
          have HB9 : Hid (bdOf g l k = Lib.byteCells (jrec g 0 l)) := by
            show bdOf g l k = _
            unfold bdOf; rw [hkl, List.take_length]
          have hI9 := HI.out
          rw [HB9.out] at hI9
          have SS := Lib.hid (Tryd.Builder_String_any w4.heap.size w4.heap.size (jrec g 0 l) wr hI9 hsz4)
          clear hI9 hkl
          go_wp2_with fail
          refine SS.out.mono ?_
          rintro e w8 ⟨rfl, hb8⟩
          go_wp2
          go_ret
          refine ⟨?_, ?_⟩
          · rw [HV2.out]; rfl
          · exact below_trans_size hb1 (below_trans_size hb14 (hbel.trans hb8))
end Go.Proofs.YtgjhfjplalcnbaaDoor
