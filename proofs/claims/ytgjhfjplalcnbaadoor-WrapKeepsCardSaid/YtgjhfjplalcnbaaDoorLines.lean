/- The contract of wrap.Lines at strings of at most 400 bytes. -/
import Derived.Test.YtgjhfjplalcnbaaDoorPlLines
import Derived.Test.YtgjhfjplalcnbaaDoorJoined
import Derived.Test.YtgjhfjplalcnbaaDoorWords
import Derived.Test.YtgjhfjplalcnbaaDoorBreakAll
import Derived.WalkSpells
namespace Go.Proofs.YtgjhfjplalcnbaaDoor
open Go.RowKit
set_option linter.unusedVariables false

/-- What both Lines return: the lines, or the error for a width out of range. -/
def LnPost (w : World) (s : ByteArray) (wd : Int) (e : Ending) (w' : World) : Prop :=
  ∃ v, e = .returned (.tuple #[v, .int .i64 0]) ∧ w'.ownsRow w.heap.size 9 1 v (cutL (words38 s) (brFirst (wsOf (words38 s)) 30 wd)).length ((cutL (words38 s) (brFirst (wsOf (words38 s)) 30 wd)).map Value.string) ∧ Below w.heap.size w w'
def LnNo (w : World) (e : Ending) (w' : World) : Prop := e = .returned (.tuple #[.slice none 0 0, .int .i64 9]) ∧ Below w.heap.size w w'

theorem lines_bad (w : World) (s : ByteArray) (wd : Int) (h : wd < 1 ∨ 1048576 < wd) :
    Calls Tryd.prog 8 #[.string s, .int .i64 wd] w (LnNo w) := by
  by_cases h1 : wd < 1
  · have e1 : decide (wd < 1) = true := by simpa using h1
    go_enter Tryd.func8, Tryd.ntmps8
    go_wp2
    go_ret2
    exact ⟨rfl, Below.refl _ _⟩
  · have e1 : decide (wd < 1) = false := by simpa using h1
    have h2 : 1048576 < wd := by omega
    have e2 : decide (1048576 < wd) = true := by simpa using h2
    go_enter Tryd.func8, Tryd.ntmps8
    go_wp2
    go_ret2
    exact ⟨rfl, Below.refl _ _⟩

/-- The widths of the first k words; 0 behind them. -/
def wdTo (l : List ByteArray) (k : Nat) : Nat → Int := fun j => if j < k then (wideS (l.getD j ByteArray.empty) : Int) else 0
theorem wdTo_set (l : List ByteArray) (k : Nat) (x : ByteArray) (h : l[k]? = some x) : (fun i => if i = k then (wideS x : Int) else wdTo l k i) = wdTo l (k + 1) := by
  funext i
  unfold wdTo
  by_cases e : i = k
  · subst e
    rw [if_pos rfl, if_pos (by omega), List.getD_eq_getElem?_getD, h]; rfl
  · rw [if_neg e]
    by_cases e2 : i < k
    · rw [if_pos e2, if_pos (by omega)]
    · rw [if_neg e2, if_neg (by omega)]
theorem wdTo_all (l : List ByteArray) : icells (wdTo l l.length) l.length = IntsOf (wsOf l) := by
  apply List.ext_getElem?
  intro i
  by_cases hi : i < l.length
  · rw [icells_get _ _ _ hi]
    unfold IntsOf wsOf wdTo
    rw [if_pos hi, List.getElem?_map, List.getElem?_map, List.getD_eq_getElem?_getD, List.getElem?_eq_getElem hi]; rfl
  · rw [List.getElem?_eq_none (by simp [icells_len]; omega), List.getElem?_eq_none (by simp [IntsOf, wsOf]; omega)]

/-- At the head of each round of the loop that measures the words. -/
def MRel (w1 wr : World) (l : List ByteArray) (vi : Value) : Prop :=
  ∃ k : Nat, k ≤ l.length ∧ vi = .int .i64 k ∧ wr.ownsRow w1.heap.size 3 1 (.slice (some ⟨w1.heap.size, 0, none⟩) l.length l.length) l.length (icells (wdTo l k) l.length) ∧ Below w1.heap.size w1 wr
/-- At the head of each round of the loop that makes the lines. -/
def LRel (w2 wr : World) (l : List ByteArray) (F : List Int) (v vi : Value) : Prop :=
  ∃ k : Nat, k ≤ F.length ∧ vi = .int .i64 k ∧ wr.ownsRow w2.heap.size 9 1 v (cutTo l F k).length ((cutTo l F k).map Value.string) ∧ Below w2.heap.size w2 wr

set_option maxRecDepth 100000 in
set_option maxHeartbeats 2000000 in
theorem lines_ok (w : World) (s : ByteArray) (wd : Int) (hs : s.size ≤ 400) (hd0 : 1 ≤ wd) (hd1 : wd ≤ 1048576) (ht : TabAt w) :
    Calls Tryd.prog 8 #[.string s, .int .i64 wd] w (LnPost w s wd) := by
  obtain ⟨iI, hiI, hzI0, hzI1, hzI2⟩ := info_parts infoI
  obtain ⟨iS, hiS, hzS0, hzS1, hzS2⟩ := info_parts infoS
  have hwl := words_len s
  have HWS := Lib.hid (words_size s)
  have W0 := Lib.hid (words_any s w (by omega))
  have HT := Lib.hid ht
  have hpost : LnPost w s wd = fun e w' => ∃ v, e = .returned (.tuple #[v, .int .i64 0]) ∧ w'.ownsRow w.heap.size 9 1 v (cutL (words38 s) (brFirst (wsOf (words38 s)) 30 wd)).length ((cutL (words38 s) (brFirst (wsOf (words38 s)) 30 wd)).map Value.string) ∧ Below w.heap.size w w' := rfl
  have hFok := fok_br (words38 s) 30 wd (by omega) hd1
  have hok : BrOk (wsOf (words38 s)) 30 wd := ⟨⟨hd0, hd1⟩, by omega, wsOf_ok _ s.size (by omega) (words_size s)⟩
  have BR := Lib.hid (fun w2 vw hs => break_all w2 vw (wsOf (words38 s)) 30 wd hs (by rw [wsOf_len]; omega))
  rw [hpost]
  have HFOK := Lib.hid hFok
  have HOK := Lib.hid hok
  clear ht hpost hFok hok
  generalize words38 s = l at *
  go_enter Tryd.func8, Tryd.ntmps8
  go_wp2_with fail
  refine W0.out.mono ?_
  rintro e w1 ⟨v, rfl, hown, hb1⟩
  have hse := Sees.of_own hown
  clear hown W0
  obtain ⟨-, a, cap, rfl, p1, p2, p3⟩ := hse
  unfold maxLen at p2
  have e1 : decide ((4096 : Int) < (l.length : Int)) = false := by simp; omega
  have hT1 := HT.out.below hb1
  have HT1 := Lib.hid hT1
  clear hT1 HT
  rcases Nat.eq_zero_or_pos l.length with h0 | hpos
  · obtain rfl := List.length_eq_zero_iff.1 h0
    have hmk : ∀ w : World, (Instr.makeSlice 33 (.int .i64 0) (.int .i64 0)).run Tryd.prog w = .ok (.slice (some ⟨w.heap.size, 0, none⟩) 0 0) (w.alloc (.cells #[] 3)) := fun _ => by kernel_rfl
    clear p3
    go_wp2
    refine wp_loop_rounds 1 ?_
    rw [rounds_succ]
    go_wp2_with fail
    refine (wideS_any ⟨#[32]⟩ _ (by decide) (HT1.out.below ((Below.refl _ _).alloc (Nat.le_refl _) _))).mono ?_
    rintro e w2 ⟨rfl, hb2⟩
    rw [wide_sp]
    go_wp2_with fail
    refine (BR.out _ _ ⟨rfl, _, _, rfl, Nat.le_refl _, Nat.zero_le _, .inl rfl⟩).mono ?_
    rintro e w3 (⟨-, v3, rfl, hown3, hb3⟩ | ⟨hno, -⟩)
    · have s3 := Sees.of_own hown3
      obtain ⟨-, a3, cap3, rfl, q1, q2, -⟩ := s3
      have hb13 : Below w.heap.size w w3 := below_trans_size (below_trans_size (hb1.alloc hb1.size _) hb2) hb3
      clear hown3
      go_wp2
      refine wp_loop_rounds 1 ?_
      rw [rounds_succ]
      go_wp2
      go_ret2
      exact ⟨.slice none 0 0, rfl, ⟨rfl, .inl ⟨rfl, rfl⟩⟩, hb13⟩
    · exact absurd HOK.out hno
  · rcases p3 with p3 | ⟨b, off, rfl, p3⟩
    · omega
    have hcells : ∀ (j : Nat) y, l[j]? = some y → w1.cell? ⟨b, off + j, none⟩ = some (.string y) := fun j y hy => p3 j _ (by simp [hy])
    have hbl : b < w1.heap.size := cell_lt (hcells 0 _ (List.getElem?_eq_getElem hpos))
    have HC := Lib.hid hcells
    clear p3 hcells
    go_wp2_with (at_make; refine wpList_make_full _ rfl _ _ 33 rfl w1.heap.size 3 iI _ 1 Tryd.underlying33 hiI hzI0 hzI1 .i64 .i64 _ _ l.length rfl rfl rfl rfl ?m3 ?m4 ?m5 ?_)
    case m3 => rw [hzI2]; omega
    case m4 => unfold maxLen; omega
    case m5 => exact Nat.le_refl _
    intro w2 hown2 hgr2
    have hb2 : Below w1.heap.size w1 w2 := (Below.refl _ _).grown hgr2 (Nat.le_refl _) (by simp)
    have hmade : (madeCells #[Value.int .i64 0] l.length).toList = icells (wdTo l 0) l.length := by
      have e := made1 l.length
      rw [show (Value.int .i64 0).cells = #[Value.int .i64 0] from rfl, Nat.mul_one] at e
      rw [e]
      rfl
    rw [hmade] at hown2
    have HO2 := Lib.hid hown2
    clear hown2 hgr2 hmade
    go_wp2
    go_loopw [33] (fun vi wr => MRel w1 wr l vi) (fun i _ => l.length - (intOf i).toNat)
    case atStart => exact ⟨0, Nat.zero_le _, rfl, HO2.out, hb2⟩
    case round =>
      obtain ⟨k, hk, rfl, hown3, hbel3⟩ := hrel
      have HO3 := Lib.hid hown3
      clear hown3
      by_cases hlt : k < l.length
      · obtain ⟨x, hx⟩ : ∃ x, l[k]? = some x := ⟨_, List.getElem?_eq_getElem hlt⟩
        have c0 : wr.cell? ⟨b, off + k, none⟩ = some (.string x) := by rw [hbel3.cell (p := ⟨b, off + k, none⟩) hbl]; exact HC.out k x hx
        have hxs := HWS.out x (List.mem_of_getElem? hx)
        have hwx := wideS_le x
        have hst := wdTo_set l k x hx
        have HST := Lib.hid hst
        have WX := Lib.hid (wideS_any x wr (by omega) (HT1.out.below hbel3))
        generalize wideS x = y at *
        clear hx hst
        go_wp2_with fail
        refine WX.out.mono ?_
        rintro e w4 ⟨rfl, hb4⟩
        have hown4 := own_below HO3.out hb4
        have fz := hown4.frozenAt k
        have fc := hown4.cellAt k (by omega)
        rw [icells_get _ _ _ hlt] at fc
        have HO4 := Lib.hid hown4
        have hbel4 : Below w1.heap.size w1 w4 := below_trans_size hbel3 hb4
        have e5 : decide ((1048576 : Int) < (y : Int)) = false := by simp; omega
        clear hown4 WX
        go_wp2
        go_roundw
        case rel =>
          obtain ⟨h1, h2⟩ := HO4.out.stored k (.int .i64 y)
          rw [icells_set _ _ _ hlt, HST.out] at h1
          exact ⟨k + 1, by omega, by go_num, h1, hbel4.setCell (Nat.le_refl _) _⟩
        case measure => simp [intOf]; omega
      · have hkl : k = l.length := by omega
        have hO5 := HO3.out
        rw [hkl, wdTo_all] at hO5
        have HO5 := Lib.hid hO5
        clear hO5 HO3 hkl
        have W1 := Lib.hid (wideS_any ⟨#[32]⟩ wr (by decide) (HT1.out.below hbel3))
        rw [wide_sp] at W1
        go_wp2_with fail
        refine W1.out.mono ?_
        rintro e w5 ⟨rfl, hb5⟩
        have hbel5 := below_trans_size hbel3 hb5
        have hse := (Sees.of_own HO5.out).below hb5
        have B5 := Lib.hid (BR.out w5 (.slice (some ⟨w1.heap.size, 0, none⟩) l.length l.length) (by rw [wsOf_len]; exact hse))
        clear W1 hse
        go_wp2_with fail
        refine B5.out.mono ?_
        rintro e w6 (⟨-, v6, rfl, hown6, hb6⟩ | ⟨hno, -⟩)
        · have hse6 := Sees.of_own hown6
          have hbel6 := below_trans_size hbel5 hb6
          clear hown6 B5 BR HOK
          generalize hFF : brFirst (wsOf l) 30 wd = F at *
          have HFF := Lib.hid hFF
          clear hFF
          generalize brCost (wsOf l) 30 wd = C at *
          obtain ⟨-, aF, capF, rfl, pF1, pF2, pF3⟩ := hse6
          unfold maxLen at pF2
          have hFl := HFOK.out.len
          have hFp : 0 < F.length := by
            have hz := HFOK.out.z hpos
            cases F with
            | nil => simp at hz
            | cons _ _ => simp
          rcases pF3 with pF3 | ⟨bF, oF, rfl, pF3⟩
          · omega
          have hFc : ∀ j x, F[j]? = some x → w6.cell? ⟨bF, oF + j, none⟩ = some (.int .i64 x) := fun j x hx => pF3 j _ (by simp [hx])
          have hbF : bF < w6.heap.size := cell_lt (hFc 0 _ (List.getElem?_eq_getElem hFp))
          have HFC := Lib.hid hFc
          have hb06 := below_trans_size hb1 hbel6
          have HC6 : Hid (∀ (j : Nat) y, l[j]? = some y → w6.cell? ⟨b, off + j, none⟩ = some (.string y)) := fun j y hy => by rw [hbel6.cell (p := ⟨b, off + j, none⟩) hbl]; exact HC.out j y hy
          have hbl6 : b < w6.heap.size := Nat.lt_of_lt_of_le hbl hbel6.size
          clear pF3 hFc HC HO5 HO2 HT1
          go_wp2
          obtain ⟨wo, hwo⟩ : ∃ wo : World, wo = wr := ⟨_, rfl⟩
          subst hwo
          go_loopw [13, 62] (fun v vi wz => LRel w6 wz l F v vi) (fun _ i _ => F.length - (intOf i).toNat)
          case atStart => exact ⟨0, Nat.zero_le _, rfl, ⟨rfl, .inl ⟨rfl, rfl⟩⟩, Below.refl _ _⟩
          case round =>
            obtain ⟨k, hk, rfl, hown7, hbel7⟩ := hrel
            have HO7 := Lib.hid hown7
            have hsz7 := hbel7.size
            clear hown7
            by_cases hlt : k < F.length
            · have hlt2 := HFOK.out.lt k hlt
              obtain ⟨fr, hfr⟩ : ∃ fr, fr = begOf F k := ⟨_, rfl⟩
              obtain ⟨tt, htt⟩ : ∃ tt, tt = endOf l F k := ⟨_, rfl⟩
              rw [← hfr, ← htt] at hlt2
              obtain ⟨hft, htl⟩ := hlt2
              have hFk : F[k]? = some (fr : Int) := by
                have h1 := HFOK.out.ge k hlt
                rw [hfr, begOf, List.getD_eq_getElem?_getD, List.getElem?_eq_getElem hlt] at *
                simp only [Option.getD_some] at *
                congr 1
                omega
              have c0 : wr.cell? ⟨bF, oF + k, none⟩ = some (.int .i64 fr) := by rw [hbel7.cell (p := ⟨bF, oF + k, none⟩) hbF]; exact HFC.out k _ hFk
              obtain ⟨sub, hsub⟩ : ∃ sub, sub = (l.take tt).drop fr := ⟨_, rfl⟩
              have hsl : sub.length = tt - fr := by rw [hsub]; simp; omega
              have hline : lineAt l F k = jB (fun _ => 1) sub := by unfold lineAt; rw [← hfr, ← htt, ← hsub]
              have hsc : ∀ (j : Nat) y, sub[j]? = some y → wr.cell? ⟨b, (off + fr) + j, none⟩ = some (.string y) := fun j y hy => by
                rw [hsub, List.getElem?_drop, List.getElem?_take] at hy
                split at hy
                · rw [hbel7.cell (p := ⟨b, off + fr + j, none⟩) hbl6, Nat.add_assoc]; exact HC6.out (fr + j) y hy
                · simp at hy
              have hss : (jB (fun _ => 1) sub).size ≤ 200000 := by
                have h1 := sub_sizes l 400 (fun x hx => Nat.le_trans (HWS.out x hx) hs) tt fr
                rw [← hsub] at h1
                have h2 : l.length * (1 + 400) ≤ 401 * 401 := Nat.mul_le_mul (by omega) (by omega)
                omega
              have J := Lib.hid (Tryd.strings_Join b (off + fr) (cap - fr) sub ⟨#[32]⟩ wr hsc (Nat.lt_of_lt_of_le hbl6 hsz7) (by omega) (by omega) (by
                have h := join_jB sub
                have h2 : (Lib.join (sub.map (·.data.toList)) [32]).length = (jB (fun _ => 1) sub).size := by rw [← h]; simp [ByteArray.size]
                show (Lib.join (sub.map (·.data.toList)) [32]).length ≤ _
                omega))
              rw [show (ByteArray.mk #[32]).data.toList = [32] from rfl, join_jB, hsl, ← hline] at J
              have hcs := cutTo_succ l F k
              have hcl := cutTo_len l F k
              have HCS := Lib.hid hcs
              have HEND : Hid (tt = if k + 1 < F.length then (F.getD (k + 1) 0).toNat else l.length) := htt
              have HFK := Lib.hid hFk
              generalize hLA : lineAt l F k = LA at *
              generalize cutTo l F k = acc at *
              generalize hAC : cutTo l F (k + 1) = acc' at *
              have HAC := Lib.hid hAC
              have HSL := Lib.hid hsl
              have HCL := Lib.hid hcl
              have haccb : acc.length ≤ k := Nat.le_of_eq hcl
              clear hcs hcl hsub hsl hline hsc hss hfr htt hLA hFk hAC
              go_upto_if 73 with (fail)
              go_cut [16] (fun s16 wx => s16 = .int .i64 tt ∧ wr = wx)
              case first =>
                by_cases hk1 : k + 1 < F.length
                · have h1 := HFOK.out.ge (k + 1) hk1
                  have hE := HEND.out
                  rw [if_pos hk1] at hE
                  have hF1 : F[k + 1]? = some (tt : Int) := by
                    rw [List.getD_eq_getElem?_getD, List.getElem?_eq_getElem hk1] at *
                    simp only [Option.getD_some] at *
                    congr 1
                    omega
                  have c1 : wr.cell? ⟨bF, oF + (k + 1), none⟩ = some (.int .i64 tt) := by rw [hbel7.cell (p := ⟨bF, oF + (k + 1), none⟩) hbF]; exact HFC.out (k + 1) _ hF1
                  have e1 : decide ((k : Int) + 1 < (F.length : Int)) = true := by simp; omega
                  have j1 : (k : Int) + 1 < (F.length : Int) := by omega
                  have j2 : ((k : Int) + 1).toNat = k + 1 := by omega
                  have HE := Lib.hid hE
                  clear hE hF1 h1
                  go_wp2_with fail
                  go_meet
                  exact ⟨rfl, rfl⟩
                · have hE := HEND.out
                  rw [if_neg hk1] at hE
                  have e1 : decide ((k : Int) + 1 < (F.length : Int)) = false := by simp; omega
                  have HE := Lib.hid hE
                  clear hE
                  go_wp2_with fail
                  go_meet
                  exact ⟨by rw [HE.out], rfl⟩
              case rest =>
                obtain ⟨rfl, rfl⟩ := hcut
                have q1 : (fr : Int) ≤ (tt : Int) := by omega
                have q2 : (tt : Int) ≤ (cap : Int) := by omega
                have q3 : fr < cap := by omega
                have q4 : ¬ fr = cap := by omega
                clear c0
                go_wp2_with fail
                refine J.out.mono ?_
                rintro e w8 ⟨rfl, hb8⟩
                have hown8 := own_below HO7.out hb8
                have hbel8 := below_trans_size hbel7 hb8
                have hsz8 := hbel8.size
                clear J
                go_wp2_with (at_builtin; refine wpList_append_own _ rfl _ _ 23 rfl w6.heap.size 9 iS (.string ByteArray.empty) 1 16 Tryd.underlying23 hiS hzS0 hzS1 hzS2 rfl (by decide) _ _ _ rfl (hown8.alloc _) ⟨w8.heap.size, 0, none⟩ 1 1 [.string LA] rfl rfl ?c1 ?c2 ?c3 ?c4 ?c5 ?_)
                case c1 => exact new_one _ _ _
                case c2 => simp [Value.oneCell']
                case c3 => unfold maxLen; omega
                case c4 => omega
                case c5 => simp; omega
                intro v' w9 hown' hgrow _
                have hbel9 := below_app hbel8 hsz8 hown8 hgrow
                have HO9 := Lib.hid hown'
                clear hown' hgrow hown8
                go_wp2
                go_roundw
                case rel => exact ⟨k + 1, by omega, by go_num, by rw [HAC.out, HCS.out]; simpa using HO9.out, hbel9⟩
                case measure => simp [intOf]; omega
            · have hkF : k = F.length := by omega
              have hO := HO7.out
              rw [hkF] at hO
              have HO := Lib.hid hO
              clear hO hkF HO7
              go_wp2
              go_ret2
              exact ⟨u13, rfl, by rw [HFF.out]; exact own_mono HO.out hb06.size, below_trans_size hb06 hbel7⟩
        · exact absurd HOK.out hno
end Go.Proofs.YtgjhfjplalcnbaaDoor
