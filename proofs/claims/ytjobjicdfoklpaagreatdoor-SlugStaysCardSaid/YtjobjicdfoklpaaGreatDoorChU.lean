/- Contracts of tree.checkTable, checkBlock. The contract of tree.checkBlock; of a formula's check it asks the contract. -/
import Derived.Test.YtjobjicdfoklpaaGreatDoorChS
namespace Go.Proofs.YtjobjicdfoklpaaGreatDoor
open Go.RowKit
set_option linter.unusedVariables false
set_option linter.unusedSimpArgs false

def colBs : List UInt8 := [45, 108, 99, 114]
def TbRel (ks : List Blk) (n : Nat) (w : World) (vi : Value) (wr : World) : Prop := ∃ k : Nat, k ≤ ks.length ∧ vi = .int .i64 k ∧ Below w.heap.size w wr ∧ (ks.take k).any (fun b => !decide (b.kidN = n)) = false
theorem blP_at {w : World} {l : List Blk} {a : Option Addr} {cap : Nat} (h : SlAt (· < w.heap.size) w 11 (l.map Blk.d) a cap) {k : Nat} {kd lv : Int} {i t d ti : ByteArray} {at_ : At} {li : List Inl} {ks : List Blk} (hk : l[k]? = some (.mk kd lv i t d ti at_ li ks)) :
    ∃ b off ac ap al ak cc cp cl ck, a = some ⟨b, off, none⟩ ∧ BlP w b (off + k * 11) kd lv i t d ti at_ li ks ac ap al ak cc cp cl ck := by
  obtain ⟨b, off, vc, vp, vl, vk, rfl, hok, hbl, hc, hR⟩ := blks_at h hk
  obtain ⟨a1, c1, h1, -⟩ := hR.at_.cls.sl_open
  obtain ⟨a2, c2, h2, -⟩ := hR.at_.prs.sl_open
  obtain ⟨a3, c3, h3, -⟩ := hR.line.sl_open
  obtain ⟨a5, c5, h5, -⟩ := hR.kids.sl_open
  simp only [List.length_map, List.cons.injEq, and_true] at h1 h2 h3 h5
  subst h1 h2 h3 h5
  exact ⟨b, off, a1, a2, a3, a5, c1, c2, c3, c5, rfl, hc, hR, hbl⟩
theorem bs_nil (l : List UInt8) : (⟨l.toArray⟩ : ByteArray) = ByteArray.empty ↔ l = [] := by
  constructor
  · intro h
    have := congrArg (fun b : ByteArray => b.data.toList) h
    simpa using this
  · rintro rfl; rfl

set_option maxRecDepth 100000 in
set_option maxHeartbeats 8000000 in
theorem checkTable_any (w : World) (b o : Nat) (k lv : Int) (i t d ti : ByteArray) (at_ : At) (li : List Inl) (ks : List Blk) (ac ap al ak : Option Addr) (cc cp cl ck : Nat)
    (h : BlP w b o k lv i t d ti at_ li ks ac ap al ak cc cp cl ck) (hi : i.size ≤ 1000000000) :
    Calls Tryz.prog 177 #[.pointer (some ⟨b, o, none⟩)] w (RetB (.int .i64 (tableErr i ks : Nat)) w) := by
  have HP := Lib.hid h
  obtain ⟨a', c', hv, hs⟩ := Rd.sl_open h.rd.kids
  obtain ⟨rfl, rfl⟩ : a' = ak ∧ c' = ck := by simp at hv; exact ⟨hv.1.symm, hv.2.symm⟩
  have hcap : ks.length ≤ c' := by simpa using hs.le
  have hmx := hs.max
  unfold maxLen at hmx
  have HS := Lib.hid hs
  have e3 := len0 ks
  have h116 : (Tryz.prog.info? 216).map (fun i => (i.zero, i.size)) = some (some (.agg (Array.replicate 256 (.bool false))), 256) := by kernel_rfl
  have TR := Lib.hid (fun w => Any.strings_Trim_laid Tryz.lays160 h116 i ⟨#[45, 108, 99, 114]⟩ w (by omega) (by decide) (ascii_of_all (by decide)))
  have HTR : Hid (∀ w, Calls Tryz.prog 212 #[.string i, .string ⟨#[45, 108, 99, 114]⟩] w fun e w' => e = .returned (.string ⟨(Lib.trimS i.data.toList colBs).toArray⟩) ∧ Below w.heap.size w w') := TR.out
  have HN := Lib.hid (trimS_nil i.data.toList colBs)
  have HBN := Lib.hid (bs_nil (Lib.trimS i.data.toList colBs))
  have HE : Hid (tableErr i ks = if 32 < i.size then 3 else if emptyS i = true then 5 else if i.data.toList.any (fun c => !(colBs : List UInt8).contains c) then 5
      else if ks.isEmpty = true then 8 else if ks.any (fun b => !decide (b.kidN = i.size)) then 15 else 0) := rfl
  obtain ⟨c0, c1, c2, c3, c4, c5, c6, c7, c8, c9, c10⟩ := h.cells
  generalize tableErr i ks = V at *
  obtain ⟨trs, htrs⟩ : ∃ trs, trs = (⟨(Lib.trimS i.data.toList colBs).toArray⟩ : ByteArray) := ⟨_, rfl⟩
  rw [← htrs] at HTR HBN
  clear hv hs h TR htrs h116
  by_cases h32 : 32 < i.size
  · have HV : Hid (V = 3) := by show V = 3; rw [HE.out, if_pos h32]
    have q : decide ((32 : Int) < (i.size : Int)) = true := by simp; omega
    clear HE
    go_enter Tryz.func177, Tryz.ntmps177
    go_wp2
    go_ret
    exact ⟨by rw [HV.out]; rfl, Below.refl _ _⟩
  have q : decide ((32 : Int) < (i.size : Int)) = false := by simp; omega
  rcases emp_part i with rfl | ⟨i1, i2, i3, i4⟩
  · have HV : Hid (V = 5) := by show V = 5; rw [HE.out, if_neg h32, if_pos (by decide)]
    clear HE
    go_enter Tryz.func177, Tryz.ntmps177
    go_wp2
    go_ret
    exact ⟨by rw [HV.out]; rfl, Below.refl _ _⟩
  have hany : (i.data.toList.any fun c => !(colBs : List UInt8).contains c) = !(i.data.toList.all fun c => (colBs : List UInt8).contains c) := by
    rw [List.all_eq_not_any_not]; simp
  cases hal : i.data.toList.all fun c => (colBs : List UInt8).contains c with
  | false =>
    have HV : Hid (V = 5) := by show V = 5; rw [HE.out, if_neg h32, if_neg (by rw [i4]; decide), if_pos (by rw [hany, hal]; rfl)]
    have hne : trs ≠ ByteArray.empty := fun e => by
      have := HN.out.1 (HBN.out.1 e)
      rw [hal] at this; cases this
    rcases emp_part trs with e | ⟨t1, t2, t3, t4⟩
    · exact absurd e hne
    clear HE HN HBN hne hany hal
    go_enter Tryz.func177, Tryz.ntmps177
    go_wp2_with fail
    refine (HTR.out _).mono ?_
    rintro e w2 ⟨rfl, hb2⟩
    go_wp2
    go_ret
    exact ⟨by rw [HV.out]; rfl, hb2⟩
  | true =>
    have he : trs = ByteArray.empty := HBN.out.2 (HN.out.2 hal)
    subst he
    have HV : Hid (V = if ks.isEmpty = true then 8 else if ks.any (fun b => !decide (b.kidN = i.size)) then 15 else 0) := by
      show V = _; rw [HE.out, if_neg h32, if_neg (by rw [i4]; decide), if_neg (by rw [hany, hal]; decide)]
    clear HE HN HBN hany hal
    cases hk0 : ks.isEmpty with
    | true =>
      rw [hk0] at e3
      have HV2 : Hid (V = 8) := by show V = 8; rw [HV.out, if_pos hk0]
      clear hk0
      go_enter Tryz.func177, Tryz.ntmps177
      go_wp2_with fail
      refine (HTR.out _).mono ?_
      rintro e w2 ⟨rfl, hb2⟩
      obtain ⟨p0, p1, p2, p3, p4, p5, p6, p7, p8, p9, p10⟩ := (HP.out.up hb2).cells
      go_wp2
      go_ret
      exact ⟨by rw [HV2.out]; rfl, hb2⟩
    | false =>
      rw [hk0] at e3
      have HV2 : Hid (V = if ks.any (fun b => !decide (b.kidN = i.size)) then 15 else 0) := by show V = _; rw [HV.out, if_neg (by rw [hk0]; decide)]
      clear hk0 HV
      go_enter Tryz.func177, Tryz.ntmps177
      go_wp2_with fail
      refine (HTR.out _).mono ?_
      rintro e w2 ⟨rfl, hb2⟩
      obtain ⟨p0, p1, p2, p3, p4, p5, p6, p7, p8, p9, p10⟩ := (HP.out.up hb2).cells
      have R0 : Hid (TbRel ks i.size w (.int .i64 0) w2) := ⟨0, Nat.zero_le _, rfl, hb2, by simp⟩
      clear hb2
      go_wp2
      go_loopw [34] (fun i' wr => TbRel ks i.size w i' wr) (fun i' _ => ks.length - (intOf i').toNat)
      case atStart => exact R0.out
      case round =>
        clear R0 p0 p1 p2 p3 p4 p5 p6 p7 p8 p9 p10
        obtain ⟨j, hj, rfl, hbel, hno⟩ := hrel
        have HB := Lib.hid hbel
        have HNO := Lib.hid hno
        by_cases hlt : j < ks.length
        · obtain ⟨x, hx⟩ : ∃ x, ks[j]? = some x := ⟨_, List.getElem?_eq_getElem hlt⟩
          have HSN := Lib.hid (any_snoc (fun b : Blk => !decide (b.kidN = i.size)) hx)
          have HAT := Lib.hid (any_at (fun b : Blk => !decide (b.kidN = i.size)) hx)
          obtain ⟨kd', lv', i', t', d', ti', at', li', ks'⟩ := x
          obtain ⟨b', off', ac', ap', al', ak', cc', cp', cl', ck', ha', hP'⟩ := blP_at HS.out hx
          have k10 := (hP'.up hbel).cells.c10
          obtain ⟨p0, p1, p2, p3, p4, p5, p6, p7, p8, p9, p10⟩ := (HP.out.up hbel).cells
          subst ha'
          have HKN : Hid ((Blk.mk kd' lv' i' t' d' ti' at' li' ks').kidN = ks'.length) := rfl
          clear hP' hx hno hbel
          by_cases hq : ks'.length = i.size
          · have q1 : ((ks'.length : Int) != (i.size : Int)) = false := by rw [bne_eq_false_iff_eq]; omega
            have HQ := Lib.hid hq
            clear hq
            go_wp2_with fail
            go_quiet (fail)
            go_wp2
            go_roundw
            case rel => exact ⟨j + 1, by omega, by go_num, below_dN HB.out _, by rw [HSN.out, HNO.out, HKN.out, HQ.out]; simp⟩
            case measure => simp [intOf]; omega
          · have q1 : ((ks'.length : Int) != (i.size : Int)) = true := by rw [bne_iff_ne]; omega
            have hv : V = 15 := by rw [HV2.out, if_pos (HAT.out (by rw [HKN.out]; simp [hq]))]
            have HV3 := Lib.hid hv
            clear hq hv
            go_wp2_with fail
            go_quiet (fail)
            go_wp2
            go_ret
            exact ⟨by rw [HV3.out]; rfl, below_dN HB.out _⟩
        · have hv : V = 0 := by
            have := HNO.out
            rw [List.take_of_length_le (by omega)] at this
            rw [HV2.out, if_neg (by rw [this]; decide)]
          have HV3 := Lib.hid hv
          clear hv hno hbel
          go_wp2
          go_ret
          exact ⟨by rw [HV3.out]; rfl, HB.out⟩
end Go.Proofs.YtjobjicdfoklpaaGreatDoor

namespace Go.Proofs.YtjobjicdfoklpaaGreatDoor
open Go.RowKit
set_option linter.unusedVariables false
set_option linter.unusedSimpArgs false

def mathErr (cl : ByteArray → Bool) (t : ByteArray) (a : At) : Nat := if bodyS t = false then 17 else if cl t = true then 5 else a.err
/-- What checkMath answers, cl being what it says of a text. -/
def MathC (cl : ByteArray → Bool) : Prop := ∀ (w : World) (b o : Nat) (k lv : Int) (i t d ti : ByteArray) (at_ : At) (li : List Inl) (ks : List Blk) (ac ap al ak : Option Addr) (cc cp cl' ck : Nat),
  BlP w b o k lv i t d ti at_ li ks ac ap al ak cc cp cl' ck → t.size ≤ 300 → at_.short → Calls Tryz.prog 176 #[.pointer (some ⟨b, o, none⟩)] w (RetB (.int .i64 (mathErr cl t at_ : Nat)) w)
/-- The texts of a block are short. -/
structure BlS (i t d ti : ByteArray) (a : At) (li : List Inl) : Prop where
  i : i.size ≤ 300
  t : t.size ≤ 300
  d : d.size ≤ 300
  ti : ti.size ≤ 300
  at_ : a.short
  li : Inl.smallL li
theorem blfields_and {k lv : Int} {i t d ti : ByteArray} {a : At} {li : List Inl} {ks : List Blk} (h : blFields k lv i t d ti a li ks = true) : 1 ≤ k ∧ k ≤ 15 ∧ (k = 2 ∨ k = 8 ∨ lv = 0) := by
  unfold blFields at h
  simp only [Bool.and_eq_true, Bool.or_eq_true, decide_eq_true_eq] at h
  obtain ⟨⟨⟨⟨⟨⟨⟨⟨h1, h2⟩, h3⟩, -⟩, -⟩, -⟩, -⟩, -⟩, -⟩ := h
  refine ⟨h1, h2, ?_⟩
  rcases h3 with h | h
  · simp at h; omega
  · exact .inr (.inr h)

set_option maxRecDepth 100000 in
set_option maxHeartbeats 8000000 in
theorem checkBlock_any (cl : ByteArray → Bool) (w : World) (b o : Nat) (k lv : Int) (i t d ti : ByteArray) (at_ : At) (li : List Inl) (ks : List Blk) (ac ap al ak : Option Addr) (cc cp cl' ck : Nat)
    (h : BlP w b o k lv i t d ti at_ li ks ac ap al ak cc cp cl' ck) (hs : BlS i t d ti at_ li) (hf : blFields k lv i t d ti at_ li ks = true) (hm : k = 4 → MathC cl) :
    Calls Tryz.prog 124 #[.pointer (some ⟨b, o, none⟩)] w (RetB (.int .i64 (itsErr cl k lv i t d ti at_ li ks : Nat)) w) := by
  have HP := Lib.hid h
  obtain ⟨f1, f2, f3⟩ := blfields_and hf
  obtain ⟨-, l4, m4⟩ := sl_len h.rd.line
  obtain ⟨-, l5, m5⟩ := sl_len h.rd.kids
  unfold maxLen at m4 m5
  have LE := Lib.hid (tLineErr_any li al cl' w hs.li h.rd.line)
  have UE := Lib.hid (checkUnbroken_any li al cl' w hs.li h.rd.line)
  have HDE := Lib.hid (checkHead_any w b o k lv i t d ti at_ li ks ac ap al ak cc cp cl' ck h hs.at_ hs.li)
  have TBE := Lib.hid (checkTable_any w b o k lv i t d ti at_ li ks ac ap al ak cc cp cl' ck h (by have := hs.i; omega))
  have MTE := Lib.hid (fun hk => hm hk w b o k lv i t d ti at_ li ks ac ap al ak cc cp cl' ck h hs.t hs.at_)
  have CLI := Lib.hid (fun w => tLine_any i w (by have := hs.i; omega))
  have CTR := Lib.hid (fun w => tTrimmed_any i w (by have := hs.i; omega))
  have CTX := Lib.hid (fun w => cleanText_any t w (by have := hs.t; omega))
  have CNM := Lib.hid (fun w => name_any i w (by have := hs.i; omega))
  have CLB := Lib.hid (label_any i w (by have := hs.i; omega))
  have CLD := Lib.hid (fun w => tLine_any d w (by have := hs.d; omega))
  have CLT := Lib.hid (fun w => tLine_any ti w (by have := hs.ti; omega))
  have AC := Lib.hid (aCheck_any at_ ac ap cc cp w h.rd.at_ hs.at_)
  obtain ⟨c0, c1, c2, c3, c4, c5, c6, c7, c8, c9, c10⟩ := h.cells
  have e2 := len0 li
  have e3 := len0 ks
  have HE : Hid (itsErr cl k lv i t d ti at_ li ks = if k = 1 then (if li.isEmpty = true then 8 else lineErr li)
  else if k = 2 then headErr lv at_ li
  else if k = 12 then unbErr li
  else if k = 3 then (if lineS i = false ∨ trimS i = false ∨ bodyS t = false then 17 else 0)
  else if k = 4 then mathErr cl t at_
  else if k = 7 ∨ k = 8 then (if ks.isEmpty = true then 8 else if k = 8 ∧ (lv < 0 ∨ 999999999 < lv) then 9 else 0)
  else if k = 10 then tableErr i ks
  else if k = 13 ∨ k = 14 then (if nameOk i = false then 6 else at_.err)
  else if k = 15 then (if labelS i = false then 6 else if lineS d = false ∨ lineS ti = false then 17 else 0)
  else 0) := rfl
  generalize itsErr cl k lv i t d ti at_ li ks = V at *
  generalize lineErr li = E1 at *
  generalize headErr lv at_ li = E2 at *
  generalize unbErr li = E3 at *
  generalize mathErr cl t at_ = E4 at *
  generalize tableErr i ks = E5 at *
  generalize at_.err = E6 at *
  generalize lineS i = b1 at *
  generalize trimS i = b2 at *
  generalize bodyS t = b3 at *
  generalize nameOk i = b4 at *
  generalize labelS i = b5 at *
  generalize lineS d = b6 at *
  generalize lineS ti = b7 at *
  generalize li.isEmpty = bl at *
  generalize ks.isEmpty = bk at *
  clear h hs hf hm
  rcases bl_kinds k with rfl | rfl | rfl | rfl | rfl | rfl | rfl | rfl | rfl | rfl | rfl | rfl | rfl | rfl | rfl | hk
  case inr.inr.inr.inr.inr.inr.inr.inr.inr.inr.inr.inr.inr.inr.inr => omega
  case inr.inr.inr.inr.inr.inr.inl =>
    have hlv : lv = 0 := by omega
    subst hlv
    clear f1 f2 f3
    go_enter Tryz.func124, Tryz.ntmps124
    go_wp2
    all_goals
      go_ret
      refine ⟨ret_i64 ?_, Below.refl _ _⟩
      (try simp only [Bool.not_eq_true', Bool.not_eq_false'] at *)
      rw [HE.out]
      simp [*]
  case inr.inr.inr.inr.inr.inr.inr.inl =>
    clear f1 f2 f3
    by_cases hlv : lv < 0 ∨ 999999999 < lv
    · rcases hlv with hlv | hlv
      all_goals
        go_enter Tryz.func124, Tryz.ntmps124
        go_wp2
        all_goals
          go_ret
          refine ⟨ret_i64 ?_, Below.refl _ _⟩
          (try simp only [Bool.not_eq_true', Bool.not_eq_false'] at *)
          rw [HE.out]
          simp [*]
    · have g1 : 0 ≤ lv := by omega
      have g2 : lv ≤ 999999999 := by omega
      have HG : Hid (¬ (lv < 0 ∨ 999999999 < lv)) := hlv
      clear hlv
      go_enter Tryz.func124, Tryz.ntmps124
      go_wp2
      all_goals
        go_ret
        refine ⟨ret_i64 ?_, Below.refl _ _⟩
        (try simp only [Bool.not_eq_true', Bool.not_eq_false'] at *)
        rw [HE.out]
        simp [*, HG.out]
  all_goals
    clear f1 f2 f3
    go_enter Tryz.func124, Tryz.ntmps124
    go_wp2_with (first | (go_at_call 63; refine LE.out.mono ?_; rintro e w2 ⟨rfl, hb3⟩) | (go_at_call 174; refine HDE.out.mono ?_; rintro e w2 ⟨rfl, hb3⟩) | (go_at_call 176; refine (MTE.out (by simp)).mono ?_; rintro e w2 ⟨rfl, hb3⟩) | (go_at_call 177; refine TBE.out.mono ?_; rintro e w2 ⟨rfl, hb3⟩) | (go_at_call 178; refine UE.out.mono ?_; rintro e w2 ⟨rfl, hb3⟩) | (go_at_call 179; refine AC.out.mono ?_; rintro e w2 ⟨rfl, hb3⟩) | (go_at_call 68; refine (CNM.out _).mono ?_; rintro e w2 ⟨rfl, rfl⟩) | (go_at_call 180; refine CLB.out.mono ?_; rintro e w2 ⟨rfl, hb1⟩; obtain ⟨p0, p1, p2, p3, p4, p5, p6, p7, p8, p9, p10⟩ := (HP.out.up hb1).cells) | (go_at_call 70; refine (CTR.out _).mono ?_; rintro e w2 ⟨rfl, rfl⟩) | (go_at_call 175; refine (CTX.out _).mono ?_; rintro e w2 ⟨rfl, q3, rfl⟩) | (go_at_call 69; (with_reducible refine (CLI.out _).mono ?_); rintro e w2 ⟨rfl, q, rfl⟩) | (go_at_call 69; (with_reducible refine (CLD.out _).mono ?_); rintro e w2 ⟨rfl, q, rfl⟩) | (go_at_call 69; (with_reducible refine (CLT.out _).mono ?_); rintro e w2 ⟨rfl, q2, rfl⟩))
    all_goals
      go_ret
      refine ⟨ret_i64 ?_, ?_⟩
      · (try simp only [Bool.not_eq_true', Bool.not_eq_false'] at *)
        rw [HE.out]
        simp [*]
      · first
        | exact hb3 | exact below_dN hb1 _ | exact hb1 | exact below_dN (Below.refl _ _) _ | exact Below.refl _ _
end Go.Proofs.YtjobjicdfoklpaaGreatDoor
