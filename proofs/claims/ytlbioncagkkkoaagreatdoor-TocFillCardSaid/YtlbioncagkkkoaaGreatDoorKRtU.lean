/- Contract of publisherref22.Notes. -/
import Derived.Test.YtlbioncagkkkoaaGreatDoorKRtA
import Derived.Test.YtlbioncagkkkoaaGreatDoorKRInls
import Derived.Test.YtlbioncagkkkoaaGreatDoorKRtT
import Derived.Test.YtlbioncagkkkoaaGreatDoorKEnW
namespace Go.Proofs.YtlbioncagkkkoaaGreatDoor
open Go.RowKit
set_option linter.unusedVariables false
set_option linter.unusedSimpArgs false

/-- A row of texts of one's own, built since w0. -/
structure TRow (w0 : World) (xs : List ByteArray) (v : Value) (w : World) : Prop where
  own : w.ownsRow w0.heap.size 9 1 v xs.length (xs.map Value.string)
  bel : Below w0.heap.size w0 w
theorem TRow.nil (w0 : World) : TRow w0 [] (.slice none 0 0) w0 := ⟨⟨by simp, .inl ⟨rfl, rfl⟩⟩, Below.refl _ _⟩
theorem TRow.below {w0 w w1 : World} {xs : List ByteArray} {v : Value} (h : TRow w0 xs v w) (hb : Below w.heap.size w w1) : TRow w0 xs v w1 := ⟨own_below h.own hb, below_trans_size h.bel hb⟩
theorem TRow.put {w0 w w1 : World} {xs : List ByteArray} {v v' : Value} {x : ByteArray} {o : Obj} (h : TRow w0 xs v w) (hown : w1.ownsRow w0.heap.size 9 1 v' (xs.length + 1) (xs.map Value.string ++ [.string x])) (hg : (w.alloc o).grownBy w1 v.ownBlock) : TRow w0 (xs ++ [x]) v' w1 :=
  ⟨by rw [List.length_append, List.length_singleton, List.map_append, List.map_singleton]; exact hown, below_app h.bel h.bel.size h.own hg⟩
theorem infoStr : (Tryz.prog.info? 9).map (fun i => (i.zero, i.size, i.bytes)) = some (some (.string ByteArray.empty), 1, 16) := by kernel_rfl
theorem defN_at (l : List Blk) (k : Nat) (kd lv : Int) (i t d ti : ByteArray) (a : At) (li : List Inl) (ks : List Blk) (h : l[k]? = some (.mk kd lv i t d ti a li ks)) : defN (l.take (k + 1)) = defN (l.take k) ++ (if kd = 14 then [i] else []) := by
  unfold defN
  rw [List.take_add_one, h, List.filterMap_append]
  by_cases hk : kd = 14 <;> simp [hk]
theorem own_capU {w : World} {B k n c m : Nat} {T : TypeId} {a : Option Addr} {xs : List Value} (h : w.ownsRow B T k (.slice a n c) m xs) : m ≤ c ∧ c ≤ maxLen := by
  rcases h.2 with ⟨h1, h2⟩ | ⟨g, cap, cur, h1, _, _, h2, h3, _⟩
  · injection h1 with _ _ h3; subst h3; subst h2; exact ⟨Nat.le_refl _, Nat.zero_le _⟩
  · injection h1 with _ _ h4; subst h4; exact ⟨h2, h3⟩
theorem defN_len (l : List Blk) : (defN l).length ≤ l.length := List.length_filterMap_le _ _

set_option maxRecDepth 100000 in
set_option maxHeartbeats 8000000 in
theorem rNotes_any (l : List Blk) (vm vb : Value) (w : World) (hm : ∃ a n c, vm = .slice a n c) (hb : Rd (· < w.heap.size) w (blksD l) [vb]) (hsz : Blk.szL l ≤ 800000) (hil : (Blk.inlsL l).length ≤ 800000) :
    Calls Tryz.prog 66 #[.agg #[vm, vb]] w fun e w' => ∃ v' B', e = .returned v' ∧ w.heap.size ≤ B' ∧ w'.ownsRow B' 9 1 v' (notesL l).length ((notesL l).map Value.string) ∧ Below w.heap.size w w' := by
  obtain ⟨am, nm, cm, rfl⟩ := hm
  obtain ⟨ab, nb, cb, rfl⟩ := Rd.slf hb
  obtain ⟨i0, hi, hz0, hz1, hz2⟩ := info_parts infoStr
  obtain ⟨w0, hw0⟩ : ∃ w0, w0 = w.alloc (.cells #[.slice am nm cm, .slice ab nb cb] 25) := ⟨_, rfl⟩
  have b0 : Below w.heap.size w w0 := by rw [hw0]; exact (Below.refl _ _).alloc (Nat.le_refl _) _
  have k0 : CB 25 w.heap.size [.slice am nm cm, .slice ab nb cb] w0 := by rw [hw0]; exact CB.new _ _ _
  have RL := Lib.hid (list_any 1000000 l w0.heap.size (.slice ab nb cb) w0 (by omega) (Nat.le_refl _) (hb.up b0) (Nat.le_refl _))
  have HB0 := Lib.hid (hb.up b0)
  have B0 := Lib.hid b0
  have K0 := Lib.hid k0
  have x1 := k0.cell 1 _ rfl
  clear hb b0 k0
  go_enter Tryz.func66, Tryz.ntmps66
  go_upto_region 1 with (fail)
  rw [← hw0]
  clear hw0
  go_wp2_with fail
  refine RL.out.mono ?_
  rintro e w1 ⟨v1, rows, rfl, hrow⟩
  obtain ⟨E, hE⟩ : ∃ E, E = Blk.eachL l := ⟨_, rfl⟩
  rw [← hE] at hrow
  obtain ⟨nE, hnE⟩ : ∃ nE, nE = E.length := ⟨_, rfl⟩
  have hEl : nE ≤ 800000 := by rw [hnE, hE, Blk.eachL_sz]; omega
  obtain ⟨a1, c1, hv1⟩ := own_slice hrow.own
  rw [List.length_map, ← hnE] at hv1
  subst hv1
  have hcp1 := own_capU hrow.own
  rw [List.length_map, ← hnE] at hcp1
  obtain ⟨hcp1, hcm1⟩ := hcp1
  unfold maxLen at hcm1
  have HROW := Lib.hid hrow
  have HNE := Lib.hid hnE
  have HE := Lib.hid hE
  have HB1 := Lib.hid (below_trans_size B0.out hrow.bel)
  have HBR1 := Lib.hid (HB0.out.up hrow.bel)
  have K1 := Lib.hid (K0.out.below hrow.bel)
  have R0 : Hid (∃ k : Nat, k ≤ nE ∧ (.int .i64 0 : Value) = .int .i64 (k : Int) ∧ TRow w1 (defN (E.take k)) (.slice none 0 0) w1) := ⟨0, Nat.zero_le _, rfl, TRow.nil _⟩
  clear hrow hnE hE RL x1 K0 B0 HB0
  go_wp2
  go_loopw [4, 5] (fun v vi wr => ∃ k : Nat, k ≤ nE ∧ vi = .int .i64 (k : Int) ∧ TRow w1 (defN (E.take k)) v wr) (fun _ i _ => nE - (intOf i).toNat)
  case atStart => exact R0.out
  case round =>
    clear R0
    obtain ⟨k, hk, rfl, htr⟩ := hrel
    have HTR := Lib.hid htr
    have hbel := htr.bel
    obtain ⟨av, cv, rfl⟩ := own_slice htr.own
    obtain ⟨m, hm⟩ : ∃ m, m = (defN (E.take k)).length := ⟨_, rfl⟩
    have hmk : m ≤ k := by
      have h1 := defN_len (E.take k)
      have h2 := List.length_take_le k E
      omega
    rw [← hm]
    rw [← hm] at HTR
    have HM0 := Lib.hid hm
    clear hm
    by_cases hlt : k < nE
    · obtain ⟨x, hx⟩ : ∃ x, E[k]? = some x := ⟨_, List.getElem?_eq_getElem (by rw [← HNE.out]; exact hlt)⟩
      obtain ⟨kd, lv, i, t, d, ti, at_, li, ks⟩ := x
      have HSN := Lib.hid (defN_at E k kd lv i t d ti at_ li ks hx)
      obtain ⟨r, hr, hd⟩ := HROW.out.red.get k _ (by rw [List.getElem?_map, hx]; rfl)
      obtain ⟨vc, vp, vl, vk, rfl, -⟩ := Blk.open_ hd
      have hown := HROW.out.own
      rw [List.length_map, ← HNE.out] at hown
      obtain ⟨g9, cap9, hvg, -⟩ := own_form hown (by omega)
      obtain ⟨rfl, rfl⟩ : a1 = some ⟨g9, 0, none⟩ ∧ c1 = cap9 := by injection hvg with h1 _ h3; exact ⟨h1, h3⟩
      have hg9 : g9 < w1.heap.size := (hown.lt g9 rfl).2
      have k0 : wr.cell? ⟨g9, k * 11, none⟩ = some (.int .i64 kd) := by
        have h1 := flat_get 11 rows HROW.out.len k 0 _ _ hr rfl
        have h2 := hown.cellAt (k * 11 + 0) (by omega)
        rw [h1] at h2
        exact (hbel.cell (p := ⟨g9, k * 11, none⟩) hg9).trans h2
      have k2 : wr.cell? ⟨g9, k * 11 + 2, none⟩ = some (.string i) := by
        have h1 := flat_get 11 rows HROW.out.len k 2 _ _ hr rfl
        have h2 := hown.cellAt (k * 11 + 2) (by omega)
        rw [h1] at h2
        exact (hbel.cell (p := ⟨g9, k * 11 + 2, none⟩) hg9).trans h2
      have hk0 : (0 : Int) ≤ (k : Int) := by omega
      have hk1 : (k : Int) < (nE : Int) := by omega
      clear hx hr hd hown hvg htr
      by_cases h14 : kd = 14
      · subst h14
        have HS2 : Hid (defN (E.take (k + 1)) = defN (E.take k) ++ [i]) := by show _ = _; rw [HSN.out, if_pos rfl]
        have hsz1 := hbel.size
        have HO := HTR.out.own
        rw [← HM0.out] at HO
        clear HSN
        go_wp2_with (at_builtin; refine wpList_append_own _ rfl _ _ 40 rfl w1.heap.size 9 i0 (.string ByteArray.empty) 1 16 Tryz.underlying40 hi hz0 hz1 hz2 rfl (by decide) _ _ _ rfl (HO.alloc _) ⟨_, 0, none⟩ 1 1 [.string i] rfl rfl ?c1 ?c2 ?c3 ?c4 ?c5 ?_)
        case c1 => exact new_one _ _ _
        case c2 => intro u hu; simp at hu; subst hu; rfl
        case c3 => unfold maxLen; omega
        case c4 => omega
        case c5 => simp; omega
        intro v' w6 hown' hgrow _
        have T6 := Lib.hid (HTR.out.put (x := i) (by first | exact hown' | (rw [← HM0.out]; exact hown')) hgrow)
        rw [← HS2.out] at T6
        clear hown' hgrow HO
        go_wp2
        go_roundw
        case rel => exact ⟨k + 1, by omega, by go_num, T6.out⟩
        case measure => simp [intOf]; omega
      · have q14 : (kd == 14) = false := by rw [beq_eq_false_iff_ne]; exact h14
        have HS2 : Hid (defN (E.take (k + 1)) = defN (E.take k)) := by show _ = _; rw [HSN.out, if_neg h14, List.append_nil]
        have T6 := Lib.hid HTR.out
        rw [← HS2.out] at T6
        clear HSN h14
        go_wp2
        go_roundw
        case rel => exact ⟨k + 1, by omega, by go_num, T6.out⟩
        case measure => simp [intOf]; omega
    · have hkn : k = E.length := by have := HNE.out; omega
      have htr := HTR.out
      have hm := HM0.out
      rw [hkn, List.take_length] at htr hm
      obtain ⟨defs, hdefs⟩ : ∃ defs, defs = defN E := ⟨_, rfl⟩
      rw [← hdefs] at htr hm
      have SE := Sees.of_own htr.own
      rw [← hm] at SE
      have hsr := HB1.out.size
      have b1 := HB1.out.trans (htr.bel.mono hsr)
      have K2 := K1.out.below htr.bel
      have x1 := K2.cell 1 _ rfl
      have RI := Lib.hid (rInls_any l (.slice ab nb cb) wr (by omega) (by omega) (HBR1.out.up htr.bel))
      have BW := Lib.hid b1
      have SEH := Lib.hid SE
      have HD := Lib.hid hdefs
      have HM := Lib.hid hm
      clear htr SE b1 K2 hdefs hm hkn HTR hbel HM0
      go_wp2_with fail
      refine RI.out.mono ?_
      rintro e w2 ⟨v2, rfl, hrd2, b2⟩
      obtain ⟨L, hL⟩ : ∃ L, L = Blk.inlsL l := ⟨_, rfl⟩
      rw [← hL] at hrd2 hil
      obtain ⟨a2, c2, hv2, hs2⟩ := Rd.sl_open hrd2
      obtain rfl : v2 = .slice a2 L.length c2 := by simpa using hv2
      have hcap : L.length ≤ c2 := by simpa using hs2.le
      have hmx := hs2.max
      unfold maxLen at hmx
      have HS2 := Lib.hid hs2
      have B2 := Lib.hid b2
      have HL := Lib.hid hL
      have R0 : Hid (∃ k : Nat, k ≤ L.length ∧ (.int .i64 0 : Value) = .int .i64 (k : Int) ∧ TRow w2 (noteG defs [] (L.take k)) (.slice none 0 0) w2) := ⟨0, Nat.zero_le _, rfl, TRow.nil _⟩
      clear hv2 hs2 b2 hL hrd2 x1 RI
      go_wp2
      go_loopw [7, 8] (fun v vi wr2 => ∃ k : Nat, k ≤ L.length ∧ vi = .int .i64 (k : Int) ∧ TRow w2 (noteG defs [] (L.take k)) v wr2) (fun _ i _ => L.length - (intOf i).toNat)
      case atStart => exact R0.out
      case round =>
        clear R0
        obtain ⟨j, hj, rfl, htr⟩ := hrel
        have HTR := Lib.hid htr
        have hbel := htr.bel
        obtain ⟨ao, co, rfl⟩ := own_slice htr.own
        obtain ⟨out, hout⟩ : ∃ out, out = noteG defs [] (L.take j) := ⟨_, rfl⟩
        have hol : out.length ≤ j := by
          rw [hout]
          have h1 := noteG_le defs (L.take j) []
          have h2 := List.length_take_le j L
          simp at h1
          omega
        rw [← hout] at HTR htr
        rw [← hout]
        obtain ⟨no, hno⟩ : ∃ no, no = out.length := ⟨_, rfl⟩
        rw [← hno]
        rw [← hno] at HTR htr
        have HNO := Lib.hid hno
        have hno2 : no ≤ j := by rw [hno]; exact hol
        clear hno
        by_cases hlt : j < L.length
        · obtain ⟨x, hx⟩ : ∃ x, L[j]? = some x := ⟨_, List.getElem?_eq_getElem hlt⟩
          have hsn := noteG_snoc defs L j x [] hx
          rw [← hout] at hsn
          obtain ⟨kd, t, d, ti, at_, ar, ci, ks⟩ := x
          obtain ⟨g, off, vc, vp, va, vi, vk, rfl, hok, hbl, hc, hR⟩ := inls_at (HS2.out.below hbel) hx
          obtain ⟨aa, na, ca, rfl⟩ := Rd.slf hR.args
          obtain ⟨ai, ni, cai, rfl⟩ := Rd.slf hR.cites
          obtain ⟨ac, nc, cc, rfl⟩ := Rd.slf hR.at_.cls
          obtain ⟨ap, np, cp, rfl⟩ := Rd.slf hR.at_.prs
          obtain ⟨ak, nk, ck, rfl⟩ := Rd.slf hR.kids
          obtain ⟨q0, q1, q2, q3, q4, q5, q6, q7, q8, q9⟩ := hc
          obtain ⟨p, hp⟩ : ∃ p, p = wr.heap.size := ⟨_, rfl⟩
          obtain ⟨wA, hwA⟩ : ∃ wA, wA = wr.alloc (.cells #[.int .i64 kd, .string t, .string d, .string ti, .string at_.id, .slice ac nc cc, .slice ap np cp, .slice aa na ca, .slice ai ni cai, .slice ak nk ck] 47) := ⟨_, rfl⟩
          have bA : Below wr.heap.size wr wA := by rw [hwA]; exact (Below.refl _ _).alloc (Nat.le_refl _) _
          have PA : CB 47 p [.int .i64 kd, .string t, .string d, .string ti, .string at_.id, .slice ac nc cc, .slice ap np cp, .slice aa na ca, .slice ai ni cai, .slice ak nk ck] wA := by rw [hwA, hp]; exact CB.new _ _ _
          have TA := htr.below bA
          have sA := ((SEH.out.below B2.out).below htr.bel).below bA
          obtain ⟨e1, he1⟩ : ∃ b, b = hasB defs t := ⟨_, rfl⟩
          obtain ⟨e2, he2⟩ : ∃ b, b = hasB out t := ⟨_, rfl⟩
          have IN1 := r22in_any defs t (.slice av m cv) wA (by rw [← HM.out]; exact sA)
          have IN2 := r22in_any out t (.slice ao no co) wA (Sees.of_own TA.own)
          rw [← he1] at IN1
          rw [← he2] at IN2
          obtain ⟨hb, hhb⟩ : ∃ hb, hb = (decide (kd = 12) && e1 && !e2) := ⟨_, rfl⟩
          have HSN : Hid (noteG defs [] (L.take (j + 1)) = if hb = true then out ++ [t] else out) := by
            show _ = _
            rw [hsn, hhb, he1, he2]
            simp only [Inl.kd, Inl.tx]
            by_cases k12 : kd = 12 <;> by_cases u1 : hasB defs t = true <;> by_cases u2 : hasB out t = true <;> simp [k12, u1, u2]
          have h0 := PA.cell 0 _ rfl
          have h1 := PA.cell 1 _ rfl
          have HHB := Lib.hid hhb
          have HI1 := Lib.hid IN1
          have HI2 := Lib.hid IN2
          have HTA := Lib.hid TA
          have hbz := TA.bel.size
          have hj0 : (0 : Int) ≤ (j : Int) := by omega
          have hj1 : (j : Int) < (L.length : Int) := by omega
          clear hx hsn hok hbl hR he1 he2 hhb IN1 IN2 TA sA bA PA htr hbel hout HTR
          go_upto_region 14 with (fail)
          rw [← hwA, ← hp]
          clear hwA hp q0 q1 q2 q3 q4 q5 q6 q7 q8 q9
          go_cut [61] (fun v wx => v = .bool hb ∧ wx = wA)
          case first =>
            by_cases k12 : kd = 12
            · subst k12
              cases e1 with
              | false =>
                have HF : Hid (hb = false) := by show _ = _; rw [HHB.out]; rfl
                go_wp2_with fail
                (with_reducible refine HI1.out.mono ?_)
                rintro e w9 ⟨rfl, rfl⟩
                go_wp2_with fail
                go_meet
                exact ⟨by rw [HF.out], rfl⟩
              | true =>
                cases e2
                · have HF : Hid (hb = true) := by show _ = _; rw [HHB.out]; rfl
                  go_wp2_with fail
                  (with_reducible refine HI1.out.mono ?_)
                  rintro e w9 ⟨rfl, rfl⟩
                  go_wp2_with fail
                  (with_reducible refine HI2.out.mono ?_)
                  rintro e w10 ⟨rfl, rfl⟩
                  go_wp2_with fail
                  go_meet
                  exact ⟨by rw [HF.out], rfl⟩
                · have HF : Hid (hb = false) := by show _ = _; rw [HHB.out]; rfl
                  go_wp2_with fail
                  (with_reducible refine HI1.out.mono ?_)
                  rintro e w9 ⟨rfl, rfl⟩
                  go_wp2_with fail
                  (with_reducible refine HI2.out.mono ?_)
                  rintro e w10 ⟨rfl, rfl⟩
                  go_wp2_with fail
                  go_meet
                  exact ⟨by rw [HF.out], rfl⟩
            · have q12 : (kd == 12) = false := beq_eq_false_iff_ne.2 k12
              have HF : Hid (hb = false) := by show _ = _; rw [HHB.out]; simp [k12]
              clear k12
              go_wp2_with fail
              go_meet
              exact ⟨by rw [HF.out], rfl⟩
          case rest =>
          obtain ⟨rfl, rfl⟩ := hcut
          obtain ⟨wB, hwB⟩ : ∃ wB : World, wB = wc := ⟨_, rfl⟩
          subst hwB
          clear HI1 HI2 HHB
          cases hb with
          | true =>
            have HS2 : Hid (noteG defs [] (L.take (j + 1)) = out ++ [t]) := by show _ = _; rw [HSN.out, if_pos rfl]
            have HO := HTA.out.own
            rw [← HNO.out] at HO
            clear HSN
            go_wp2_with (at_builtin; refine wpList_append_own _ rfl _ _ 40 rfl w2.heap.size 9 i0 (.string ByteArray.empty) 1 16 Tryz.underlying40 hi hz0 hz1 hz2 rfl (by decide) _ _ _ rfl (HO.alloc _) ⟨_, 0, none⟩ 1 1 [.string t] rfl rfl ?c1 ?c2 ?c3 ?c4 ?c5 ?_)
            case c1 => exact new_one _ _ _
            case c2 => intro u hu; simp at hu; subst hu; rfl
            case c3 => unfold maxLen; omega
            case c4 => omega
            case c5 => simp; omega
            intro v' w6 hown' hgrow _
            have T6 := Lib.hid (HTA.out.put (x := t) (by first | exact hown' | (rw [← HNO.out]; exact hown')) hgrow)
            rw [← HS2.out] at T6
            clear hown' hgrow HO
            go_wp2
            go_roundw
            case rel => exact ⟨j + 1, by omega, by go_num, T6.out⟩
            case measure => simp [intOf]; omega
          | false =>
            have HS2 : Hid (noteG defs [] (L.take (j + 1)) = out) := by show _ = _; rw [HSN.out, if_neg (by simp)]
            have T6 := Lib.hid HTA.out
            rw [← HS2.out] at T6
            clear HSN
            go_wp2
            go_roundw
            case rel => exact ⟨j + 1, by omega, by go_num, T6.out⟩
            case measure => simp [intOf]; omega
        · have hjl : j = L.length := by omega
          have HP : Hid (∃ (v' : Value) (B' : Nat), (Value.slice ao no co) = v' ∧ w.heap.size ≤ B' ∧ wr.ownsRow B' 9 1 v' (notesL l).length ((notesL l).map Value.string) ∧ Below w.heap.size w wr) := by
            refine ⟨_, w2.heap.size, rfl, by have := BW.out.size; have := B2.out.size; omega, ?_, ?_⟩
            · have e : notesL l = out := by rw [hout, hjl, List.take_length]; unfold notesL; rw [← HE.out, ← HL.out, ← HD.out]
              rw [e]
              exact htr.own
            · have hs1 := BW.out.size
              have hs2 := B2.out.size
              exact (BW.out.trans (B2.out.mono hs1)).trans (htr.bel.mono (by omega))
          clear htr HTR hbel hout HNO HS2 HL HD HM SEH BW B2 HE HBR1 HB1
          go_wp2
          go_ret
          obtain ⟨v', B', rfl, h0, h1, h2⟩ := HP.out
          exact ⟨_, B', rfl, h0, h1, h2⟩
end Go.Proofs.YtlbioncagkkkoaaGreatDoor
