/- publisherref04.SameBlocks, Same: they answer whether the data are equal. -/
import Derived.Test.YtlbioncagkkkoaaDoorKSame
namespace Go.Proofs.YtlbioncagkkkoaaDoor
open Go.RowKit
set_option linter.unusedVariables false
set_option linter.unusedSimpArgs false

theorem BlCells.at3 {w w' : World} {b o : Nat} {k lv : Int} {i t d ti id : ByteArray} {vc vp vl vk : Value} (h : BlCells w b o k lv i t d ti id vc vp vl vk) (hb : w'.heap[b]? = w.heap[b]?) : BlCells w' b o k lv i t d ti id vc vp vl vk := by
  obtain ⟨c0, c1, c2, c3, c4, c5, c6, c7, c8, c9, c10⟩ := h
  exact ⟨(cell_same hb _).trans c0, (cell_same hb _).trans c1, (cell_same hb _).trans c2, (cell_same hb _).trans c3, (cell_same hb _).trans c4, (cell_same hb _).trans c5, (cell_same hb _).trans c6, (cell_same hb _).trans c7, (cell_same hb _).trans c8, (cell_same hb _).trans c9, (cell_same hb _).trans c10⟩

set_option maxRecDepth 100000 in
set_option maxHeartbeats 8000000 in
theorem sameBlocks_any (n : Nat) : ∀ (l m : List Blk) (v1 v2 : Value) (w : World), Blk.szL l ≤ n → Rd (· < w.heap.size) w (blksD l) [v1] → Rd (· < w.heap.size) w (blksD m) [v2] →
    Calls Tryd.prog 7 #[v1, v2] w (SmPost l m w) := by
  induction n using Nat.strongRecOn with
  | _ n ih =>
    intro l m v1 v2 w hn h1 h2
    obtain ⟨a1, c1, hv1, hs1⟩ := Rd.sl_open h1
    obtain ⟨a2, c2, hv2, hs2⟩ := Rd.sl_open h2
    obtain rfl : v1 = .slice a1 l.length c1 := by simpa using hv1
    obtain rfl : v2 = .slice a2 m.length c2 := by simpa using hv2
    have hc1 : l.length ≤ c1 := by simpa using hs1.le
    have hc2 : m.length ≤ c2 := by simpa using hs2.le
    have hm1 := hs1.max
    have hm2 := hs2.max
    unfold maxLen at hm1 hm2
    have H1 := Lib.hid hs1
    have H2 := Lib.hid hs2
    have IH := Lib.hid ih
    clear h1 h2 hv1 hv2 hs1 hs2 ih
    by_cases hL : l.length = m.length
    case neg =>
      have hll : ((l.length : Int) != m.length) = true := by simp; omega
      have HNO := Lib.hid (fun h : l = m => hL (by rw [h]))
      clear H1 H2 hL IH
      go_enter Tryd.func7, Tryd.ntmps7
      go_wp2
      go_ret
      exact ⟨false, rfl, no_iff HNO.out, Below.refl _ _⟩
    have hll : ((l.length : Int) != m.length) = false := by simp; omega
    have HL := Lib.hid hL
    have hme : m.length = l.length := hL.symm
    clear hL
    have R0 : Hid (SmL2 l m w (.int .i64 0) w) := ⟨0, Nat.zero_le _, rfl, by simp, Below.refl _ _⟩
    go_enter Tryd.func7, Tryd.ntmps7
    go_wp2
    go_loopw [5] (fun i wr => SmL2 l m w i wr) (fun i _ => l.length - (intOf i).toNat)
    case atStart => exact R0.out
    case round =>
      clear R0
      obtain ⟨k, hk, rfl, htk, hbel⟩ := hrel
      have HBEL := Lib.hid hbel
      have HTK := Lib.hid htk
      clear hbel htk
      by_cases hlt : k < l.length
      · obtain ⟨x, hx⟩ : ∃ x, l[k]? = some x := ⟨_, List.getElem?_eq_getElem hlt⟩
        obtain ⟨y, hy⟩ : ∃ y, m[k]? = some y := ⟨_, List.getElem?_eq_getElem (by omega)⟩
        obtain ⟨kd, lv, inf, t, d, ti, at_, li, ks⟩ := x
        obtain ⟨kd', lv', inf', t', d', ti', at_', li', ks'⟩ := y
        obtain ⟨g, off, vc, vp, vl, vk, rfl, hok, hbl, hc, hR⟩ := blks_at H1.out hx
        obtain ⟨g', off', vc', vp', vl', vk', rfl, hok', hbl', hc', hR'⟩ := blks_at H2.out hy
        have hsz := Blk.szL_get l k _ hx
        rw [Blk.sz] at hsz
        obtain ⟨ac, nc, cc, rfl⟩ := Rd.slf hR.at_.cls
        obtain ⟨ap, np, cp, rfl⟩ := Rd.slf hR.at_.prs
        obtain ⟨al, nl, cl, rfl⟩ := Rd.slf hR.line
        obtain ⟨ak, nk, ck, rfl⟩ := Rd.slf hR.kids
        obtain ⟨ac', nc', cc', rfl⟩ := Rd.slf hR'.at_.cls
        obtain ⟨ap', np', cp', rfl⟩ := Rd.slf hR'.at_.prs
        obtain ⟨al', nl', cl', rfl⟩ := Rd.slf hR'.line
        obtain ⟨ak', nk', ck', rfl⟩ := Rd.slf hR'.kids
        obtain ⟨p0, p1, p2, p3, p4, p5, p6, p7, p8, p9, p10⟩ := hc.at3 (w' := wr) (HBEL.out.block g hok)
        obtain ⟨q0, q1, q2, q3, q4, q5, q6, q7, q8, q9, q10⟩ := hc'.at3 (w' := wr) (HBEL.out.block g' hok')
        have HR := Lib.hid hR
        have HR' := Lib.hid hR'
        have HX := Lib.hid hx
        have HY := Lib.hid hy
        have hlg := cell_lt p0
        have hlg' := cell_lt q0
        clear hc hc' hR hR' hx hy
        go_upto_region 6 with (fail)
        go_cut [6, 7] (fun v6 v7 wx => Two 35 wr [.int .i64 kd, .int .i64 lv, .string inf, .string t, .string d, .string ti, .string at_.id, .slice ac nc cc, .slice ap np cp, .slice al nl cl, .slice ak nk ck] [.int .i64 kd', .int .i64 lv', .string inf', .string t', .string d', .string ti', .string at_'.id, .slice ac' nc' cc', .slice ap' np' cp', .slice al' nl' cl', .slice ak' nk' ck'] v6 v7 wx)
        case first =>
          go_region
          all_goals
            go_wp2_with fail
            go_meet
            first
            | exact two_12 _ _ _ _
            | exact two_21 _ _ _ _
        case rest =>
          obtain ⟨p, q, rfl, rfl, k1, k2, hb⟩ := hcut
          have hbw := below_trans_size HBEL.out hb
          have K1 := Lib.hid k1
          have K2 := Lib.hid k2
          have HBW := Lib.hid hbw
          clear p0 p1 p2 p3 p4 p5 p6 p7 p8 p9 p10 q0 q1 q2 q3 q4 q5 q6 q7 q8 q9 q10 hb hlg hlg' HBEL
          go_upto_region 7 with (fail)
          go_cut [90] (fun v wx => FsEq (kd = kd' ∧ lv = lv' ∧ inf = inf' ∧ t = t' ∧ d = d' ∧ ti = ti' ∧ at_ = at_' ∧ li = li' ∧ ks = ks') 35 p q [.int .i64 kd, .int .i64 lv, .string inf, .string t, .string d, .string ti, .string at_.id, .slice ac nc cc, .slice ap np cp, .slice al nl cl, .slice ak nk ck] [.int .i64 kd', .int .i64 lv', .string inf', .string t', .string d', .string ti', .string at_'.id, .slice ac' nc' cc', .slice ap' np' cp', .slice al' nl' cl', .slice ak' nk' ck'] wc v wx)
          case first =>
            have z0 := k1.cell 0 _ rfl
            have y0 := k2.cell 0 _ rfl
            by_cases f0 : kd = kd'
            case neg =>
              have n0 : (kd != kd') = true := by simp [f0]
              clear k1 k2 hbw
              go_wp2_with fail
              go_meet
              exact ⟨true, rfl, ne_iff (fun h => f0 h.1), K1.out, K2.out, Below.refl _ _⟩
            subst f0
            have n0 : (kd != kd) = false := by simp
            have z1 := k1.cell 1 _ rfl
            have y1 := k2.cell 1 _ rfl
            by_cases f1 : lv = lv'
            case neg =>
              have n1 : (lv != lv') = true := by simp [f1]
              clear k1 k2 hbw
              go_wp2_with fail
              go_meet
              exact ⟨true, rfl, ne_iff (fun h => f1 h.2.1), K1.out, K2.out, Below.refl _ _⟩
            subst f1
            have n1 : (lv != lv) = false := by simp
            have z2 := k1.cell 2 _ rfl
            have y2 := k2.cell 2 _ rfl
            by_cases f2 : inf = inf'
            case neg =>
              have n2 := str_bne f2
              have n2' := str_beq f2
              clear k1 k2 hbw
              go_wp2_with fail
              go_meet
              exact ⟨true, rfl, ne_iff (fun h => f2 h.2.2.1), K1.out, K2.out, Below.refl _ _⟩
            subst f2
            have n2 : (inf.toList != inf.toList) = false := by simp
            have n2' : (inf.toList == inf.toList) = true := by simp
            have z3 := k1.cell 3 _ rfl
            have y3 := k2.cell 3 _ rfl
            by_cases f3 : t = t'
            case neg =>
              have n3 := str_bne f3
              have n3' := str_beq f3
              clear k1 k2 hbw
              go_wp2_with fail
              go_meet
              exact ⟨true, rfl, ne_iff (fun h => f3 h.2.2.2.1), K1.out, K2.out, Below.refl _ _⟩
            subst f3
            have n3 : (t.toList != t.toList) = false := by simp
            have n3' : (t.toList == t.toList) = true := by simp
            have z4 := k1.cell 4 _ rfl
            have y4 := k2.cell 4 _ rfl
            by_cases f4 : d = d'
            case neg =>
              have n4 := str_bne f4
              have n4' := str_beq f4
              clear k1 k2 hbw
              go_wp2_with fail
              go_meet
              exact ⟨true, rfl, ne_iff (fun h => f4 h.2.2.2.2.1), K1.out, K2.out, Below.refl _ _⟩
            subst f4
            have n4 : (d.toList != d.toList) = false := by simp
            have n4' : (d.toList == d.toList) = true := by simp
            have z5 := k1.cell 5 _ rfl
            have y5 := k2.cell 5 _ rfl
            by_cases f5 : ti = ti'
            case neg =>
              have n5 := str_bne f5
              have n5' := str_beq f5
              clear k1 k2 hbw
              go_wp2_with fail
              go_meet
              exact ⟨true, rfl, ne_iff (fun h => f5 h.2.2.2.2.2.1), K1.out, K2.out, Below.refl _ _⟩
            subst f5
            have n5 : (ti.toList != ti.toList) = false := by simp
            have n5' : (ti.toList == ti.toList) = true := by simp
            have z6 := k1.cell 6 _ rfl
            have z7 := k1.cell 7 _ rfl
            have z8 := k1.cell 8 _ rfl
            have y6 := k2.cell 6 _ rfl
            have y7 := k2.cell 7 _ rfl
            have y8 := k2.cell 8 _ rfl
            have A1 := Lib.hid (attrs_any at_ at_' _ _ _ _ wc (HR.out.at_.up hbw) (HR'.out.at_.up hbw))
            clear k1 k2 hbw
            go_wp2_with fail
            refine A1.out.mono ?_
            rintro e w1 ⟨r1, rfl, i1, b1⟩
            have I1 := Lib.hid i1
            have B1 := Lib.hid b1
            have k1 := K1.out.below b1
            have k2 := K2.out.below b1
            have hbw := below_trans_size HBW.out b1
            have K3 := Lib.hid k1
            have K4 := Lib.hid k2
            have HBV := Lib.hid hbw
            clear i1 b1 A1 z0 z1 z2 z3 z4 z5 z6 z7 z8 y0 y1 y2 y3 y4 y5 y6 y7 y8
            cases r1 with
            | false =>
              clear k1 k2 hbw
              go_wp2_with fail
              go_meet
              exact ⟨true, rfl, ne_iff (fun h => absurd (I1.out.2 h.2.2.2.2.2.2.1) (by simp)), K3.out, K4.out, B1.out⟩
            | true =>
              have z9 := k1.cell 9 _ rfl
              have y9 := k2.cell 9 _ rfl
              have T1 := Lib.hid (sameLine_any (Inl.szL li) li li' _ _ w1 (Nat.le_refl _) (HR.out.line.up hbw) (HR'.out.line.up hbw))
              have hat := I1.out.1 (by simp)
              have HAT := Lib.hid hat
              clear hat k1 k2 hbw
              go_wp2_with fail
              refine T1.out.mono ?_
              rintro e w2 ⟨r2, rfl, i2, b2⟩
              have I2 := Lib.hid i2
              have B2 := Lib.hid (below_trans_size B1.out b2)
              have K5 := Lib.hid (K3.out.below b2)
              have K6 := Lib.hid (K4.out.below b2)
              have HBU := Lib.hid (below_trans_size HBV.out b2)
              clear i2 b2 T1 z9 y9
              cases r2 with
              | false =>
                go_wp2_with fail
                go_meet
                exact ⟨true, rfl, ne_iff (fun h => absurd (I2.out.2 h.2.2.2.2.2.2.2.1) (by simp)), K5.out, K6.out, B2.out⟩
              | true =>
                have har := I2.out.1 (by simp)
                have HAR := Lib.hid har
                have z10 := K5.out.cell 10 _ rfl
                have y10 := K6.out.cell 10 _ rfl
                have S1 := Lib.hid (IH.out (Blk.szL ks) (by omega) ks ks' _ _ w2 (Nat.le_refl _) (HR.out.kids.up HBU.out) (HR'.out.kids.up HBU.out))
                clear har
                go_wp2_with fail
                refine S1.out.mono ?_
                rintro e w3 ⟨r3, rfl, i3, b3⟩
                have I3 := Lib.hid i3
                have B3 := Lib.hid (below_trans_size B2.out b3)
                have K7 := Lib.hid (K5.out.below b3)
                have K8 := Lib.hid (K6.out.below b3)
                clear i3 b3 S1 z10 y10
                go_wp2_with fail
                go_meet
                refine ⟨!r3, rfl, ?_, K7.out, K8.out, B3.out⟩
                have i3 := I3.out
                constructor
                · intro h
                  have h : r3 = true := by simpa using h
                  exact ⟨by simp, by simp, by simp, by simp, by simp, by simp, HAT.out, HAR.out, i3.1 h⟩
                · intro h
                  have := i3.2 h.2.2.2.2.2.2.2.2
                  simp [this]
          case rest =>
            obtain ⟨b, rfl, hfe, k1, k2, hb⟩ := hcut
            have HFE := Lib.hid hfe
            have HB3 := Lib.hid (below_trans_size HBW.out hb)
            cases b with
            | true =>
              have HNO : Hid (l ≠ m) := get_ne HX.out HY.out (fun h => by injection h with h0 h1 h2 h3 h4 h5 h6 h7 h8; exact absurd (HFE.out.2 ⟨h0, h1, h2, h3, h4, h5, h6, h7, h8⟩) (by simp))
              clear hfe k1 k2 hb
              go_wp2
              go_ret
              exact ⟨false, rfl, no_iff HNO.out, HB3.out⟩
            | false =>
              obtain ⟨h0, h1, h2, h3, h4, h5, h6, h7, h8⟩ := HFE.out.1 (by simp)
              subst h0 h1 h2 h3 h4 h5 h6 h7 h8
              have HTS := Lib.hid (take_same HTK.out HX.out HY.out)
              clear hfe k1 k2 hb
              go_wp2
              go_roundw
              case rel => exact ⟨k + 1, by omega, by go_num, HTS.out, HB3.out⟩
              case measure => simp [intOf]; omega
      · obtain rfl : k = l.length := by omega
        clear IH H1 H2
        go_wp2
        go_ret
        exact ⟨true, rfl, yes_iff (take_whole HTK.out HL.out), HBEL.out⟩

end Go.Proofs.YtlbioncagkkkoaaDoor
