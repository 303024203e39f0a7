/- The contract of count.copyLine. -/
import Derived.Test.YtlbioncagkkkoaaGreatDoorKTcM
namespace Go.Proofs.YtlbioncagkkkoaaGreatDoor
open Go.RowKit
set_option linter.unusedVariables false
set_option linter.unusedSimpArgs false

set_option maxRecDepth 100000 in
set_option maxHeartbeats 8000000 in
theorem cCopyLine_any (n : Nat) : ∀ (l : List Inl) (B : Nat) (v : Value) (w : World), Inl.szL l ≤ n → n ≤ 1000000 → Rd (· < B) w (inlsD l) [v] → B ≤ w.heap.size → Inl.bdL l →
    Calls Tryz.prog 50 #[v] w (LcPost w l) := by
  induction n using Nat.strongRecOn with
  | _ n ih =>
    intro l B v w hn hnm hrd hB hbd
    obtain ⟨iS, hiS, hzS0, hzS1, hzS2⟩ := info_parts infoS
    obtain ⟨iC, hiC, hzC0, hzC1, hzC2⟩ := info_parts infoCi
    obtain ⟨iP, hiP, hzP0, hzP1, hzP2⟩ := info_parts infoPr
    obtain ⟨iI, hiI, hzI0, hzI1, hzI2⟩ := info_parts infoIn
    obtain ⟨a, cap, hv, hs⟩ := Rd.sl_open hrd
    obtain rfl : v = .slice a l.length cap := by simpa using hv
    have hcap : l.length ≤ cap := by simpa using hs.le
    have hll := Inl.len_le l
    have hmx := hs.max
    have HS := Lib.hid hs
    have IH := Lib.hid ih
    have HBD := Lib.hid hbd
    have HR0 : Hid (RdL (fun b => w.heap.size ≤ b ∧ (Value.slice none 0 0).ownBlock ≠ some b) w ((l.take 0).map Inl.d) []) := RdL.none
    clear hs hv hrd ih hbd
    unfold maxLen at hmx
    go_enter Tryz.func50, Tryz.ntmps50
    go_wp2
    go_loopw [3, 8] (fun v vi wr => LcRel w wr l v vi) (fun _ i _ => l.length - (intOf i).toNat)
    case atStart => exact ⟨0, [], Nat.zero_le _, rfl, nil_owns _ _ _ _, HR0.out, by simp, Below.refl _ _⟩
    case round =>
      obtain ⟨k, rows, hk, rfl, hown, hred, hrl, hbel⟩ := hrel
      by_cases hlt : k < l.length
      · obtain ⟨x, hx⟩ : ∃ x, l[k]? = some x := ⟨_, List.getElem?_eq_getElem hlt⟩
        obtain ⟨kd, t, d, ti, at_, ar, ci, ks⟩ := x
        obtain ⟨g, off, vc, vp, va, vi, vk, rfl, hok, hbl, hc, hR⟩ := inls_at HS.out hx
        obtain ⟨c0, c1, c2, c3, c4, c5, c6, c7, c8, c9⟩ := hc.below hbel
        clear hc
        have hb1 := Inl.bdL_get l k _ HBD.out hx
        rw [Inl.bd] at hb1
        obtain ⟨hn1, hn2, hn3, hn4, hn5⟩ := hb1
        have hsz := Inl.szL_get l k _ hx
        rw [Inl.sz] at hsz
        obtain ⟨av, cv, rfl⟩ := own_slice hown
        obtain ⟨Ac, cc, rowsc, rfl, hc1, hc2, hc3, hc4, hc5⟩ := Rd.reads hR.at_.cls
        obtain ⟨Ap, cp, rowsp, rfl, hq1, hq2, hq3, hq4, hq5⟩ := Rd.reads hR.at_.prs
        obtain ⟨Aa, ca, rowsa, rfl, ha1, ha2, ha3, ha4, ha5⟩ := Rd.reads hR.args
        obtain ⟨Ai, cci, rowsi, rfl, hi1, hi2, hi3, hi4, hi5⟩ := Rd.reads hR.cites
        obtain ⟨ak, nk, ck, rfl⟩ : ∃ ac nc cc, vk = .slice ac nc cc := by obtain ⟨a', c', h', _⟩ := Rd.sl_open hR.kids; exact ⟨_, _, _, by simpa using h'⟩
        have HR := Lib.hid hR
        have HC3 := Lib.hid hc3
        have HC4 := Lib.hid hc4
        have HC5 := Lib.hid hc5
        have HP3 := Lib.hid hq3
        have HP4 := Lib.hid hq4
        have HP5 := Lib.hid hq5
        have HA3 := Lib.hid ha3
        have HA4 := Lib.hid ha4
        have HA5 := Lib.hid ha5
        have HI3 := Lib.hid hi3
        have HI4 := Lib.hid hi4
        have HI5 := Lib.hid hi5
        have HRL := Lib.hid hrl
        have HX := Lib.hid hx
        have HOWN := Lib.hid hown
        have HRED := Lib.hid hred
        have hsz1 := hbel.size
        clear hR hc3 hc4 hc5 hq3 hq4 hq5 ha3 ha4 ha5 hi3 hi4 hi5 hrl hx hown hred
        go_upto_region 5 with (fail)
        obtain ⟨p, hp⟩ : ∃ p, p = wr.heap.size := ⟨_, rfl⟩
        obtain ⟨wA, hwA⟩ : ∃ wA, wA = wr.alloc (.cells #[.int .i64 kd, .string t, .string d, .string ti, .string at_.id, .slice Ac (at_.cls.map D.str).length cc, .slice Ap (at_.prs.map Pr.d).length cp, .slice Aa (ar.map D.str).length ca, .slice Ai (ci.map Ci.d).length cci, .slice ak nk ck] 47) := ⟨_, rfl⟩
        have hpv : (Value.slice av k cv).ownBlock ≠ some p := by rw [hp]; exact own_ne HOWN.out (Nat.le_refl _)
        have hpw : w.heap.size ≤ p := by rw [hp]; exact hsz1
        have hvp : ∀ g, (Value.slice av k cv).ownBlock = some g → g < p := fun g hg => by rw [hp]; exact (HOWN.out.lt g hg).2
        have HVP := Lib.hid hvp
        clear hvp
        have CA : CL w p [.int .i64 kd, .string t, .string d, .string ti, .string at_.id, .slice Ac (at_.cls.map D.str).length cc, .slice Ap (at_.prs.map Pr.d).length cp, .slice Aa (ar.map D.str).length ca, .slice Ai (ci.map Ci.d).length cci, .slice ak nk ck] (.slice av k cv) k rows (l.take k) wA := by
          rw [hwA, hp]
          refine ⟨HOWN.out.alloc _, RdL.keep (fun b hb hlt' => ⟨⟨hb.1, hb.2, by omega⟩, Below.heap_alloc _ _ b hlt'⟩) _ _ HRED.out, ?_, hbel.alloc hbel.size _⟩
          exact heap_alloc_new wr _
        have hpA : wA.heap.size = p + 1 := by rw [hwA, hp]; simp
        have HPA := Lib.hid hpA
        rw [List.length_map, List.length_map, List.length_map, List.length_map] at CA hwA
        rw [List.length_map] at hc1 hq1
        rw [← hwA, ← hp]
        clear hwA hp HOWN HRED c0 c1 c2 c3 c4 c5 c6 c7 c8 c9 hbel hsz1 hbl hpA
        have HCA := Lib.hid CA
        have d5 := CA.pb.cell 5 _ rfl
        have hlA := CA.pb.lt
        have rc := HC5.out.below (CA.bel.mono hB)
        rw [List.length_map] at rc
        have one0 : ∀ u ∈ rowsc.flatten, u.oneCell' = true := by
          intro u hu
          rw [RdL.strs_rows _ _ HC3.out, strs_flat] at hu
          obtain ⟨s, _, rfl⟩ := List.mem_map.1 hu
          rfl
        have RC := Lib.hid rc
        have ONE0 := Lib.hid one0
        clear CA rc one0
        go_wp2_with (at_builtin; refine wpList_append_any _ rfl (.const (.slice none 0 0)) (.tmp 14) 40 rfl (p + 1) 9 iS _ 1 16 Tryz.underlying40 hiS hzS0 hzS1 hzS2 rfl (by decide) (.slice none 0 0) 0 [] rfl (nil_owns _ _ _ _) B Ac at_.cls.length cc rowsc.flatten rfl RC.out ONE0.out ?x1 ?x2 ?x3 ?_)
        case x1 => unfold maxLen; omega
        case x2 => omega
        case x3 => omega
        intro vc1 w0b hoC hgC _
        (try simp only [Nat.zero_add, List.nil_append] at hoC)
        obtain ⟨ac1, cc1, rfl⟩ := own_slice hoC
        have C0b := HCA.out.grown (show World.grownBy _ w0b none from hgC)
        have HC0b := Lib.hid C0b
        have HOC := Lib.hid hoC
        have d5 := C0b.pb.cell 5 _ rfl
        have f5 := C0b.pb.free 5
        clear hoC hgC C0b HCA RC ONE0 hlA
        go_upto_region 6 with (fail)
        obtain ⟨w1, hw1⟩ : ∃ w1, w1 = w0b.setCell ⟨p, 5, none⟩ (.slice ac1 at_.cls.length cc1) := ⟨_, rfl⟩
        have C1 : CL w p [.int .i64 kd, .string t, .string d, .string ti, .string at_.id, .slice ac1 at_.cls.length cc1, .slice Ap at_.prs.length cp, .slice Aa ar.length ca, .slice Ai ci.length cci, .slice ak nk ck] (.slice av k cv) k rows (l.take k) w1 := by
          rw [hw1]; exact HC0b.out.set hpw hpv 5 _
        have RC1 : Hid (Rd (p < ·) w1 (strsD at_.cls) [.slice ac1 at_.cls.length cc1]) := by
          show Rd _ _ _ _
          rw [hw1]
          have hne : (Value.slice ac1 at_.cls.length cc1).ownBlock ≠ some p := fun e => by have := (HOC.out.lt p e).1; omega
          have ho := own_set HOC.out ⟨p, 5, none⟩ (.slice ac1 at_.cls.length cc1) hne
          refine Rd.sl_own (rows := rowsc) (B := p + 1) (e := 9) ?_ HC3.out.strs_any HC4.out (fun g hg => (ho.lt g hg).1)
          rw [List.length_map]; exact ho
        rw [← hw1]
        clear hw1 d5 f5 HC0b HOC HC5
        have HC1 := Lib.hid C1
        have d6 := C1.pb.cell 6 _ rfl
        have hl1 := C1.pb.lt
        have rp := HP5.out.below (C1.bel.mono hB)
        rw [List.length_map] at rp
        have one4 : ∀ u ∈ rowsp.flatten, u.oneCell' = true := by
          intro u hu
          obtain ⟨r, hr, hu⟩ := List.mem_flatten.1 hu
          obtain ⟨j, hj, rfl⟩ := List.mem_iff_getElem.1 hr
          have hj2 : j < (at_.prs.map Pr.d).length := by rw [← HP3.out.len]; exact hj
          obtain ⟨r', hr', hd⟩ := HP3.out.get j _ (List.getElem?_eq_getElem hj2)
          rw [List.getElem?_eq_getElem hj] at hr'
          obtain rfl := Option.some.inj hr'
          rw [List.getElem_map] at hd
          rw [Pr.open_ hd] at hu
          simp at hu
          rcases hu with rfl | rfl <;> rfl
        have RP := Lib.hid rp
        have ONE4 := Lib.hid one4
        clear C1 rp one4
        go_wp2_with (at_builtin; refine wpList_append_any _ rfl (.const (.slice none 0 0)) (.tmp 20) 22 rfl (p + 1) 58 iP _ 2 32 Tryz.underlying22 hiP hzP0 hzP1 hzP2 rfl (by decide) (.slice none 0 0) 0 [] rfl (nil_owns _ _ _ _) B Ap at_.prs.length cp rowsp.flatten rfl RP.out ONE4.out ?y1 ?y2 ?y3 ?_)
        case y1 => unfold maxLen; omega
        case y2 => omega
        case y3 => omega
        intro vp1 w1b hoP hgP _
        (try simp only [Nat.zero_add, List.nil_append] at hoP)
        obtain ⟨ap1, cp1, rfl⟩ := own_slice hoP
        have C1b := HC1.out.grown (show World.grownBy _ w1b none from hgP)
        have HC1b := Lib.hid C1b
        have RC1b := Lib.hid (RC1.out.above (Above.grown (show World.grownBy _ w1b none from hgP)))
        have HOP := Lib.hid hoP
        have d6 := C1b.pb.cell 6 _ rfl
        have f6 := C1b.pb.free 6
        clear hoP hgP C1b HC1 RC1 RP ONE4 hl1
        go_upto_region 7 with (fail)
        obtain ⟨w2, hw2⟩ : ∃ w2, w2 = w1b.setCell ⟨p, 6, none⟩ (.slice ap1 at_.prs.length cp1) := ⟨_, rfl⟩
        have C2 : CL w p [.int .i64 kd, .string t, .string d, .string ti, .string at_.id, .slice ac1 at_.cls.length cc1, .slice ap1 at_.prs.length cp1, .slice Aa ar.length ca, .slice Ai ci.length cci, .slice ak nk ck] (.slice av k cv) k rows (l.take k) w2 := by
          rw [hw2]; exact HC1b.out.set hpw hpv 6 _
        have AT2 : Hid (AtR (p < ·) w2 at_ (.slice ac1 at_.cls.length cc1) (.slice ap1 at_.prs.length cp1)) := by
          show AtR _ _ _ _ _
          rw [hw2]
          have hne : (Value.slice ap1 at_.prs.length cp1).ownBlock ≠ some p := fun e => by have := (HOP.out.lt p e).1; omega
          have ho := own_set HOP.out ⟨p, 6, none⟩ (.slice ap1 at_.prs.length cp1) hne
          refine ⟨RC1b.out.above (Above.set 6 _), Rd.sl_own (rows := rowsp) (B := p + 1) (e := 58) ?_ HP3.out.prs_any HP4.out (fun g hg => (ho.lt g hg).1)⟩
          rw [List.length_map]; exact ho
        rw [← hw2]
        clear hw2 d6 f6 HC1b RC1b HOP HP5
        have HC2 := Lib.hid C2
        have d7 := C2.pb.cell 7 _ rfl
        have hl2 := C2.pb.lt
        have ra := HA5.out.below (C2.bel.mono hB)
        rw [List.length_map] at ra
        have one1 : ∀ u ∈ rowsa.flatten, u.oneCell' = true := by
          intro u hu
          rw [RdL.strs_rows _ _ HA3.out, strs_flat] at hu
          obtain ⟨s, _, rfl⟩ := List.mem_map.1 hu
          rfl
        have RA := Lib.hid ra
        have ONE1 := Lib.hid one1
        clear C2 ra one1
        go_wp2_with (at_builtin; refine wpList_append_any _ rfl (.const (.slice none 0 0)) (.tmp 25) 40 rfl (p + 1) 9 iS _ 1 16 Tryz.underlying40 hiS hzS0 hzS1 hzS2 rfl (by decide) (.slice none 0 0) 0 [] rfl (nil_owns _ _ _ _) B Aa ar.length ca rowsa.flatten rfl RA.out ONE1.out ?a1 ?a2 ?a3 ?_)
        case a1 => unfold maxLen; omega
        case a2 => omega
        case a3 => omega
        intro va1 w2b hoA hgA _
        (try simp only [Nat.zero_add, List.nil_append] at hoA)
        obtain ⟨aa1, ca1, rfl⟩ := own_slice hoA
        have C2b := HC2.out.grown (show World.grownBy _ w2b none from hgA)
        have HC2b := Lib.hid C2b
        have AT2b := Lib.hid (AT2.out.above (Above.grown (show World.grownBy _ w2b none from hgA)))
        have HOA := Lib.hid hoA
        have d7 := C2b.pb.cell 7 _ rfl
        have f7 := C2b.pb.free 7
        clear hoA hgA C2b HC2 AT2 RA ONE1 hl2
        go_upto_region 8 with (fail)
        obtain ⟨w3, hw3⟩ : ∃ w3, w3 = w2b.setCell ⟨p, 7, none⟩ (.slice aa1 ar.length ca1) := ⟨_, rfl⟩
        have C3 : CL w p [.int .i64 kd, .string t, .string d, .string ti, .string at_.id, .slice ac1 at_.cls.length cc1, .slice ap1 at_.prs.length cp1, .slice aa1 ar.length ca1, .slice Ai ci.length cci, .slice ak nk ck] (.slice av k cv) k rows (l.take k) w3 := by
          rw [hw3]; exact HC2b.out.set hpw hpv 7 _
        have AT3 : Hid (AtR (p < ·) w3 at_ (.slice ac1 at_.cls.length cc1) (.slice ap1 at_.prs.length cp1)) := by
          show AtR _ _ _ _ _
          rw [hw3]; exact AT2b.out.above (Above.set 7 _)
        have RA3 : Hid (Rd (p < ·) w3 (strsD ar) [.slice aa1 ar.length ca1]) := by
          show Rd _ _ _ _
          rw [hw3]
          have hne : (Value.slice aa1 ar.length ca1).ownBlock ≠ some p := fun e => by have := (HOA.out.lt p e).1; omega
          have ho := own_set HOA.out ⟨p, 7, none⟩ (.slice aa1 ar.length ca1) hne
          refine Rd.sl_own (rows := rowsa) (B := p + 1) (e := 9) ?_ HA3.out.strs_any HA4.out (fun g hg => (ho.lt g hg).1)
          rw [List.length_map]; exact ho
        rw [← hw3]
        clear hw3 d7 f7 HC2b AT2b HOA HA5
        have HC3 := Lib.hid C3
        have d8 := C3.pb.cell 8 _ rfl
        have hl3 := C3.pb.lt
        have ri := HI5.out.below (C3.bel.mono hB)
        rw [List.length_map] at ri
        have one2 : ∀ u ∈ rowsi.flatten, u.oneCell' = true := by
          intro u hu
          obtain ⟨r, hr, hu⟩ := List.mem_flatten.1 hu
          obtain ⟨j, hj, rfl⟩ := List.mem_iff_getElem.1 hr
          have hj2 : j < (ci.map Ci.d).length := by rw [← HI3.out.len]; exact hj
          obtain ⟨r', hr', hd⟩ := HI3.out.get j _ (List.getElem?_eq_getElem hj2)
          rw [List.getElem?_eq_getElem hj] at hr'
          obtain rfl := Option.some.inj hr'
          rw [List.getElem_map] at hd
          rw [Ci.open_ hd] at hu
          simp at hu
          rcases hu with rfl | rfl | rfl | rfl <;> rfl
        have RI := Lib.hid ri
        have ONE2 := Lib.hid one2
        clear C3 ri one2
        go_wp2_with (at_builtin; refine wpList_append_any _ rfl (.const (.slice none 0 0)) (.tmp 29) 45 rfl (p + 1) 96 iC _ 4 56 Tryz.underlying45 hiC hzC0 hzC1 hzC2 rfl (by decide) (.slice none 0 0) 0 [] rfl (nil_owns _ _ _ _) B Ai ci.length cci rowsi.flatten rfl RI.out ONE2.out ?b1 ?b2 ?b3 ?_)
        case b1 => unfold maxLen; omega
        case b2 => omega
        case b3 => omega
        intro vi1 w3b hoI hgI _
        (try simp only [Nat.zero_add, List.nil_append] at hoI)
        obtain ⟨ai1, ci1, rfl⟩ := own_slice hoI
        have C3b := HC3.out.grown (show World.grownBy _ w3b none from hgI)
        have HC3b := Lib.hid C3b
        have AT3b := Lib.hid (AT3.out.above (Above.grown (show World.grownBy _ w3b none from hgI)))
        have RA3b := Lib.hid (RA3.out.above (Above.grown (show World.grownBy _ w3b none from hgI)))
        have HOI := Lib.hid hoI
        have d8 := C3b.pb.cell 8 _ rfl
        have f8 := C3b.pb.free 8
        clear hoI hgI C3b HC3 AT3 RA3 RI ONE2 hl3
        go_upto_region 9 with (fail)
        obtain ⟨w4, hw4⟩ : ∃ w4, w4 = w3b.setCell ⟨p, 8, none⟩ (.slice ai1 ci.length ci1) := ⟨_, rfl⟩
        have C4 : CL w p [.int .i64 kd, .string t, .string d, .string ti, .string at_.id, .slice ac1 at_.cls.length cc1, .slice ap1 at_.prs.length cp1, .slice aa1 ar.length ca1, .slice ai1 ci.length ci1, .slice ak nk ck] (.slice av k cv) k rows (l.take k) w4 := by
          rw [hw4]; exact HC3b.out.set hpw hpv 8 _
        have AT4 : Hid (AtR (p < ·) w4 at_ (.slice ac1 at_.cls.length cc1) (.slice ap1 at_.prs.length cp1)) := by
          show AtR _ _ _ _ _
          rw [hw4]; exact AT3b.out.above (Above.set 8 _)
        have RA4 : Hid (Rd (p < ·) w4 (strsD ar) [.slice aa1 ar.length ca1]) := by
          show Rd _ _ _ _
          rw [hw4]; exact RA3b.out.above (Above.set 8 _)
        have RI4 : Hid (Rd (p < ·) w4 (cisD ci) [.slice ai1 ci.length ci1]) := by
          show Rd _ _ _ _
          rw [hw4]
          have hne : (Value.slice ai1 ci.length ci1).ownBlock ≠ some p := fun e => by have := (HOI.out.lt p e).1; omega
          have ho := own_set HOI.out ⟨p, 8, none⟩ (.slice ai1 ci.length ci1) hne
          refine Rd.sl_own (rows := rowsi) (B := p + 1) (e := 96) ?_ HI3.out.cis_any HI4.out (fun g hg => (ho.lt g hg).1)
          rw [List.length_map]; exact ho
        rw [← hw4]
        clear hw4 d8 f8 HC3b AT3b RA3b HOI HI5
        have HC4 := Lib.hid C4
        have d9 := C4.pb.cell 9 _ rfl
        have hl4 := C4.pb.lt
        have IK := Lib.hid (IH.out (Inl.szL ks) (by omega) ks B (.slice ak nk ck) w4 (Nat.le_refl _) (by omega) (HR.out.kids.below (C4.bel.mono hB)) (Nat.le_trans hB C4.bel.size) hn5)
        clear C4
        go_wp2_with fail
        refine IK.out.mono ?_
        rintro e w5 ⟨vk1, rfl, hk1, b5⟩
        obtain ⟨ak1, nk1, ck1, rfl⟩ : ∃ ac nc cc, vk1 = .slice ac nc cc := by obtain ⟨a', c', h', _⟩ := Rd.sl_open hk1; exact ⟨_, _, _, by simpa using h'⟩
        have C5 := HC4.out.grown (grown_below b5)
        have HC5 := Lib.hid C5
        have AT5 := Lib.hid (AT4.out.above (Above.grown (grown_below b5)))
        have RA5 := Lib.hid (RA4.out.above (Above.grown (grown_below b5)))
        have RI5 := Lib.hid (RI4.out.above (Above.grown (grown_below b5)))
        have RK5 := Lib.hid (hk1.weaken (ok' := (p < ·)) (fun b hb => by omega))
        have d9 := C5.pb.cell 9 _ rfl
        have f9 := C5.pb.free 9
        clear C5 HC4 AT4 RA4 RI4 IK hk1 b5 hl4
        go_upto_region 10 with (fail)
        obtain ⟨w6, hw6⟩ : ∃ w6, w6 = w5.setCell ⟨p, 9, none⟩ (.slice ak1 nk1 ck1) := ⟨_, rfl⟩
        have C6 : CL w p [.int .i64 kd, .string t, .string d, .string ti, .string at_.id, .slice ac1 at_.cls.length cc1, .slice ap1 at_.prs.length cp1, .slice aa1 ar.length ca1, .slice ai1 ci.length ci1, .slice ak1 nk1 ck1] (.slice av k cv) k rows (l.take k) w6 := by
          rw [hw6]; exact HC5.out.set hpw hpv 9 _
        have IN6 : Hid (InR (p < ·) w6 at_ ar ci ks (.slice ac1 at_.cls.length cc1) (.slice ap1 at_.prs.length cp1) (.slice aa1 ar.length ca1) (.slice ai1 ci.length ci1) (.slice ak1 nk1 ck1)) := by
          show InR _ _ _ _ _ _ _ _ _ _ _
          rw [hw6]
          exact ⟨AT5.out.above (Above.set 9 _), RA5.out.above (Above.set 9 _), RI5.out.above (Above.set 9 _), RK5.out.above (Above.set 9 _)⟩
        rw [← hw6]
        clear hw6 d9 f9 HC5 AT5 RA5 RI5 RK5
        have HC6 := Lib.hid C6
        have e0 := C6.pb.cell 0 _ rfl
        have e1 := C6.pb.cell 1 _ rfl
        have e2 := C6.pb.cell 2 _ rfl
        have e3 := C6.pb.cell 3 _ rfl
        have e4 := C6.pb.cell 4 _ rfl
        have e5 := C6.pb.cell 5 _ rfl
        have e6 := C6.pb.cell 6 _ rfl
        have e7 := C6.pb.cell 7 _ rfl
        have e8 := C6.pb.cell 8 _ rfl
        have e9 := C6.pb.cell 9 _ rfl
        have hb6 := C6.bel.size
        clear C6
        go_wp2_with (at_builtin; refine wpList_append_any _ rfl (.tmp 36) (.tmp 38) 38 rfl w.heap.size 47 iI _ 10 192 Tryz.underlying38 hiI hzI0 hzI1 hzI2 rfl (by decide) (.slice av k cv) k rows.flatten rfl (HC6.out.own.alloc _) (w6.heap.size + 1) (some ⟨w6.heap.size, 0, none⟩) 1 1 [.int .i64 kd, .string t, .string d, .string ti, .string at_.id, .slice ac1 at_.cls.length cc1, .slice ap1 at_.prs.length cp1, .slice aa1 ar.length ca1, .slice ai1 ci.length ci1, .slice ak1 nk1 ck1] rfl ?g1 ?g2 ?g3 ?g4 ?g5 ?_)
        case g1 => exact ⟨rfl, fun _ => ⟨_, rfl, by simp, new_cells w6 [.int .i64 kd, .string t, .string d, .string ti, .string at_.id, .slice ac1 at_.cls.length cc1, .slice ap1 at_.prs.length cp1, .slice aa1 ar.length ca1, .slice ai1 ci.length ci1, .slice ak1 nk1 ck1] _⟩⟩
        case g2 => intro u hu; simp at hu; rcases hu with rfl | rfl | rfl | rfl | rfl | rfl | rfl | rfl | rfl | rfl <;> rfl
        case g3 => unfold maxLen; omega
        case g4 => omega
        case g5 => simp; omega
        intro v' w7 hown' hgrow hat
        have b7 : Below w.heap.size w w7 := below_app HC6.out.bel hb6 HC6.out.own hgrow
        have RED : Hid (RdL (fun b => w.heap.size ≤ b ∧ v'.ownBlock ≠ some b) w7 ((l.take (k + 1)).map Inl.d) (rows ++ [[.int .i64 kd, .string t, .string d, .string ti, .string at_.id, .slice ac1 at_.cls.length cc1, .slice ap1 at_.prs.length cp1, .slice aa1 ar.length ca1, .slice ai1 ci.length ci1, .slice ak1 nk1 ck1]])) := by
          have hv' : ∀ b, b < w6.heap.size → (Value.slice av k cv).ownBlock ≠ some b → v'.ownBlock ≠ some b := by
            intro b hb hne
            rcases hat with e | e
            · rw [e]; exact hne
            · rw [e]; intro h; have := Option.some.inj h; omega
          have hh : ∀ b, b < w6.heap.size → (Value.slice av k cv).ownBlock ≠ some b → w7.heap[b]? = w6.heap[b]? := fun b hb hne =>
            (hgrow.block b (by rw [World.size_alloc]; omega) (fun e => hne e.symm)).trans (Below.heap_alloc _ _ b hb)
          have e1 : (l.take (k + 1)).map Inl.d = (l.take k).map Inl.d ++ [(Inl.mk kd t d ti at_ ar ci ks).d] := by
            rw [List.take_add_one, HX.out]; simp
          show RdL _ _ _ _
          rw [e1]
          refine RdL.app (RdL.keep (fun b hb hlt' => ⟨⟨hb.1, hv' b hlt' hb.2.1⟩, hh b hlt' hb.2.1⟩) _ _ HC6.out.red) (RdL.one ?_)
          refine Rd.keep (fun b hb hlt' => ?_) _ _ (Inl.mk_ kd t d ti IN6.out)
          have hne : (Value.slice av k cv).ownBlock ≠ some b := fun e => by have := HVP.out b e; omega
          exact ⟨⟨by omega, hv' b hlt' hne⟩, hh b hlt' hne⟩
        have HOW := Lib.hid hown'
        clear hown' hgrow hat e0 e1 e2 e3 e4 e5 e6 e7 e8 e9
        go_wp2
        go_roundw
        case rel =>
          refine ⟨k + 1, rows ++ [[.int .i64 kd, .string t, .string d, .string ti, .string at_.id, .slice ac1 at_.cls.length cc1, .slice ap1 at_.prs.length cp1, .slice aa1 ar.length ca1, .slice ai1 ci.length ci1, .slice ak1 nk1 ck1]], by omega, by go_num, ?_, RED.out, ?_, b7⟩
          · rw [List.flatten_append]; simpa using HOW.out
          · intro r hr
            rcases List.mem_append.1 hr with hr | hr
            · exact HRL.out r hr
            · simp at hr; subst hr; rfl
        case measure => simp [intOf]; omega
      · have hkl : k = l.length := by omega
        subst hkl
        rw [List.take_length] at hred
        have HO := Lib.hid hown
        have HRE := Lib.hid hred
        have HRL := Lib.hid hrl
        clear hown hred hrl
        go_wp2
        go_ret
        refine ⟨_, rfl, Rd.sl_own (rows := rows) (B := w.heap.size) (e := 47) ?_ (RdL.keep (fun b hb _ => ⟨hb.1, rfl⟩) _ _ HRE.out) HRL.out (fun g hg => (HO.out.lt g hg).1), hbel⟩
        rw [List.length_map]; exact HO.out
end Go.Proofs.YtlbioncagkkkoaaGreatDoor
