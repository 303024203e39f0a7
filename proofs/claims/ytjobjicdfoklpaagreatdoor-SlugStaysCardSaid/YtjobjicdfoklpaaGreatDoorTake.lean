/- Contracts of slug.copyAttr and slug.copyLine. The anchors that are left, in the box that slug.Anchors$1 takes them out of; which blocks get them. -/
import Derived.Test.YtjobjicdfoklpaaGreatDoorBd
namespace Go.Proofs.YtjobjicdfoklpaaGreatDoor
open Go.RowKit
set_option linter.unusedVariables false
set_option linter.unusedSimpArgs false

set_option maxRecDepth 100000 in
set_option maxHeartbeats 4000000 in
theorem copyAttr_any (at_ : At) (vc vp : Value) (B : Nat) (w : World) (h : AtR (· < B) w at_ vc vp) (hB : B ≤ w.heap.size) (hc : at_.cls.length ≤ 1000000) (hp : at_.prs.length ≤ 1000000) :
    Calls Tryz.prog 143 #[.agg #[.string at_.id, vc, vp]] w fun e w' => ∃ vc' vp', e = .returned (.agg #[.string at_.id, vc', vp']) ∧ AtR (w.heap.size ≤ ·) w' at_ vc' vp' ∧ Below w.heap.size w w' := by
  obtain ⟨iS, hiS, hzS0, hzS1, hzS2⟩ := info_parts infoS
  obtain ⟨iP, hiP, hzP0, hzP1, hzP2⟩ := info_parts infoPr
  obtain ⟨hcls, hprs⟩ := h
  obtain ⟨Ac, capc, rowsc, hvc, hc1, hc2, hc3, hc4, hc5⟩ := Rd.reads hcls
  obtain ⟨Ap, capp, rowsp, hvp, hp1, hp2, hp3, hp4, hp5⟩ := Rd.reads hprs
  obtain ⟨nc, hnc⟩ : ∃ nc, nc = at_.cls.length := ⟨_, rfl⟩
  obtain ⟨np, hnp⟩ : ∃ np, np = at_.prs.length := ⟨_, rfl⟩
  have e1 : (at_.cls.map D.str).length = nc := by rw [hnc]; simp
  have e2 : (at_.prs.map Pr.d).length = np := by rw [hnp]; simp
  rw [e1] at hvc hc1 hc5
  rw [e2] at hvp hp1 hp5
  rw [← hnc] at hc
  rw [← hnp] at hp
  subst hvc hvp
  have h1c : ∀ u ∈ rowsc.flatten, u.oneCell' = true := by
    intro u hu
    rw [RdL.strs_rows _ _ hc3, strs_flat] at hu
    obtain ⟨s, _, rfl⟩ := List.mem_map.1 hu
    rfl
  have h1p : ∀ u ∈ rowsp.flatten, u.oneCell' = true := by
    intro u hu
    obtain ⟨r, hr, hu⟩ := List.mem_flatten.1 hu
    obtain ⟨j, hj, rfl⟩ := List.mem_iff_getElem.1 hr
    have hj2 : j < (at_.prs.map Pr.d).length := by rw [← hp3.len]; exact hj
    obtain ⟨r', hr', hd⟩ := hp3.get j _ (List.getElem?_eq_getElem hj2)
    rw [List.getElem?_eq_getElem hj] at hr'
    obtain rfl := Option.some.inj hr'
    rw [List.getElem_map] at hd
    rw [Pr.open_ hd] at hu
    simp at hu
    rcases hu with rfl | rfl <;> rfl
  have HC5 := Lib.hid (hc5.more hB)
  have HP5 := Lib.hid (hp5.more hB)
  have H1C := Lib.hid h1c
  have H1P := Lib.hid h1p
  have HC3 := Lib.hid hc3
  have HP3 := Lib.hid hp3
  have HC4 := Lib.hid hc4
  have HP4 := Lib.hid hp4
  have HNC := Lib.hid hnc
  have HNP := Lib.hid hnp
  clear hc5 hp5 h1c h1p hc3 hp3 hc4 hp4 hnc hnp e1 e2 hcls hprs
  unfold maxLen at hc2 hp2
  go_enter Tryz.func143, Tryz.ntmps143
  go_wp2
  obtain ⟨w0, hw0⟩ : ∃ w0, w0 = (w.alloc (.cells #[.string at_.id, .slice Ac nc capc, .slice Ap np capp] 44)).alloc (.cells #[.string ⟨#[]⟩, .slice none 0 0, .slice none 0 0] 44) := ⟨_, rfl⟩
  have S0 : CpS w w0.drew at_.id (.slice Ac nc capc) (.slice Ap np capp) := by
    rw [hw0]
    refine ⟨past (new_cell w [.string at_.id, .slice Ac nc capc, .slice Ap np capp] _ 0 _ rfl) _, past (new_cell w [.string at_.id, .slice Ac nc capc, .slice Ap np capp] _ 1 _ rfl) _, past (new_cell w [.string at_.id, .slice Ac nc capc, .slice Ap np capp] _ 2 _ rfl) _, below_dN (((Below.refl _ w).alloc (Nat.le_refl _) _).alloc (by simp) _) 1⟩
  have R0 : RB w w0.drew := by
    rw [hw0]
    unfold RB
    have := heap_alloc_new (w.alloc (.cells #[.string at_.id, .slice Ac nc capc, .slice Ap np capp] 44)) (.cells #[.string ⟨#[]⟩, .slice none 0 0, .slice none 0 0] 44)
    rw [World.size_alloc] at this
    exact this
  rw [← hw0]
  clear hw0
  go_region_held3 (fun w' => w'.cell? ⟨w.heap.size, 0, none⟩ = some (.string at_.id) ∧ w'.cell? ⟨w.heap.size, 1, none⟩ = some (.slice Ac nc capc) ∧ w'.cell? ⟨w.heap.size, 2, none⟩ = some (.slice Ap np capp) ∧ Below w.heap.size w w')
    (first | exact S0 | exact (by assumption : CpS w _ at_.id (.slice Ac nc capc) (.slice Ap np capp)) | exact CpS.set (CpS.set (CpS.set (by assumption) _ _) _ _) _ _)
    (first
      | (refine step_append_any _ rfl (.const (.slice none 0 0)) (.tmp 6) 40 rfl w.heap.size 9 iS _ 1 16 Tryz.underlying40 hiS hzS0 hzS1 hzS2 rfl (by decide) (.slice none 0 0) 0 [] rfl (nil_owns _ _ _ _) w.heap.size Ac nc capc rowsc.flatten rfl (HC5.out.below (by assumption : _ ∧ _ ∧ _ ∧ Below w.heap.size w _).2.2.2) H1C.out (by unfold maxLen; omega) (by omega) (by assumption : _ ∧ _ ∧ _ ∧ Below w.heap.size w _).2.2.2.size ?_; intro vS wS hoS hgS _; simp only [Nat.zero_add, List.nil_append] at hoS; obtain ⟨aS, cS, rfl⟩ := own_slice hoS; have hSS := CpS.grown (by assumption) (show World.grownBy _ wS none from hgS); have hRS := RB.grown (by assumption) (show World.grownBy _ wS none from hgS); obtain ⟨q0, q1, q2, q3, q4, q5⟩ := hRS.cells)
      | (refine step_append_any _ rfl (.const (.slice none 0 0)) (.tmp 9) 22 rfl w.heap.size 61 iP _ 2 32 Tryz.underlying22 hiP hzP0 hzP1 hzP2 rfl (by decide) (.slice none 0 0) 0 [] rfl (nil_owns _ _ _ _) w.heap.size Ap np capp rowsp.flatten rfl (HP5.out.below (by assumption : _ ∧ _ ∧ _ ∧ Below w.heap.size w _).2.2.2) H1P.out (by unfold maxLen; omega) (by omega) (by assumption : _ ∧ _ ∧ _ ∧ Below w.heap.size w _).2.2.2.size ?_; intro vP wP hoP hgP _; simp only [Nat.zero_add, List.nil_append] at hoP; obtain ⟨aP, cP, rfl⟩ := own_slice hoP; have hSP := CpS.grown (by assumption) (show World.grownBy _ wP none from hgP); have hRP := RB.grown (by assumption) (show World.grownBy _ wP none from hgP); obtain ⟨q0, q1, q2, q3, q4, q5⟩ := hRP.cells))
  have oS := Lib.hid (hoS.kept (show World.grownBy _ wP none from hgP) (by cases (Value.slice aS nc cS).ownBlock <;> simp))
  have oP := Lib.hid hoP
  have nS := own_rb oS.out hRP (by decide)
  have nP := own_rb oP.out hRP (by decide)
  have FS := Lib.hid (fun u0 u1 u2 => own_set (own_set (own_set oS.out ⟨w.heap.size + 1, 0, none⟩ u0 nS) ⟨w.heap.size + 1, 1, none⟩ u1 nS) ⟨w.heap.size + 1, 2, none⟩ u2 nS)
  have FP := Lib.hid (fun u0 u1 u2 => own_set (own_set (own_set oP.out ⟨w.heap.size + 1, 0, none⟩ u0 nP) ⟨w.heap.size + 1, 1, none⟩ u1 nP) ⟨w.heap.size + 1, 2, none⟩ u2 nP)
  have FB := Lib.hid (fun u0 u1 u2 => (CpS.set (CpS.set (CpS.set hSP 0 u0) 1 u1) 2 u2).2.2.2)
  clear hoS hoP hgS hgP nS nP oS oP
  go_wp2
  refine bodyPost_ret (v := .agg #[.string at_.id, .slice aS nc cS, .slice aP np cP]) (by simp [results, Tryz.results143, go_sem, q0, q1, q2]) rfl ⟨_, _, rfl, ⟨?_, ?_⟩, FB.out _ _ _⟩
  · refine Rd.sl_own (rows := rowsc) (B := w.heap.size) (e := 9) ?_ HC3.out.strs_any HC4.out (fun g hg => ((FS.out (.bool true) (.bool true) (.bool true)).lt g hg).1)
    rw [List.length_map, ← HNC.out]; exact FS.out _ _ _
  · refine Rd.sl_own (rows := rowsp) (B := w.heap.size) (e := 61) ?_ HP3.out.prs_any HP4.out (fun g hg => ((FP.out (.bool true) (.bool true) (.bool true)).lt g hg).1)
    rw [List.length_map, ← HNP.out]; exact FP.out _ _ _
set_option maxRecDepth 100000 in
set_option maxHeartbeats 8000000 in
theorem copyLine_any (n : Nat) : ∀ (l : List Inl) (B : Nat) (v : Value) (w : World), Inl.szL l ≤ n → n ≤ 1000000 → Rd (· < B) w (inlsD l) [v] → B ≤ w.heap.size → Inl.bdL l →
    Calls Tryz.prog 144 #[v] w (LcPost w l) := by
  induction n using Nat.strongRecOn with
  | _ n ih =>
    intro l B v w hn hnm hrd hB hbd
    obtain ⟨iS, hiS, hzS0, hzS1, hzS2⟩ := info_parts infoS
    obtain ⟨iC, hiC, hzC0, hzC1, hzC2⟩ := info_parts infoCi
    obtain ⟨iI, hiI, hzI0, hzI1, hzI2⟩ := info_parts infoIn
    obtain ⟨a, cap, hv, hs⟩ := Rd.sl_open hrd
    obtain rfl : v = .slice a l.length cap := by simpa using hv
    have hcap : l.length ≤ cap := by simpa using hs.le
    have hll := Inl.len_le l
    have hmx := hs.max
    have HS := Lib.hid hs
    have IH := Lib.hid ih
    have HBD := Lib.hid hbd
    have HR0 : Hid (RdL (fun b => w.heap.size ≤ b ∧ (Value.slice none 0 0).ownBlock ≠ some b) w ((l.take 0).map Inl.d) []) := RdL.none
    clear hs hv hrd ih hbd
    unfold maxLen at hmx
    go_enter Tryz.func144, Tryz.ntmps144
    go_wp2
    go_loopw [3, 8] (fun v vi wr => LcRel w wr l v vi) (fun _ i _ => l.length - (intOf i).toNat)
    case atStart => exact ⟨0, [], Nat.zero_le _, rfl, nil_owns _ _ _ _, HR0.out, by simp, Below.refl _ _⟩
    case round =>
      obtain ⟨k, rows, hk, rfl, hown, hred, hrl, hbel⟩ := hrel
      by_cases hlt : k < l.length
      · obtain ⟨x, hx⟩ : ∃ x, l[k]? = some x := ⟨_, List.getElem?_eq_getElem hlt⟩
        obtain ⟨kd, t, d, ti, at_, ar, ci, ks⟩ := x
        obtain ⟨g, off, vc, vp, va, vi, vk, rfl, hok, hbl, hc, hR⟩ := inls_at HS.out hx
        obtain ⟨c0, c1, c2, c3, c4, c5, c6, c7, c8, c9⟩ := hc.below hbel
        clear hc
        have hb1 := Inl.bdL_get l k _ HBD.out hx
        rw [Inl.bd] at hb1
        obtain ⟨hn1, hn2, hn3, hn4, hn5⟩ := hb1
        have hsz := Inl.szL_get l k _ hx
        rw [Inl.sz] at hsz
        obtain ⟨av, cv, rfl⟩ := own_slice hown
        obtain ⟨ac, nc, cc, rfl⟩ : ∃ ac nc cc, vc = .slice ac nc cc := by obtain ⟨a', c', h', _⟩ := Rd.sl_open hR.at_.cls; exact ⟨_, _, _, by simpa using h'⟩
        obtain ⟨ap, np, cp, rfl⟩ : ∃ ac nc cc, vp = .slice ac nc cc := by obtain ⟨a', c', h', _⟩ := Rd.sl_open hR.at_.prs; exact ⟨_, _, _, by simpa using h'⟩
        obtain ⟨Aa, ca, rowsa, rfl, ha1, ha2, ha3, ha4, ha5⟩ := Rd.reads hR.args
        obtain ⟨Ai, cci, rowsi, rfl, hi1, hi2, hi3, hi4, hi5⟩ := Rd.reads hR.cites
        obtain ⟨ak, nk, ck, rfl⟩ : ∃ ac nc cc, vk = .slice ac nc cc := by obtain ⟨a', c', h', _⟩ := Rd.sl_open hR.kids; exact ⟨_, _, _, by simpa using h'⟩
        have HR := Lib.hid hR
        have HA3 := Lib.hid ha3
        have HA4 := Lib.hid ha4
        have HA5 := Lib.hid ha5
        have HI3 := Lib.hid hi3
        have HI4 := Lib.hid hi4
        have HI5 := Lib.hid hi5
        have HRL := Lib.hid hrl
        have HX := Lib.hid hx
        have HOWN := Lib.hid hown
        have HRED := Lib.hid hred
        have hsz1 := hbel.size
        clear hR ha3 ha4 ha5 hi3 hi4 hi5 hrl hx hown hred
        go_upto_region 5 with (fail)
        obtain ⟨p, hp⟩ : ∃ p, p = wr.heap.size := ⟨_, rfl⟩
        obtain ⟨wA, hwA⟩ : ∃ wA, wA = wr.alloc (.cells #[.int .i64 kd, .string t, .string d, .string ti, .string at_.id, .slice ac nc cc, .slice ap np cp, .slice Aa (ar.map D.str).length ca, .slice Ai (ci.map Ci.d).length cci, .slice ak nk ck] 47) := ⟨_, rfl⟩
        have hpv : (Value.slice av k cv).ownBlock ≠ some p := by rw [hp]; exact own_ne HOWN.out (Nat.le_refl _)
        have hpw : w.heap.size ≤ p := by rw [hp]; exact hsz1
        have hvp : ∀ g, (Value.slice av k cv).ownBlock = some g → g < p := fun g hg => by rw [hp]; exact (HOWN.out.lt g hg).2
        have HVP := Lib.hid hvp
        clear hvp
        have CA : CL w p [.int .i64 kd, .string t, .string d, .string ti, .string at_.id, .slice ac nc cc, .slice ap np cp, .slice Aa (ar.map D.str).length ca, .slice Ai (ci.map Ci.d).length cci, .slice ak nk ck] (.slice av k cv) k rows (l.take k) wA := by
          rw [hwA, hp]
          refine ⟨HOWN.out.alloc _, RdL.keep (fun b hb hlt' => ⟨⟨hb.1, hb.2, by omega⟩, Below.heap_alloc _ _ b hlt'⟩) _ _ HRED.out, ?_, hbel.alloc hbel.size _⟩
          exact heap_alloc_new wr _
        have hpA : wA.heap.size = p + 1 := by rw [hwA, hp]; simp
        have HPA := Lib.hid hpA
        rw [List.length_map, List.length_map] at CA hwA
        rw [← hwA, ← hp]
        clear hwA hp HOWN HRED c0 c1 c2 c3 c4 c5 c6 c7 c8 c9 hbel hsz1 hbl hpA
        have HCA := Lib.hid CA
        have d4 := CA.pb.cell 4 _ rfl
        have d5 := CA.pb.cell 5 _ rfl
        have d6 := CA.pb.cell 6 _ rfl
        have CT := Lib.hid (copyAttr_any at_ _ _ B wA (HR.out.at_.below (CA.bel.mono hB)) (Nat.le_trans hB CA.bel.size) hn1 hn2)
        clear CA
        go_wp2_with fail
        refine CT.out.mono ?_
        rintro e w1 ⟨vc1, vp1, rfl, hat1, b1⟩
        obtain ⟨ac1, nc1, cc1, rfl⟩ : ∃ ac nc cc, vc1 = .slice ac nc cc := by obtain ⟨a', c', h', _⟩ := Rd.sl_open hat1.cls; exact ⟨_, _, _, by simpa using h'⟩
        obtain ⟨ap1, np1, cp1, rfl⟩ : ∃ ac nc cc, vp1 = .slice ac nc cc := by obtain ⟨a', c', h', _⟩ := Rd.sl_open hat1.prs; exact ⟨_, _, _, by simpa using h'⟩
        have C1 := HCA.out.grown (grown_below b1)
        have AT1 := Lib.hid (hat1.weaken (ok' := (p < ·)) (fun b hb => by rw [HPA.out] at hb; omega))
        have HC1 := Lib.hid C1
        have d4 := C1.pb.cell 4 _ rfl
        have d5 := C1.pb.cell 5 _ rfl
        have d6 := C1.pb.cell 6 _ rfl
        have f4 := C1.pb.free 4
        have f5 := C1.pb.free 5
        have f6 := C1.pb.free 6
        clear C1 CT HCA hat1 b1
        go_upto_region 6 with (fail)
        obtain ⟨w2, hw2⟩ : ∃ w2, w2 = ((w1.setCell ⟨p, 4, none⟩ (.string at_.id)).setCell ⟨p, 5, none⟩ (.slice ac1 nc1 cc1)).setCell ⟨p, 6, none⟩ (.slice ap1 np1 cp1) := ⟨_, rfl⟩
        have C2 : CL w p [.int .i64 kd, .string t, .string d, .string ti, .string at_.id, .slice ac1 nc1 cc1, .slice ap1 np1 cp1, .slice Aa ar.length ca, .slice Ai ci.length cci, .slice ak nk ck] (.slice av k cv) k rows (l.take k) w2 := by
          rw [hw2]; exact ((HC1.out.set hpw hpv 4 _).set hpw hpv 5 _).set hpw hpv 6 _
        have AT2 : Hid (AtR (p < ·) w2 at_ (.slice ac1 nc1 cc1) (.slice ap1 np1 cp1)) := by
          show AtR _ _ _ _ _
          rw [hw2]; exact ((AT1.out.above (Above.set 4 _)).above (Above.set 5 _)).above (Above.set 6 _)
        rw [← hw2]
        clear hw2 d4 d5 d6 f4 f5 f6 HC1 AT1
        have HC2 := Lib.hid C2
        have d7 := C2.pb.cell 7 _ rfl
        have hl2 := C2.pb.lt
        have ra := HA5.out.below (C2.bel.mono hB)
        rw [List.length_map] at ra
        have one1 : ∀ u ∈ rowsa.flatten, u.oneCell' = true := by
          intro u hu
          rw [RdL.strs_rows _ _ HA3.out, strs_flat] at hu
          obtain ⟨s, _, rfl⟩ := List.mem_map.1 hu
          rfl
        have RA := Lib.hid ra
        have ONE1 := Lib.hid one1
        clear C2 ra one1
        go_wp2_with (at_builtin; refine wpList_append_any _ rfl (.const (.slice none 0 0)) (.tmp 17) 40 rfl (p + 1) 9 iS _ 1 16 Tryz.underlying40 hiS hzS0 hzS1 hzS2 rfl (by decide) (.slice none 0 0) 0 [] rfl (nil_owns _ _ _ _) B Aa ar.length ca rowsa.flatten rfl RA.out ONE1.out ?a1 ?a2 ?a3 ?_)
        case a1 => unfold maxLen; omega
        case a2 => omega
        case a3 => omega
        intro va1 w2b hoA hgA _
        (try simp only [Nat.zero_add, List.nil_append] at hoA)
        obtain ⟨aa1, ca1, rfl⟩ := own_slice hoA
        have C2b := HC2.out.grown (show World.grownBy _ w2b none from hgA)
        have HC2b := Lib.hid C2b
        have AT2b := Lib.hid (AT2.out.above (Above.grown (show World.grownBy _ w2b none from hgA)))
        have HOA := Lib.hid hoA
        have d7 := C2b.pb.cell 7 _ rfl
        have f7 := C2b.pb.free 7
        clear hoA hgA C2b HC2 AT2 RA ONE1 hl2
        go_upto_region 7 with (fail)
        obtain ⟨w3, hw3⟩ : ∃ w3, w3 = w2b.setCell ⟨p, 7, none⟩ (.slice aa1 ar.length ca1) := ⟨_, rfl⟩
        have C3 : CL w p [.int .i64 kd, .string t, .string d, .string ti, .string at_.id, .slice ac1 nc1 cc1, .slice ap1 np1 cp1, .slice aa1 ar.length ca1, .slice Ai ci.length cci, .slice ak nk ck] (.slice av k cv) k rows (l.take k) w3 := by
          rw [hw3]; exact HC2b.out.set hpw hpv 7 _
        have AT3 : Hid (AtR (p < ·) w3 at_ (.slice ac1 nc1 cc1) (.slice ap1 np1 cp1)) := by
          show AtR _ _ _ _ _
          rw [hw3]; exact AT2b.out.above (Above.set 7 _)
        have RA3 : Hid (Rd (p < ·) w3 (strsD ar) [.slice aa1 ar.length ca1]) := by
          show Rd _ _ _ _
          rw [hw3]
          have hne : (Value.slice aa1 ar.length ca1).ownBlock ≠ some p := fun e => by have := (HOA.out.lt p e).1; omega
          have ho := own_set HOA.out ⟨p, 7, none⟩ (.slice aa1 ar.length ca1) hne
          refine Rd.sl_own (rows := rowsa) (B := p + 1) (e := 9) ?_ HA3.out.strs_any HA4.out (fun g hg => (ho.lt g hg).1)
          rw [List.length_map]; exact ho
        rw [← hw3]
        clear hw3 d7 f7 HC2b AT2b HOA HA5
        have HC3 := Lib.hid C3
        have d8 := C3.pb.cell 8 _ rfl
        have hl3 := C3.pb.lt
        have ri := HI5.out.below (C3.bel.mono hB)
        rw [List.length_map] at ri
        have one2 : ∀ u ∈ rowsi.flatten, u.oneCell' = true := by
          intro u hu
          obtain ⟨r, hr, hu⟩ := List.mem_flatten.1 hu
          obtain ⟨j, hj, rfl⟩ := List.mem_iff_getElem.1 hr
          have hj2 : j < (ci.map Ci.d).length := by rw [← HI3.out.len]; exact hj
          obtain ⟨r', hr', hd⟩ := HI3.out.get j _ (List.getElem?_eq_getElem hj2)
          rw [List.getElem?_eq_getElem hj] at hr'
          obtain rfl := Option.some.inj hr'
          rw [List.getElem_map] at hd
          rw [Ci.open_ hd] at hu
          simp at hu
          rcases hu with rfl | rfl | rfl | rfl <;> rfl
        have RI := Lib.hid ri
        have ONE2 := Lib.hid one2
        clear C3 ri one2
        go_wp2_with (at_builtin; refine wpList_append_any _ rfl (.const (.slice none 0 0)) (.tmp 21) 45 rfl (p + 1) 109 iC _ 4 56 Tryz.underlying45 hiC hzC0 hzC1 hzC2 rfl (by decide) (.slice none 0 0) 0 [] rfl (nil_owns _ _ _ _) B Ai ci.length cci rowsi.flatten rfl RI.out ONE2.out ?b1 ?b2 ?b3 ?_)
        case b1 => unfold maxLen; omega
        case b2 => omega
        case b3 => omega
        intro vi1 w3b hoI hgI _
        (try simp only [Nat.zero_add, List.nil_append] at hoI)
        obtain ⟨ai1, ci1, rfl⟩ := own_slice hoI
        have C3b := HC3.out.grown (show World.grownBy _ w3b none from hgI)
        have HC3b := Lib.hid C3b
        have AT3b := Lib.hid (AT3.out.above (Above.grown (show World.grownBy _ w3b none from hgI)))
        have RA3b := Lib.hid (RA3.out.above (Above.grown (show World.grownBy _ w3b none from hgI)))
        have HOI := Lib.hid hoI
        have d8 := C3b.pb.cell 8 _ rfl
        have f8 := C3b.pb.free 8
        clear hoI hgI C3b HC3 AT3 RA3 RI ONE2 hl3
        go_upto_region 8 with (fail)
        obtain ⟨w4, hw4⟩ : ∃ w4, w4 = w3b.setCell ⟨p, 8, none⟩ (.slice ai1 ci.length ci1) := ⟨_, rfl⟩
        have C4 : CL w p [.int .i64 kd, .string t, .string d, .string ti, .string at_.id, .slice ac1 nc1 cc1, .slice ap1 np1 cp1, .slice aa1 ar.length ca1, .slice ai1 ci.length ci1, .slice ak nk ck] (.slice av k cv) k rows (l.take k) w4 := by
          rw [hw4]; exact HC3b.out.set hpw hpv 8 _
        have AT4 : Hid (AtR (p < ·) w4 at_ (.slice ac1 nc1 cc1) (.slice ap1 np1 cp1)) := by
          show AtR _ _ _ _ _
          rw [hw4]; exact AT3b.out.above (Above.set 8 _)
        have RA4 : Hid (Rd (p < ·) w4 (strsD ar) [.slice aa1 ar.length ca1]) := by
          show Rd _ _ _ _
          rw [hw4]; exact RA3b.out.above (Above.set 8 _)
        have RI4 : Hid (Rd (p < ·) w4 (cisD ci) [.slice ai1 ci.length ci1]) := by
          show Rd _ _ _ _
          rw [hw4]
          have hne : (Value.slice ai1 ci.length ci1).ownBlock ≠ some p := fun e => by have := (HOI.out.lt p e).1; omega
          have ho := own_set HOI.out ⟨p, 8, none⟩ (.slice ai1 ci.length ci1) hne
          refine Rd.sl_own (rows := rowsi) (B := p + 1) (e := 109) ?_ HI3.out.cis_any HI4.out (fun g hg => (ho.lt g hg).1)
          rw [List.length_map]; exact ho
        rw [← hw4]
        clear hw4 d8 f8 HC3b AT3b RA3b HOI HI5
        have HC4 := Lib.hid C4
        have d9 := C4.pb.cell 9 _ rfl
        have hl4 := C4.pb.lt
        have IK := Lib.hid (IH.out (Inl.szL ks) (by omega) ks B (.slice ak nk ck) w4 (Nat.le_refl _) (by omega) (HR.out.kids.below (C4.bel.mono hB)) (Nat.le_trans hB C4.bel.size) hn5)
        clear C4
        go_wp2_with fail
        refine IK.out.mono ?_
        rintro e w5 ⟨vk1, rfl, hk1, b5⟩
        obtain ⟨ak1, nk1, ck1, rfl⟩ : ∃ ac nc cc, vk1 = .slice ac nc cc := by obtain ⟨a', c', h', _⟩ := Rd.sl_open hk1; exact ⟨_, _, _, by simpa using h'⟩
        have C5 := HC4.out.grown (grown_below b5)
        have HC5 := Lib.hid C5
        have AT5 := Lib.hid (AT4.out.above (Above.grown (grown_below b5)))
        have RA5 := Lib.hid (RA4.out.above (Above.grown (grown_below b5)))
        have RI5 := Lib.hid (RI4.out.above (Above.grown (grown_below b5)))
        have RK5 := Lib.hid (hk1.weaken (ok' := (p < ·)) (fun b hb => by omega))
        have d9 := C5.pb.cell 9 _ rfl
        have f9 := C5.pb.free 9
        clear C5 HC4 AT4 RA4 RI4 IK hk1 b5 hl4
        go_upto_region 9 with (fail)
        obtain ⟨w6, hw6⟩ : ∃ w6, w6 = w5.setCell ⟨p, 9, none⟩ (.slice ak1 nk1 ck1) := ⟨_, rfl⟩
        have C6 : CL w p [.int .i64 kd, .string t, .string d, .string ti, .string at_.id, .slice ac1 nc1 cc1, .slice ap1 np1 cp1, .slice aa1 ar.length ca1, .slice ai1 ci.length ci1, .slice ak1 nk1 ck1] (.slice av k cv) k rows (l.take k) w6 := by
          rw [hw6]; exact HC5.out.set hpw hpv 9 _
        have IN6 : Hid (InR (p < ·) w6 at_ ar ci ks (.slice ac1 nc1 cc1) (.slice ap1 np1 cp1) (.slice aa1 ar.length ca1) (.slice ai1 ci.length ci1) (.slice ak1 nk1 ck1)) := by
          show InR _ _ _ _ _ _ _ _ _ _ _
          rw [hw6]
          exact ⟨AT5.out.above (Above.set 9 _), RA5.out.above (Above.set 9 _), RI5.out.above (Above.set 9 _), RK5.out.above (Above.set 9 _)⟩
        rw [← hw6]
        clear hw6 d9 f9 HC5 AT5 RA5 RI5 RK5
        have HC6 := Lib.hid C6
        have e0 := C6.pb.cell 0 _ rfl
        have e1 := C6.pb.cell 1 _ rfl
        have e2 := C6.pb.cell 2 _ rfl
        have e3 := C6.pb.cell 3 _ rfl
        have e4 := C6.pb.cell 4 _ rfl
        have e5 := C6.pb.cell 5 _ rfl
        have e6 := C6.pb.cell 6 _ rfl
        have e7 := C6.pb.cell 7 _ rfl
        have e8 := C6.pb.cell 8 _ rfl
        have e9 := C6.pb.cell 9 _ rfl
        have hb6 := C6.bel.size
        clear C6
        go_wp2_with (at_builtin; refine wpList_append_any _ rfl (.tmp 28) (.tmp 30) 38 rfl w.heap.size 47 iI _ 10 192 Tryz.underlying38 hiI hzI0 hzI1 hzI2 rfl (by decide) (.slice av k cv) k rows.flatten rfl (HC6.out.own.alloc _) (w6.heap.size + 1) (some ⟨w6.heap.size, 0, none⟩) 1 1 [.int .i64 kd, .string t, .string d, .string ti, .string at_.id, .slice ac1 nc1 cc1, .slice ap1 np1 cp1, .slice aa1 ar.length ca1, .slice ai1 ci.length ci1, .slice ak1 nk1 ck1] rfl ?g1 ?g2 ?g3 ?g4 ?g5 ?_)
        case g1 => exact ⟨rfl, fun _ => ⟨_, rfl, by simp, new_cells w6 [.int .i64 kd, .string t, .string d, .string ti, .string at_.id, .slice ac1 nc1 cc1, .slice ap1 np1 cp1, .slice aa1 ar.length ca1, .slice ai1 ci.length ci1, .slice ak1 nk1 ck1] _⟩⟩
        case g2 => intro u hu; simp at hu; rcases hu with rfl | rfl | rfl | rfl | rfl | rfl | rfl | rfl | rfl | rfl <;> rfl
        case g3 => unfold maxLen; omega
        case g4 => omega
        case g5 => simp; omega
        intro v' w7 hown' hgrow hat
        have b7 : Below w.heap.size w w7 := below_app HC6.out.bel hb6 HC6.out.own hgrow
        have RED : Hid (RdL (fun b => w.heap.size ≤ b ∧ v'.ownBlock ≠ some b) w7 ((l.take (k + 1)).map Inl.d) (rows ++ [[.int .i64 kd, .string t, .string d, .string ti, .string at_.id, .slice ac1 nc1 cc1, .slice ap1 np1 cp1, .slice aa1 ar.length ca1, .slice ai1 ci.length ci1, .slice ak1 nk1 ck1]])) := by
          have hv' : ∀ b, b < w6.heap.size → (Value.slice av k cv).ownBlock ≠ some b → v'.ownBlock ≠ some b := by
            intro b hb hne
            rcases hat with e | e
            · rw [e]; exact hne
            · rw [e]; intro h; have := Option.some.inj h; omega
          have hh : ∀ b, b < w6.heap.size → (Value.slice av k cv).ownBlock ≠ some b → w7.heap[b]? = w6.heap[b]? := fun b hb hne =>
            (hgrow.block b (by rw [World.size_alloc]; omega) (fun e => hne e.symm)).trans (Below.heap_alloc _ _ b hb)
          have e1 : (l.take (k + 1)).map Inl.d = (l.take k).map Inl.d ++ [(Inl.mk kd t d ti at_ ar ci ks).d] := by
            rw [List.take_add_one, HX.out]; simp
          show RdL _ _ _ _
          rw [e1]
          refine RdL.app (RdL.keep (fun b hb hlt' => ⟨⟨hb.1, hv' b hlt' hb.2.1⟩, hh b hlt' hb.2.1⟩) _ _ HC6.out.red) (RdL.one ?_)
          refine Rd.keep (fun b hb hlt' => ?_) _ _ (Inl.mk_ kd t d ti IN6.out)
          have hne : (Value.slice av k cv).ownBlock ≠ some b := fun e => by have := HVP.out b e; omega
          exact ⟨⟨by omega, hv' b hlt' hne⟩, hh b hlt' hne⟩
        have HOW := Lib.hid hown'
        clear hown' hgrow hat e0 e1 e2 e3 e4 e5 e6 e7 e8 e9
        go_wp2
        go_roundw
        case rel =>
          refine ⟨k + 1, rows ++ [[.int .i64 kd, .string t, .string d, .string ti, .string at_.id, .slice ac1 nc1 cc1, .slice ap1 np1 cp1, .slice aa1 ar.length ca1, .slice ai1 ci.length ci1, .slice ak1 nk1 ck1]], by omega, by go_num, ?_, RED.out, ?_, b7⟩
          · rw [List.flatten_append]; simpa using HOW.out
          · intro r hr
            rcases List.mem_append.1 hr with hr | hr
            · exact HRL.out r hr
            · simp at hr; subst hr; rfl
        case measure => simp [intOf]; omega
      · have hkl : k = l.length := by omega
        subst hkl
        rw [List.take_length] at hred
        have HO := Lib.hid hown
        have HRE := Lib.hid hred
        have HRL := Lib.hid hrl
        clear hown hred hrl
        go_wp2
        go_ret
        refine ⟨_, rfl, Rd.sl_own (rows := rows) (B := w.heap.size) (e := 47) ?_ (RdL.keep (fun b hb _ => ⟨hb.1, rfl⟩) _ _ HRE.out) HRL.out (fun g hg => (HO.out.lt g hg).1), hbel⟩
        rw [List.length_map]; exact HO.out
end Go.Proofs.YtjobjicdfoklpaaGreatDoor

namespace Go.Proofs.YtjobjicdfoklpaaGreatDoor
open Go.RowKit
set_option linter.unusedVariables false
set_option linter.unusedSimpArgs false

mutual
/-- A block with the anchors that are left: the first one for a heading without an identifier, then the Kids. -/
def Blk.name : Blk → List ByteArray → Blk × List ByteArray
  | .mk k lv i t d ti a li ks, A =>
    if k = 2 ∧ a.id.data.toList = [] then (.mk k lv i t d ti { a with id := A.headD a.id } li (Blk.nameL ks A.tail).1, (Blk.nameL ks A.tail).2)
    else (.mk k lv i t d ti a li (Blk.nameL ks A).1, (Blk.nameL ks A).2)
def Blk.nameL : List Blk → List ByteArray → List Blk × List ByteArray
  | [], A => ([], A)
  | x :: l, A => ((x.name A).1 :: (Blk.nameL l (x.name A).2).1, (Blk.nameL l (x.name A).2).2)
end
mutual
/-- How many headings have no identifier. -/
def Blk.bare : Blk → Nat
  | .mk k _ _ _ _ _ a _ ks => (if k = 2 ∧ a.id.data.toList = [] then 1 else 0) + Blk.bareL ks
def Blk.bareL : List Blk → Nat
  | [] => 0
  | x :: l => x.bare + Blk.bareL l
end
theorem Blk.nameL_app : ∀ (l m : List Blk) (A : List ByteArray), Blk.nameL (l ++ m) A = ((Blk.nameL l A).1 ++ (Blk.nameL m (Blk.nameL l A).2).1, (Blk.nameL m (Blk.nameL l A).2).2)
  | [], m, A => by simp [Blk.nameL]
  | x :: l, m, A => by rw [List.cons_append, Blk.nameL, Blk.nameL, Blk.nameL_app l m]; rfl
theorem Blk.nameL_take (l : List Blk) (A : List ByteArray) (k : Nat) (x : Blk) (h : l[k]? = some x) :
    Blk.nameL (l.take (k + 1)) A = ((Blk.nameL (l.take k) A).1 ++ [(x.name (Blk.nameL (l.take k) A).2).1], (x.name (Blk.nameL (l.take k) A).2).2) := by
  rw [List.take_add_one, h, Blk.nameL_app]
  simp [Blk.nameL]
theorem Blk.bareL_app (l m : List Blk) : Blk.bareL (l ++ m) = Blk.bareL l + Blk.bareL m := by
  induction l with
  | nil => rw [Blk.bareL]; simp
  | cons x l ih => rw [List.cons_append, Blk.bareL, Blk.bareL, ih]; omega
theorem Blk.bareL_get (l : List Blk) (k : Nat) (x : Blk) (h : l[k]? = some x) : Blk.bareL (l.take k) + x.bare ≤ Blk.bareL l := by
  have e : l = l.take k ++ x :: l.drop (k + 1) := by
    conv => lhs; rw [← List.take_append_drop k l]
    rw [drop_cons l k x h]
  have := congrArg Blk.bareL e
  rw [Blk.bareL_app, Blk.bareL] at this
  omega
mutual
theorem Blk.name_rest : ∀ (x : Blk) (A : List ByteArray), x.bare ≤ A.length → (x.name A).2.length + x.bare = A.length
  | .mk k lv i t d ti a li ks, A, h => by
    rw [Blk.bare] at h ⊢
    rw [Blk.name]
    split
    · rename_i hc
      rw [if_pos hc] at h
      have := Blk.nameL_rest ks A.tail (by rw [List.length_tail]; omega)
      rw [List.length_tail] at this
      simp only
      omega
    · rename_i hc
      rw [if_neg hc] at h
      have := Blk.nameL_rest ks A (by omega)
      simp only
      omega
theorem Blk.nameL_rest : ∀ (l : List Blk) (A : List ByteArray), Blk.bareL l ≤ A.length → (Blk.nameL l A).2.length + Blk.bareL l = A.length
  | [], A, _ => by simp [Blk.nameL, Blk.bareL]
  | x :: l, A, h => by
    rw [Blk.bareL] at h ⊢
    rw [Blk.nameL]
    have h1 := Blk.name_rest x A (by omega)
    have h2 := Blk.nameL_rest l (x.name A).2 (by omega)
    simp only
    omega
end

/-- The box bx holds a slice of the anchors A; they lie below it. -/
def BxAt (w : World) (bx : Nat) (A : List ByteArray) : Prop :=
  ∃ a cap, w.heap[bx]? = some (.cells #[.slice a A.length cap] 40 (0, 0)) ∧ A.length ≤ cap ∧ cap ≤ maxLen ∧ Reads w bx 1 a A.length (A.map Value.string)
theorem BxAt.keep {w w' : World} {bx : Nat} {A : List ByteArray} (h : BxAt w bx A) (hk : ∀ b, b ≤ bx → w'.heap[b]? = w.heap[b]?) : BxAt w' bx A := by
  obtain ⟨a, cap, h1, h2, h3, h4⟩ := h
  exact ⟨a, cap, (hk bx (Nat.le_refl _)).trans h1, h2, h3, h4.keep fun p hp => World.cell?_of_block (hk _ (Nat.le_of_lt hp))⟩

theorem set_grown (w : World) (bx : Nat) (u : Value) : w.grownBy (w.setCell ⟨bx, 0, none⟩ u) (some bx) :=
  ⟨rfl, rfl, rfl, by simp [World.setCell], fun i _ hne => Below.heap_setCell w ⟨bx, 0, none⟩ u i (fun e => hne (by rw [e]))⟩
/-- The box behind a store. -/
theorem BxAt.put {w : World} {bx : Nat} {old : Value} (h1 : w.heap[bx]? = some (.cells #[old] 40 (0, 0))) {A : List ByteArray} {a : Option Addr} {cap : Nat} (hc : A.length ≤ cap) (hm : cap ≤ maxLen) (hr : Reads w bx 1 a A.length (A.map Value.string)) :
    BxAt (w.setCell ⟨bx, 0, none⟩ (.slice a A.length cap)) bx A := by
  refine ⟨a, cap, by simp [World.setCell, Array.getElem?_modify, h1], hc, hm, hr.setCell (p := ⟨bx, 0, none⟩) (Nat.le_refl _) _⟩

def TkPost (w : World) (bx : Nat) (x : ByteArray) (A : List ByteArray) (e : Ending) (w' : World) : Prop := e = .returned (.string x) ∧ BxAt w' bx A ∧ w.grownBy w' (some bx)

set_option maxRecDepth 100000 in
set_option maxHeartbeats 1000000 in
theorem take_any (x : ByteArray) (A : List ByteArray) (bx : Nat) (w : World) (h : BxAt w bx (x :: A)) :
    Calls Tryz.prog 78 #[.pointer (some ⟨bx, 0, none⟩)] w (TkPost w bx x A) := by
  obtain ⟨a, cap, h1, h2, h3, h4⟩ := h
  obtain ⟨ad, e, hb, hc⟩ := h4.2 (by simp)
  subst e
  have c0 : w.cell? ⟨bx, 0, none⟩ = some (.slice (some ad) (A.length + 1) cap) := by simp [World.cell?, h1]
  have f0 : w.frozen? ⟨bx, 0, none⟩ = false := by simp [World.frozen?, h1]
  have c1 := hc 0 (.string x) rfl
  have hcut := h4.cut (k := 1) (cap := cap) (by simp) h2
  simp only [List.length_cons] at h2
  have H1 := Lib.hid h1
  have HC := Lib.hid hcut
  have hz : ad.add 0 = ad := by unfold Addr.add; simp
  rw [hz] at c1
  unfold maxLen at h3
  obtain ⟨g, off, sp⟩ := ad
  have hsp : sp = none := World.cell?_spot c1
  subst hsp
  clear h1 h4 hcut hc hz
  by_cases hk : cap = 1
  · subst hk
    have hA : A = [] := List.length_eq_zero_iff.1 (by omega)
    subst hA
    go_enter Tryz.func78, Tryz.ntmps78
    go_wp2
    go_ret
    exact ⟨rfl, BxAt.put (A := []) H1.out (by simp) (by unfold maxLen; omega) Reads.none_, set_grown _ _ _⟩
  · rw [if_neg hk] at HC
    go_enter Tryz.func78, Tryz.ntmps78
    go_wp2
    go_ret
    refine ⟨rfl, BxAt.put (A := A) (a := some ⟨g, off + 1, none⟩) (cap := cap - 1) H1.out (by omega) (by unfold maxLen; omega) ?_, set_grown _ _ _⟩
    have := HC.out
    simpa [Addr.add] using this
end Go.Proofs.YtjobjicdfoklpaaGreatDoor
