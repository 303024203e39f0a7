/- Contracts of toc.copyAttr, copyOne, copyLine. -/
import Derived.Test.YtlbioncagkkkoaaGreatDoorKTcM
import Derived.Test.YtlbioncagkkkoaaGreatDoorKAvd
import Derived.Test.YtlbioncagkkkoaaGreatDoorKInlsW
namespace Go.Proofs.YtlbioncagkkkoaaGreatDoor
open Go.RowKit
set_option linter.unusedVariables false
set_option linter.unusedSimpArgs false

set_option maxRecDepth 100000 in
set_option maxHeartbeats 4000000 in
theorem tocAttr_any (at_ : At) (vc vp : Value) (B : Nat) (w : World) (h : AtR (· < B) w at_ vc vp) (hB : B ≤ w.heap.size) (hc : at_.cls.length ≤ 1000000) (hp : at_.prs.length ≤ 1000000) :
    Calls Tryz.prog 69 #[.agg #[.string at_.id, vc, vp]] w fun e w' => ∃ vc' vp', e = .returned (.agg #[.string at_.id, vc', vp']) ∧ AtR (w.heap.size ≤ ·) w' at_ vc' vp' ∧ Below w.heap.size w w' := by
  obtain ⟨iS, hiS, hzS0, hzS1, hzS2⟩ := info_parts infoS
  obtain ⟨iP, hiP, hzP0, hzP1, hzP2⟩ := info_parts infoPr
  obtain ⟨hcls, hprs⟩ := h
  obtain ⟨Ac, capc, rowsc, hvc, hc1, hc2, hc3, hc4, hc5⟩ := Rd.reads hcls
  obtain ⟨Ap, capp, rowsp, hvp, hp1, hp2, hp3, hp4, hp5⟩ := Rd.reads hprs
  obtain ⟨nc, hnc⟩ : ∃ nc, nc = at_.cls.length := ⟨_, rfl⟩
  obtain ⟨np, hnp⟩ : ∃ np, np = at_.prs.length := ⟨_, rfl⟩
  have e1 : (at_.cls.map D.str).length = nc := by rw [hnc]; simp
  have e2 : (at_.prs.map Pr.d).length = np := by rw [hnp]; simp
  rw [e1] at hvc hc1 hc5
  rw [e2] at hvp hp1 hp5
  rw [← hnc] at hc
  rw [← hnp] at hp
  subst hvc hvp
  have h1c : ∀ u ∈ rowsc.flatten, u.oneCell' = true := by
    intro u hu
    rw [RdL.strs_rows _ _ hc3, strs_flat] at hu
    obtain ⟨s, _, rfl⟩ := List.mem_map.1 hu
    rfl
  have h1p : ∀ u ∈ rowsp.flatten, u.oneCell' = true := by
    intro u hu
    obtain ⟨r, hr, hu⟩ := List.mem_flatten.1 hu
    obtain ⟨j, hj, rfl⟩ := List.mem_iff_getElem.1 hr
    have hj2 : j < (at_.prs.map Pr.d).length := by rw [← hp3.len]; exact hj
    obtain ⟨r', hr', hd⟩ := hp3.get j _ (List.getElem?_eq_getElem hj2)
    rw [List.getElem?_eq_getElem hj] at hr'
    obtain rfl := Option.some.inj hr'
    rw [List.getElem_map] at hd
    rw [Pr.open_ hd] at hu
    simp at hu
    rcases hu with rfl | rfl <;> rfl
  have HC5 := Lib.hid (hc5.more hB)
  have HP5 := Lib.hid (hp5.more hB)
  have H1C := Lib.hid h1c
  have H1P := Lib.hid h1p
  have HC3 := Lib.hid hc3
  have HP3 := Lib.hid hp3
  have HC4 := Lib.hid hc4
  have HP4 := Lib.hid hp4
  have HNC := Lib.hid hnc
  have HNP := Lib.hid hnp
  clear hc5 hp5 h1c h1p hc3 hp3 hc4 hp4 hnc hnp e1 e2 hcls hprs
  unfold maxLen at hc2 hp2
  go_enter Tryz.func69, Tryz.ntmps69
  go_wp2
  obtain ⟨w0, hw0⟩ : ∃ w0, w0 = (w.alloc (.cells #[.string at_.id, .slice Ac nc capc, .slice Ap np capp] 44)).alloc (.cells #[.string ⟨#[]⟩, .slice none 0 0, .slice none 0 0] 44) := ⟨_, rfl⟩
  have S0 : CpS w w0.drew at_.id (.slice Ac nc capc) (.slice Ap np capp) := by
    rw [hw0]
    refine ⟨past (new_cell w [.string at_.id, .slice Ac nc capc, .slice Ap np capp] _ 0 _ rfl) _, past (new_cell w [.string at_.id, .slice Ac nc capc, .slice Ap np capp] _ 1 _ rfl) _, past (new_cell w [.string at_.id, .slice Ac nc capc, .slice Ap np capp] _ 2 _ rfl) _, below_dN (((Below.refl _ w).alloc (Nat.le_refl _) _).alloc (by simp) _) 1⟩
  have R0 : RB w w0.drew := by
    rw [hw0]
    unfold RB
    have := heap_alloc_new (w.alloc (.cells #[.string at_.id, .slice Ac nc capc, .slice Ap np capp] 44)) (.cells #[.string ⟨#[]⟩, .slice none 0 0, .slice none 0 0] 44)
    rw [World.size_alloc] at this
    exact this
  rw [← hw0]
  clear hw0
  go_region_held3 (fun w' => w'.cell? ⟨w.heap.size, 0, none⟩ = some (.string at_.id) ∧ w'.cell? ⟨w.heap.size, 1, none⟩ = some (.slice Ac nc capc) ∧ w'.cell? ⟨w.heap.size, 2, none⟩ = some (.slice Ap np capp) ∧ Below w.heap.size w w')
    (first | exact S0 | exact (by assumption : CpS w _ at_.id (.slice Ac nc capc) (.slice Ap np capp)) | exact CpS.set (CpS.set (CpS.set (by assumption) _ _) _ _) _ _)
    (first
      | (refine step_append_any _ rfl (.const (.slice none 0 0)) (.tmp 6) 40 rfl w.heap.size 9 iS _ 1 16 Tryz.underlying40 hiS hzS0 hzS1 hzS2 rfl (by decide) (.slice none 0 0) 0 [] rfl (nil_owns _ _ _ _) w.heap.size Ac nc capc rowsc.flatten rfl (HC5.out.below (by assumption : _ ∧ _ ∧ _ ∧ Below w.heap.size w _).2.2.2) H1C.out (by unfold maxLen; omega) (by omega) (by assumption : _ ∧ _ ∧ _ ∧ Below w.heap.size w _).2.2.2.size ?_; intro vS wS hoS hgS _; simp only [Nat.zero_add, List.nil_append] at hoS; obtain ⟨aS, cS, rfl⟩ := own_slice hoS; have hSS := CpS.grown (by assumption) (show World.grownBy _ wS none from hgS); have hRS := RB.grown (by assumption) (show World.grownBy _ wS none from hgS); obtain ⟨q0, q1, q2, q3, q4, q5⟩ := hRS.cells)
      | (refine step_append_any _ rfl (.const (.slice none 0 0)) (.tmp 9) 22 rfl w.heap.size 58 iP _ 2 32 Tryz.underlying22 hiP hzP0 hzP1 hzP2 rfl (by decide) (.slice none 0 0) 0 [] rfl (nil_owns _ _ _ _) w.heap.size Ap np capp rowsp.flatten rfl (HP5.out.below (by assumption : _ ∧ _ ∧ _ ∧ Below w.heap.size w _).2.2.2) H1P.out (by unfold maxLen; omega) (by omega) (by assumption : _ ∧ _ ∧ _ ∧ Below w.heap.size w _).2.2.2.size ?_; intro vP wP hoP hgP _; simp only [Nat.zero_add, List.nil_append] at hoP; obtain ⟨aP, cP, rfl⟩ := own_slice hoP; have hSP := CpS.grown (by assumption) (show World.grownBy _ wP none from hgP); have hRP := RB.grown (by assumption) (show World.grownBy _ wP none from hgP); obtain ⟨q0, q1, q2, q3, q4, q5⟩ := hRP.cells))
  have oS := Lib.hid (hoS.kept (show World.grownBy _ wP none from hgP) (by cases (Value.slice aS nc cS).ownBlock <;> simp))
  have oP := Lib.hid hoP
  have nS := own_rb oS.out hRP (by decide)
  have nP := own_rb oP.out hRP (by decide)
  have FS := Lib.hid (fun u0 u1 u2 => own_set (own_set (own_set oS.out ⟨w.heap.size + 1, 0, none⟩ u0 nS) ⟨w.heap.size + 1, 1, none⟩ u1 nS) ⟨w.heap.size + 1, 2, none⟩ u2 nS)
  have FP := Lib.hid (fun u0 u1 u2 => own_set (own_set (own_set oP.out ⟨w.heap.size + 1, 0, none⟩ u0 nP) ⟨w.heap.size + 1, 1, none⟩ u1 nP) ⟨w.heap.size + 1, 2, none⟩ u2 nP)
  have FB := Lib.hid (fun u0 u1 u2 => (CpS.set (CpS.set (CpS.set hSP 0 u0) 1 u1) 2 u2).2.2.2)
  clear hoS hoP hgS hgP nS nP oS oP
  go_wp2
  refine bodyPost_ret (v := .agg #[.string at_.id, .slice aS nc cS, .slice aP np cP]) (by simp [results, Tryz.results69, go_sem, q0, q1, q2]) rfl ⟨_, _, rfl, ⟨?_, ?_⟩, FB.out _ _ _⟩
  · refine Rd.sl_own (rows := rowsc) (B := w.heap.size) (e := 9) ?_ HC3.out.strs_any HC4.out (fun g hg => ((FS.out (.bool true) (.bool true) (.bool true)).lt g hg).1)
    rw [List.length_map, ← HNC.out]; exact FS.out _ _ _
  · refine Rd.sl_own (rows := rowsp) (B := w.heap.size) (e := 58) ?_ HP3.out.prs_any HP4.out (fun g hg => ((FP.out (.bool true) (.bool true) (.bool true)).lt g hg).1)
    rw [List.length_map, ← HNP.out]; exact FP.out _ _ _
theorem one_strs {ok : Nat → Prop} {w : World} {l : List ByteArray} {rows : List (List Value)} (h : RdL ok w (l.map D.str) rows) : ∀ u ∈ rows.flatten, u.oneCell' = true := by
  intro u hu
  rw [RdL.strs_rows _ _ h, strs_flat] at hu
  obtain ⟨s, _, rfl⟩ := List.mem_map.1 hu
  rfl
theorem one_cis {ok : Nat → Prop} {w : World} {l : List Ci} {rows : List (List Value)} (h : RdL ok w (l.map Ci.d) rows) : ∀ u ∈ rows.flatten, u.oneCell' = true := by
  intro u hu
  obtain ⟨r, hr, hu⟩ := List.mem_flatten.1 hu
  obtain ⟨j, hj, rfl⟩ := List.mem_iff_getElem.1 hr
  have hj2 : j < (l.map Ci.d).length := by rw [← h.len]; exact hj
  obtain ⟨r', hr', hd⟩ := h.get j _ (List.getElem?_eq_getElem hj2)
  rw [List.getElem?_eq_getElem hj] at hr'
  obtain rfl := Option.some.inj hr'
  rw [List.getElem_map] at hd
  rw [Ci.open_ hd] at hu
  simp at hu
  rcases hu with rfl | rfl | rfl | rfl <;> rfl
theorem PB.far {p : Nat} {cs : List Value} {w : World} (h : PB p cs w) {q : Nat} (hq : p ≠ q) (j : Nat) (u : Value) : PB p cs (w.setCell ⟨q, j, none⟩ u) := (Below.heap_setCell w ⟨q, j, none⟩ u p hq).trans h
theorem Rd.far {m q : Nat} {w : World} {d : D} {cs : List Value} (h : Rd (m < ·) w d cs) (hq : q ≤ m) (j : Nat) (u : Value) : Rd (m < ·) (w.setCell ⟨q, j, none⟩ u) d cs :=
  Rd.keep (fun b (hb : m < b) _ => ⟨hb, Below.heap_setCell w ⟨q, j, none⟩ u b (by show b ≠ q; omega)⟩) _ _ h
theorem AtR.far {m q : Nat} {w : World} {a : At} {vc vp : Value} (h : AtR (m < ·) w a vc vp) (hq : q ≤ m) (j : Nat) (u : Value) : AtR (m < ·) (w.setCell ⟨q, j, none⟩ u) a vc vp := ⟨h.cls.far hq j u, h.prs.far hq j u⟩
theorem Rd.keepG {m : Nat} {w w' : World} {d : D} {cs : List Value} (h : Rd (m < ·) w d cs) (hg : w.grownBy w' none) : Rd (m < ·) w' d cs := Rd.keep (fun b hb hlt => ⟨hb, hg.block b hlt (by simp)⟩) _ _ h
theorem AtR.keepG {m : Nat} {w w' : World} {a : At} {vc vp : Value} (h : AtR (m < ·) w a vc vp) (hg : w.grownBy w' none) : AtR (m < ·) w' a vc vp := ⟨h.cls.keepG hg, h.prs.keepG hg⟩
theorem Below.ten {B g o : Nat} {w0 w : World} (h : Below B w0 w) (hg : B ≤ g) {c0 c1 c2 c3 c4 c5 c6 c7 c8 c9 : Value} : Below B w0 (ten w g o c0 c1 c2 c3 c4 c5 c6 c7 c8 c9) :=
  (((((((((h.setCell (p := ⟨g, _, none⟩) hg c0).setCell (p := ⟨g, _, none⟩) hg c1).setCell (p := ⟨g, _, none⟩) hg c2).setCell (p := ⟨g, _, none⟩) hg c3).setCell (p := ⟨g, _, none⟩) hg c4).setCell (p := ⟨g, _, none⟩) hg c5).setCell (p := ⟨g, _, none⟩) hg c6).setCell (p := ⟨g, _, none⟩) hg c7).setCell (p := ⟨g, _, none⟩) hg c8).setCell (p := ⟨g, _, none⟩) hg c9
/-- The argument in block p, the result in block p + 1. -/
structure One (p : Nat) (cs zs : List Value) (w0 w : World) : Prop where
  a : PB p cs w
  z : PB (p + 1) zs w
  bel : Below p w0 w
section
variable {p : Nat} {cs zs : List Value} {w0 w w' : World}
theorem One.grown (h : One p cs zs w0 w) (hg : w.grownBy w' none) (hp : p ≤ w.heap.size) : One p cs zs w0 w' := ⟨h.a.grown hg, h.z.grown hg, h.bel.grown hg hp (by simp)⟩
theorem One.set (h : One p cs zs w0 w) (j : Nat) (u : Value) : One p (cs.set j u) zs w0 (w.setCell ⟨p, j, none⟩ u) := ⟨h.a.set j u, h.z.far (by omega) j u, h.bel.setCell (p := ⟨p, j, none⟩) (Nat.le_refl _) u⟩
end

set_option maxRecDepth 100000 in
set_option maxHeartbeats 4000000 in
theorem tocOne_any (k : Int) (t d ti : ByteArray) (at_ : At) (ar : List ByteArray) (ci : List Ci) (vc vp va vi : Value) (ak : Option Addr) (nk ck : Nat) (B : Nat) (w : World)
    (hA : AtR (· < B) w at_ vc vp) (hAr : Rd (· < B) w (strsD ar) [va]) (hCi : Rd (· < B) w (cisD ci) [vi]) (hB : B ≤ w.heap.size) (b1 : at_.cls.length ≤ 1000000) (b2 : at_.prs.length ≤ 1000000) (b3 : ar.length ≤ 1000000) (b4 : ci.length ≤ 1000000) :
    Calls Tryz.prog 61 #[.agg #[.int .i64 k, .string t, .string d, .string ti, .string at_.id, vc, vp, va, vi, .slice ak nk ck]] w fun e w' => ∃ vc' vp' va' vi', e = .returned (.agg #[.int .i64 k, .string t, .string d, .string ti, .string at_.id, vc', vp', va', vi', .slice ak nk ck]) ∧ AtR (w.heap.size ≤ ·) w' at_ vc' vp' ∧ Rd (w.heap.size ≤ ·) w' (strsD ar) [va'] ∧ Rd (w.heap.size ≤ ·) w' (cisD ci) [vi'] ∧ Below w.heap.size w w' := by
  obtain ⟨iS, hiS, hzS0, hzS1, hzS2⟩ := info_parts infoS
  obtain ⟨iC, hiC, hzC0, hzC1, hzC2⟩ := info_parts infoCi
  obtain ⟨ac, nc, cc, rfl⟩ := Rd.sl_form hA.cls
  obtain ⟨ap, np, cp, rfl⟩ := Rd.sl_form hA.prs
  obtain ⟨Aa, ca, rowsa, rfl, ha1, ha2, ha3, ha4, ha5⟩ := Rd.reads hAr
  obtain ⟨Ai, cci, rowsi, rfl, hi1, hi2, hi3, hi4, hi5⟩ := Rd.reads hCi
  have ONE1 := Lib.hid (one_strs ha3)
  have ONE2 := Lib.hid (one_cis hi3)
  rw [List.length_map] at ha1 ha5 hi1 hi5
  obtain ⟨na, hna⟩ : ∃ na, na = ar.length := ⟨_, rfl⟩
  obtain ⟨ni, hni⟩ : ∃ ni, ni = ci.length := ⟨_, rfl⟩
  rw [List.length_map, List.length_map, ← hna, ← hni]
  rw [← hna] at ha1 ha5 b3
  rw [← hni] at hi1 hi5 b4
  have HNA := Lib.hid hna
  have HNI := Lib.hid hni
  have HA := Lib.hid hA
  have HA3 := Lib.hid ha3
  have HA4 := Lib.hid ha4
  have HA5 := Lib.hid ha5
  have HI3 := Lib.hid hi3
  have HI4 := Lib.hid hi4
  have HI5 := Lib.hid hi5
  obtain ⟨p, hp⟩ : ∃ p, p = w.heap.size := ⟨_, rfl⟩
  obtain ⟨w0, hw0⟩ : ∃ w0, w0 = (w.alloc (.cells #[.int .i64 k, .string t, .string d, .string ti, .string at_.id, .slice ac nc cc, .slice ap np cp, .slice Aa na ca, .slice Ai ni cci, .slice ak nk ck] 47)).alloc (.cells #[.int .i64 0, .string ⟨#[]⟩, .string ⟨#[]⟩, .string ⟨#[]⟩, .string ⟨#[]⟩, .slice none 0 0, .slice none 0 0, .slice none 0 0, .slice none 0 0, .slice none 0 0] 47) := ⟨_, rfl⟩
  have S0 : One p [.int .i64 k, .string t, .string d, .string ti, .string at_.id, .slice ac nc cc, .slice ap np cp, .slice Aa na ca, .slice Ai ni cci, .slice ak nk ck] [.int .i64 0, .string ⟨#[]⟩, .string ⟨#[]⟩, .string ⟨#[]⟩, .string ⟨#[]⟩, .slice none 0 0, .slice none 0 0, .slice none 0 0, .slice none 0 0, .slice none 0 0] w w0 := by
    rw [hw0, hp]
    refine ⟨PB.grown (heap_alloc_new w _) (World.grownBy_alloc _ _ none), ?_, ((Below.refl _ _).alloc (Nat.le_refl _) _).alloc (by simp) _⟩
    have := heap_alloc_new (w.alloc (.cells #[.int .i64 k, .string t, .string d, .string ti, .string at_.id, .slice ac nc cc, .slice ap np cp, .slice Aa na ca, .slice Ai ni cci, .slice ak nk ck] 47)) (.cells #[.int .i64 0, .string ⟨#[]⟩, .string ⟨#[]⟩, .string ⟨#[]⟩, .string ⟨#[]⟩, .slice none 0 0, .slice none 0 0, .slice none 0 0, .slice none 0 0, .slice none 0 0] 47)
    rw [World.size_alloc] at this
    exact this
  have hp0 : w0.heap.size = p + 2 := by rw [hw0, hp]; simp
  have HBW : Hid (B ≤ p) := by show B ≤ p; rw [hp]; exact hB
  have HP := Lib.hid hp
  have HW0 := Lib.hid hw0
  have HS0 := Lib.hid S0
  clear hA hAr hCi ha3 ha4 ha5 hi3 hi4 hi5 hna hni hB hw0 S0 hp
  unfold maxLen at ha2 hi2
  go_enter Tryz.func61, Tryz.ntmps61
  go_upto_region 1 with (fail)
  rw [← HW0.out, ← HP.out]
  have hz0 := HS0.out.z.lt
  go_cut [] (fun wx => ∃ vc' vp', One p [.int .i64 k, .string t, .string d, .string ti, .string at_.id, vc', vp', .slice Aa na ca, .slice Ai ni cci, .slice ak nk ck] [.int .i64 0, .string ⟨#[]⟩, .string ⟨#[]⟩, .string ⟨#[]⟩, .string ⟨#[]⟩, .slice none 0 0, .slice none 0 0, .slice none 0 0, .slice none 0 0, .slice none 0 0] w wx ∧ AtR (p + 1 < ·) wx at_ vc' vp')
  case first =>
    have d4 := HS0.out.a.cell 4 _ rfl
    have d5 := HS0.out.a.cell 5 _ rfl
    have d6 := HS0.out.a.cell 6 _ rfl
    have AA := Lib.hid (tocAttr_any at_ (.slice ac nc cc) (.slice ap np cp) B w0 (HA.out.below (HS0.out.bel.mono HBW.out)) (by have := HBW.out; omega) b1 b2)
    go_wp2_with fail
    refine AA.out.mono ?_
    rintro e w1 ⟨vc', vp', rfl, ha1', bb1⟩
    have H1 := Lib.hid (HS0.out.grown (grown_below bb1) (by omega))
    have R1 := Lib.hid (ha1'.weaken (ok' := (p + 1 < ·)) (fun b hb => by omega))
    obtain ⟨ac', nc', cc', rfl⟩ := Rd.sl_form ha1'.cls
    obtain ⟨ap', np', cp', rfl⟩ := Rd.sl_form ha1'.prs
    have e4 := H1.out.a.cell 4 _ rfl
    have e5 := H1.out.a.cell 5 _ rfl
    have e6 := H1.out.a.cell 6 _ rfl
    have f4 := H1.out.a.free 4
    have f5 := H1.out.a.free 5
    have f6 := H1.out.a.free 6
    clear ha1' bb1 d4 d5 d6
    go_wp2_with fail
    go_meet
    exact ⟨_, _, ((H1.out.set 4 _).set 5 _).set 6 _, ((R1.out.far (Nat.le_succ p) 4 _).far (Nat.le_succ p) 5 _).far (Nat.le_succ p) 6 _⟩
  case rest =>
    obtain ⟨vc', vp', hO, hR⟩ := hcut
    obtain ⟨w1, hw1⟩ : ∃ w1 : World, w1 = wc := ⟨_, rfl⟩
    subst hw1
    obtain ⟨ac', nc', cc', rfl⟩ := Rd.sl_form hR.cls
    obtain ⟨ap', np', cp', rfl⟩ := Rd.sl_form hR.prs
    have HO1 := Lib.hid hO
    have HR1 := Lib.hid hR
    have d7 := hO.a.cell 7 _ rfl
    have hz1 := hO.z.lt
    have RA := Lib.hid (HA5.out.below (hO.bel.mono HBW.out))
    clear hO hR HS0 HA HW0 hz0 hp0
    go_wp2_with (at_builtin; refine wpList_append_any _ rfl (.const (.slice none 0 0)) (.tmp 8) 40 rfl (p + 2) 9 iS _ 1 16 Tryz.underlying40 hiS hzS0 hzS1 hzS2 rfl (by decide) (.slice none 0 0) 0 [] rfl (nil_owns _ _ _ _) B Aa na ca rowsa.flatten rfl RA.out ONE1.out ?x1 ?x2 ?x3 ?_)
    case x1 => unfold maxLen; omega
    case x2 => omega
    case x3 => omega
    intro va1 w2b hoA hgA _
    (try simp only [Nat.zero_add, List.nil_append] at hoA)
    obtain ⟨aa1, ca1, rfl⟩ := own_slice hoA
    have hO2 := HO1.out.grown (show World.grownBy _ w2b none from hgA) (by omega)
    have HO2 := Lib.hid hO2
    have HR2 := Lib.hid (AtR.keepG HR1.out (show World.grownBy _ w2b none from hgA))
    have HOA := Lib.hid hoA
    have d7 := hO2.a.cell 7 _ rfl
    have f7 := hO2.a.free 7
    clear hoA hgA hO2 HO1 HR1 RA hz1
    go_upto_region 3 with (fail)
    obtain ⟨w3, hw3⟩ : ∃ w3, w3 = w2b.setCell ⟨p, 7, none⟩ (.slice aa1 na ca1) := ⟨_, rfl⟩
    have HO3 : Hid (One p [.int .i64 k, .string t, .string d, .string ti, .string at_.id, .slice ac' nc' cc', .slice ap' np' cp', .slice aa1 na ca1, .slice Ai ni cci, .slice ak nk ck] [.int .i64 0, .string ⟨#[]⟩, .string ⟨#[]⟩, .string ⟨#[]⟩, .string ⟨#[]⟩, .slice none 0 0, .slice none 0 0, .slice none 0 0, .slice none 0 0, .slice none 0 0] w w3) := by
      show One _ _ _ _ _
      rw [hw3]; exact HO2.out.set 7 _
    have HR3 : Hid (AtR (p + 1 < ·) w3 at_ (.slice ac' nc' cc') (.slice ap' np' cp')) := by
      show AtR _ _ _ _ _
      rw [hw3]; exact HR2.out.far (Nat.le_succ p) 7 _
    have HA3' : Hid (Rd (p + 1 < ·) w3 (strsD ar) [.slice aa1 na ca1]) := by
      show Rd _ _ _ _
      rw [hw3]
      have ho := own_set HOA.out ⟨p, 7, none⟩ (.slice aa1 na ca1) (fun e => by have h9 : p + 2 ≤ p := (HOA.out.lt p e).1; omega)
      refine Rd.sl_own (rows := rowsa) (B := p + 2) (e := 9) ?_ HA3.out.strs_any HA4.out (fun g hg => (ho.lt g hg).1)
      rw [List.length_map, ← HNA.out]; exact ho
    rw [← hw3]
    clear hw3 d7 f7 HO2 HR2 HOA HA3 HA4 HA5 ONE1
    have d8 := HO3.out.a.cell 8 _ rfl
    have hz3 := HO3.out.z.lt
    have RI := Lib.hid (HI5.out.below (HO3.out.bel.mono HBW.out))
    go_wp2_with (at_builtin; refine wpList_append_any _ rfl (.const (.slice none 0 0)) (.tmp 12) 45 rfl (p + 2) 96 iC _ 4 56 Tryz.underlying45 hiC hzC0 hzC1 hzC2 rfl (by decide) (.slice none 0 0) 0 [] rfl (nil_owns _ _ _ _) B Ai ni cci rowsi.flatten rfl RI.out ONE2.out ?x1 ?x2 ?x3 ?_)
    case x1 => unfold maxLen; omega
    case x2 => omega
    case x3 => omega
    intro vi1 w4b hoI hgI _
    (try simp only [Nat.zero_add, List.nil_append] at hoI)
    obtain ⟨ai1, ci1, rfl⟩ := own_slice hoI
    have hO4 := HO3.out.grown (show World.grownBy _ w4b none from hgI) (by omega)
    have HO4 := Lib.hid hO4
    have HR4 := Lib.hid (AtR.keepG HR3.out (show World.grownBy _ w4b none from hgI))
    have HA4' := Lib.hid (Rd.keepG HA3'.out (show World.grownBy _ w4b none from hgI))
    have HOI := Lib.hid hoI
    have d8 := hO4.a.cell 8 _ rfl
    have f8 := hO4.a.free 8
    clear hoI hgI hO4 HO3 HR3 HA3' RI hz3
    go_upto_region 4 with (fail)
    obtain ⟨w5, hw5⟩ : ∃ w5, w5 = w4b.setCell ⟨p, 8, none⟩ (.slice ai1 ni ci1) := ⟨_, rfl⟩
    have HO5 : Hid (One p [.int .i64 k, .string t, .string d, .string ti, .string at_.id, .slice ac' nc' cc', .slice ap' np' cp', .slice aa1 na ca1, .slice ai1 ni ci1, .slice ak nk ck] [.int .i64 0, .string ⟨#[]⟩, .string ⟨#[]⟩, .string ⟨#[]⟩, .string ⟨#[]⟩, .slice none 0 0, .slice none 0 0, .slice none 0 0, .slice none 0 0, .slice none 0 0] w w5) := by
      show One _ _ _ _ _
      rw [hw5]; exact HO4.out.set 8 _
    have HR5 : Hid (AtR (p + 1 < ·) w5 at_ (.slice ac' nc' cc') (.slice ap' np' cp')) := by
      show AtR _ _ _ _ _
      rw [hw5]; exact HR4.out.far (Nat.le_succ p) 8 _
    have HA5' : Hid (Rd (p + 1 < ·) w5 (strsD ar) [.slice aa1 na ca1]) := by
      show Rd _ _ _ _
      rw [hw5]; exact HA4'.out.far (Nat.le_succ p) 8 _
    have HI5' : Hid (Rd (p + 1 < ·) w5 (cisD ci) [.slice ai1 ni ci1]) := by
      show Rd _ _ _ _
      rw [hw5]
      have ho := own_set HOI.out ⟨p, 8, none⟩ (.slice ai1 ni ci1) (fun e => by have h9 : p + 2 ≤ p := (HOI.out.lt p e).1; omega)
      refine Rd.sl_own (rows := rowsi) (B := p + 2) (e := 96) ?_ HI3.out.cis_any HI4.out (fun g hg => (ho.lt g hg).1)
      rw [List.length_map, ← HNI.out]; exact ho
    rw [← hw5]
    clear hw5 d8 f8 HO4 HR4 HA4' HOI HI3 HI4 HI5 ONE2
    obtain ⟨w6, hw6⟩ : ∃ w6, w6 = ten w5 (p + 1) 0 (.int .i64 k) (.string t) (.string d) (.string ti) (.string at_.id) (.slice ac' nc' cc') (.slice ap' np' cp') (.slice aa1 na ca1) (.slice ai1 ni ci1) (.slice ak nk ck) := ⟨_, rfl⟩
    have hz6 : PB (p + 1) [.int .i64 k, .string t, .string d, .string ti, .string at_.id, .slice ac' nc' cc', .slice ap' np' cp', .slice aa1 na ca1, .slice ai1 ni ci1, .slice ak nk ck] w6 := by
      rw [hw6]
      exact (((((((((HO5.out.z.set 0 _).set 1 _).set 2 _).set 3 _).set 4 _).set 5 _).set 6 _).set 7 _).set 8 _).set 9 _
    have hb6 : ∀ b, b ≠ p + 1 → w6.heap[b]? = w5.heap[b]? := fun b hb => by rw [hw6]; exact ten_heap _ _ _ _ _ _ _ _ _ _ _ _ _ b hb
    have hbel6 : Below p w w6 := by rw [hw6]; exact Below.ten HO5.out.bel (Nat.le_succ p)
    have HR6 := Lib.hid (show AtR (p ≤ ·) w6 at_ (.slice ac' nc' cc') (.slice ap' np' cp') from ⟨Rd.keep (fun b (hb : p + 1 < b) _ => ⟨by omega, hb6 b (by omega)⟩) _ _ HR5.out.cls, Rd.keep (fun b (hb : p + 1 < b) _ => ⟨by omega, hb6 b (by omega)⟩) _ _ HR5.out.prs⟩)
    have HA6 := Lib.hid (show Rd (p ≤ ·) w6 (strsD ar) _ from Rd.keep (fun b (hb : p + 1 < b) _ => ⟨by omega, hb6 b (by omega)⟩) _ _ HA5'.out)
    have HI6 := Lib.hid (show Rd (p ≤ ·) w6 (cisD ci) _ from Rd.keep (fun b (hb : p + 1 < b) _ => ⟨by omega, hb6 b (by omega)⟩) _ _ HI5'.out)
    have HB6 := Lib.hid hbel6
    have e0 := HO5.out.a.cell 0 _ rfl
    have e1 := HO5.out.a.cell 1 _ rfl
    have e2 := HO5.out.a.cell 2 _ rfl
    have e3 := HO5.out.a.cell 3 _ rfl
    have e4 := HO5.out.a.cell 4 _ rfl
    have e5 := HO5.out.a.cell 5 _ rfl
    have e6 := HO5.out.a.cell 6 _ rfl
    have e7 := HO5.out.a.cell 7 _ rfl
    have e8 := HO5.out.a.cell 8 _ rfl
    have e9 := HO5.out.a.cell 9 _ rfl
    have z0 := HO5.out.z.cell 0 _ rfl
    have y0 := HO5.out.z.free 0
    have y1 := HO5.out.z.free 1
    have y2 := HO5.out.z.free 2
    have y3 := HO5.out.z.free 3
    have y4 := HO5.out.z.free 4
    have y5 := HO5.out.z.free 5
    have y6 := HO5.out.z.free 6
    have y7 := HO5.out.z.free 7
    have y8 := HO5.out.z.free 8
    have y9 := HO5.out.z.free 9
    have z1 := HO5.out.z.cell 1 _ rfl
    have z2 := HO5.out.z.cell 2 _ rfl
    have z3 := HO5.out.z.cell 3 _ rfl
    have z4 := HO5.out.z.cell 4 _ rfl
    have z5 := HO5.out.z.cell 5 _ rfl
    have z6 := HO5.out.z.cell 6 _ rfl
    have z7 := HO5.out.z.cell 7 _ rfl
    have z8 := HO5.out.z.cell 8 _ rfl
    have z9 := HO5.out.z.cell 9 _ rfl
    have HZ6 := Lib.hid hz6
    have HW6 := Lib.hid hw6
    clear hz6 hb6 hbel6 hw6 HO5 HR5 HA5' HI5'
    go_wp2
    have hk := HW6.out
    simp only [ten, Nat.zero_add] at hk
    rw [← hk]
    clear hk e0 e1 e2 e3 e4 e5 e6 e7 e8 e9 z0 z1 z2 z3 z4 z5 z6 z7 z8 z9 y0 y1 y2 y3 y4 y5 y6 y7 y8 y9
    have r0 := HZ6.out.cell 0 _ rfl
    have r1 := HZ6.out.cell 1 _ rfl
    have r2 := HZ6.out.cell 2 _ rfl
    have r3 := HZ6.out.cell 3 _ rfl
    have r4 := HZ6.out.cell 4 _ rfl
    have r5 := HZ6.out.cell 5 _ rfl
    have r6 := HZ6.out.cell 6 _ rfl
    have r7 := HZ6.out.cell 7 _ rfl
    have r8 := HZ6.out.cell 8 _ rfl
    have r9 := HZ6.out.cell 9 _ rfl
    exact bodyPost_ret (v := .agg #[.int .i64 k, .string t, .string d, .string ti, .string at_.id, .slice ac' nc' cc', .slice ap' np' cp', .slice aa1 na ca1, .slice ai1 ni ci1, .slice ak nk ck]) (by simp [results, Tryz.results61, go_sem, r0, r1, r2, r3, r4, r5, r6, r7, r8, r9]) rfl ⟨_, _, _, _, rfl, HP.out ▸ HR6.out, HP.out ▸ HA6.out, HP.out ▸ HI6.out, HP.out ▸ HB6.out⟩
end Go.Proofs.YtlbioncagkkkoaaGreatDoor
