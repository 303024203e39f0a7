/- The walk of publisherlaw24.TocOf. -/
import Derived.Test.YtlbioncagkkkoaaGreatDoorKTwA
import Derived.Test.YtlbioncagkkkoaaGreatDoorKTwS
import Derived.Test.YtlbioncagkkkoaaGreatDoorKRtQ
import Derived.Test.YtlbioncagkkkoaaGreatDoorKEnW
import Derived.Test.YtlbioncagkkkoaaGreatDoorKSameBl
import Derived.BigQuiet
import Derived.Deep.RegionHeld3
import Derived.Deep.QuietTactic
namespace Go.Proofs.YtlbioncagkkkoaaGreatDoor
open Go.RowKit
set_option linter.unusedVariables false
set_option linter.unusedSimpArgs false

theorem Rd.anyLtO {ok : Nat → Prop} {w : World} {k : Nat} {l : List D} {v : Value} (h : Rd ok w (.sl k l) [v]) : Rd (· < w.heap.size) w (.sl k l) [v] := Rd.keep (fun b _ h2 => ⟨h2, rfl⟩) _ _ h
mutual
theorem Inl.mz_sm : ∀ (x : Inl), x.small → x.mz ≤ 601 * x.sz
  | .mk k t d ti a ar ci ks, h => by
    rw [Inl.small] at h
    rw [Inl.mz, Inl.sz]
    have h1 := h.1
    have h2 := h.2.1
    have := Inl.mzL_sm ks h.2.2.2.2.2.2.2.2
    split <;> omega
theorem Inl.mzL_sm : ∀ (l : List Inl), Inl.smallL l → Inl.mzL l ≤ 601 * Inl.szL l
  | [], _ => by rw [Inl.mzL, Inl.szL]; omega
  | x :: l, h => by
    rw [Inl.smallL] at h
    rw [Inl.mzL, Inl.szL]
    have := Inl.mz_sm x h.1
    have := Inl.mzL_sm l h.2
    omega
end
def EeRel (w0 : World) (n : Nat) (vi : Value) (wr : World) : Prop := ∃ i : Nat, i ≤ n ∧ vi = .int .i64 i ∧ Below w0.heap.size w0 wr

set_option maxRecDepth 100000 in
set_option maxHeartbeats 8000000 in
theorem entEq_any (l : List En) (v1 v2 : Value) (w : World) (h1 : Rd (· < w.heap.size) w (ensD l) [v1]) (h2 : Rd (· < w.heap.size) w (ensD l) [v2]) (hsz : ∀ x ∈ l, Inl.szL x.line ≤ 1000000) :
    Calls Tryz.prog 9 #[v1, v2] w fun e w' => e = .returned (.bool true) ∧ Below w.heap.size w w' := by
  obtain ⟨a1, c1, hv1, hs1⟩ := Rd.sl_open h1
  obtain ⟨a2, c2, hv2, hs2⟩ := Rd.sl_open h2
  obtain rfl : v1 = .slice a1 l.length c1 := by simpa using hv1
  obtain rfl : v2 = .slice a2 l.length c2 := by simpa using hv2
  have hc1 : l.length ≤ c1 := by simpa using hs1.le
  have hc2 : l.length ≤ c2 := by simpa using hs2.le
  have hm1 := hs1.max
  have hm2 := hs2.max
  unfold maxLen at hm1 hm2
  have H1 := Lib.hid hs1
  have H2 := Lib.hid hs2
  have HSZ := Lib.hid hsz
  have R0 : Hid (EeRel w l.length (.int .i64 0) w) := ⟨0, Nat.zero_le _, rfl, Below.refl _ _⟩
  clear h1 h2 hv1 hv2 hs1 hs2 hsz
  go_enter Tryz.func9, Tryz.ntmps9
  simp only [List.append_eq, List.cons_append, List.nil_append]
  go_wp2
  go_loopw [5] (fun vi wr => EeRel w l.length vi wr) (fun i _ => l.length - (intOf i).toNat)
  case atStart => exact R0.out
  case round =>
    clear R0
    obtain ⟨i, hi, rfl, hbel⟩ := hrel
    have HBEL := Lib.hid hbel
    by_cases hlt : i < l.length
    · obtain ⟨x, hx⟩ : ∃ x, l[i]? = some x := ⟨_, List.getElem?_eq_getElem hlt⟩
      have hxs := HSZ.out x (List.mem_of_getElem? hx)
      obtain ⟨g, off, vl, vr, rfl, hgo, hgl, c0, c1, c2, c3, c4, hER⟩ := ens_at (H1.out.up0 hbel) hx
      obtain ⟨g', off', vl', vr', rfl, hgo', hgl', d0, d1, d2, d3, d4, hER'⟩ := ens_at (H2.out.up0 hbel) hx
      obtain ⟨al, nl, cl, rfl⟩ := Rd.sl_form hER.line
      obtain ⟨al', nl', cl', rfl⟩ := Rd.sl_form hER'.line
      obtain ⟨ar, cr, hvr, -⟩ := Rd.sl_open hER.refs
      obtain ⟨ar', cr', hvr', -⟩ := Rd.sl_open hER'.refs
      obtain ⟨lv, id, tx, line, refs⟩ := x
      dsimp only at c0 c1 c2 c3 c4 d0 d1 d2 d3 d4 hvr hvr' hxs hER hER'
      simp only [List.length_map, List.cons.injEq, and_true] at hvr hvr'
      subst hvr hvr'
      have hwz := hbel.size
      have q1 : (id.toList != id.toList) = false := by simp
      have q2 : (tx.toList != tx.toList) = false := by simp
      have q3 : (lv != lv) = false := by simp
      have q4 : ((refs.length : Int) != (refs.length : Int)) = false := by simp
      have hi0 : (0 : Int) ≤ (i : Int) := by omega
      have hi1 : (i : Int) < (l.length : Int) := by omega
      have SL := Lib.hid (show Calls Tryz.prog 24 #[.slice al nl cl, .slice al' nl' cl'] wr.drew (SmPost line line wr.drew) from sameLine_any 1000000 line line (.slice al nl cl) (.slice al' nl' cl') wr.drew hxs (Rd.keep (w := wr) (w' := wr.drew) (fun b hb _ => ⟨hb, rfl⟩) _ _ hER.line.anyLtO) (Rd.keep (w := wr) (w' := wr.drew) (fun b hb _ => ⟨hb, rfl⟩) _ _ hER'.line.anyLtO))
      have S0 : wr.drew.cell? ⟨g, off + i * 5, none⟩ = some (.int .i64 lv) ∧ wr.drew.cell? ⟨g, off + i * 5 + 1, none⟩ = some (.string id) ∧ wr.drew.cell? ⟨g, off + i * 5 + 2, none⟩ = some (.string tx) ∧ wr.drew.cell? ⟨g, off + i * 5 + 3, none⟩ = some (.slice al nl cl) ∧ wr.drew.cell? ⟨g, off + i * 5 + 4, none⟩ = some (.slice ar refs.length cr) ∧ wr.drew.cell? ⟨g', off' + i * 5, none⟩ = some (.int .i64 lv) ∧ wr.drew.cell? ⟨g', off' + i * 5 + 1, none⟩ = some (.string id) ∧ wr.drew.cell? ⟨g', off' + i * 5 + 2, none⟩ = some (.string tx) ∧ wr.drew.cell? ⟨g', off' + i * 5 + 3, none⟩ = some (.slice al' nl' cl') ∧ wr.drew.cell? ⟨g', off' + i * 5 + 4, none⟩ = some (.slice ar' refs.length cr') := ⟨c0, c1, c2, c3, c4, d0, d1, d2, d3, d4⟩
      have HGL : Hid (g < wr.heap.size ∧ g' < wr.heap.size) := ⟨hgl, hgl'⟩
      clear hx hgo hgo' hER hER' hbel hxs hgl hgl'
      go_upto_region 6 with (fail)
      go_region_held3 (fun w' => w'.cell? ⟨g, off + i * 5, none⟩ = some (.int .i64 lv) ∧ w'.cell? ⟨g, off + i * 5 + 1, none⟩ = some (.string id) ∧ w'.cell? ⟨g, off + i * 5 + 2, none⟩ = some (.string tx) ∧ w'.cell? ⟨g, off + i * 5 + 3, none⟩ = some (.slice al nl cl) ∧ w'.cell? ⟨g, off + i * 5 + 4, none⟩ = some (.slice ar refs.length cr) ∧ w'.cell? ⟨g', off' + i * 5, none⟩ = some (.int .i64 lv) ∧ w'.cell? ⟨g', off' + i * 5 + 1, none⟩ = some (.string id) ∧ w'.cell? ⟨g', off' + i * 5 + 2, none⟩ = some (.string tx) ∧ w'.cell? ⟨g', off' + i * 5 + 3, none⟩ = some (.slice al' nl' cl') ∧ w'.cell? ⟨g', off' + i * 5 + 4, none⟩ = some (.slice ar' refs.length cr'))
        (first | exact S0 | assumption | exact S9)
        (first | (go_simp; go_at_call 24; (with_reducible refine SL.out.mono ?_); rintro e w9 ⟨b, rfl, hb, b9⟩; obtain rfl : b = true := hb.2 rfl; have S9 : w9.cell? ⟨g, off + i * 5, none⟩ = some (.int .i64 lv) ∧ w9.cell? ⟨g, off + i * 5 + 1, none⟩ = some (.string id) ∧ w9.cell? ⟨g, off + i * 5 + 2, none⟩ = some (.string tx) ∧ w9.cell? ⟨g, off + i * 5 + 3, none⟩ = some (.slice al nl cl) ∧ w9.cell? ⟨g, off + i * 5 + 4, none⟩ = some (.slice ar refs.length cr) ∧ w9.cell? ⟨g', off' + i * 5, none⟩ = some (.int .i64 lv) ∧ w9.cell? ⟨g', off' + i * 5 + 1, none⟩ = some (.string id) ∧ w9.cell? ⟨g', off' + i * 5 + 2, none⟩ = some (.string tx) ∧ w9.cell? ⟨g', off' + i * 5 + 3, none⟩ = some (.slice al' nl' cl') ∧ w9.cell? ⟨g', off' + i * 5 + 4, none⟩ = some (.slice ar' refs.length cr') := (by obtain ⟨hgl, hgl'⟩ := HGL.out; exact ⟨(b9.cell (p := ⟨g, off + i * 5, none⟩) hgl).trans c0, (b9.cell (p := ⟨g, off + i * 5 + 1, none⟩) hgl).trans c1, (b9.cell (p := ⟨g, off + i * 5 + 2, none⟩) hgl).trans c2, (b9.cell (p := ⟨g, off + i * 5 + 3, none⟩) hgl).trans c3, (b9.cell (p := ⟨g, off + i * 5 + 4, none⟩) hgl).trans c4, (b9.cell (p := ⟨g', off' + i * 5, none⟩) hgl').trans d0, (b9.cell (p := ⟨g', off' + i * 5 + 1, none⟩) hgl').trans d1, (b9.cell (p := ⟨g', off' + i * 5 + 2, none⟩) hgl').trans d2, (b9.cell (p := ⟨g', off' + i * 5 + 3, none⟩) hgl').trans d3, (b9.cell (p := ⟨g', off' + i * 5 + 4, none⟩) hgl').trans d4⟩); have B9 := Lib.hid (below_trans_size HBEL.out (below_trans_size (Below.refl _ _).drew b9)); clear b9))
      clear SL S0 S9 c0 c1 c2 c3 c4 d0 d1 d2 d3 d4
      go_wp2
      go_roundw
      case rel => exact ⟨i + 1, by omega, by go_num, B9.out⟩
      case measure => simp [intOf]; omega
    · have hkl : i = l.length := by omega
      subst hkl
      go_wp2
      go_ret
      exact ⟨rfl, HBEL.out⟩

set_option maxRecDepth 100000 in
set_option maxHeartbeats 8000000 in
theorem of_walk (me : List Pr) (l : List Blk) (vm vb : Value) (dep : Int) (w : World) (hm : Rd (· < w.heap.size) w (prsD me) [vm]) (hb : Rd (· < w.heap.size) w (blksD l) [vb]) (hwm : ∀ p ∈ me, p.wf) (hwl : Blk.wfL l) (hT : PT w) :
    Calls Tryz.prog 3 #[.agg #[vm, vb], .int .i64 dep] w fun e w' => e = .returned (.bool true) ∧ Below w.heap.size w w' := by
  obtain ⟨am, cm, hvm, hsm⟩ := Rd.sl_open hm
  obtain rfl : vm = .slice am me.length cm := by simpa using hvm
  obtain ⟨ab, nb, cb, rfl⟩ := Rd.slf hb
  obtain ⟨w0, hw0⟩ : ∃ w0, w0 = w.alloc (.cells #[.slice am me.length cm, .slice ab nb cb] 25) := ⟨_, rfl⟩
  obtain ⟨S, hS⟩ : ∃ S, S = w.heap.size := ⟨_, rfl⟩
  have b0 : Below w.heap.size w w0 := by rw [hw0]; exact (Below.refl _ _).alloc (Nat.le_refl _) _
  have k0 : CB 25 S [.slice am me.length cm, .slice ab nb cb] w0 := by rw [hw0, hS]; exact CB.new _ _ _
  have SM := Lib.hid (small_any me l _ _ w0 (hm.up b0) (hb.up b0) hwm hwl)
  have B0 := Lib.hid b0
  have K0 := Lib.hid k0
  have HB := Lib.hid (hb.up b0)
  have HT := Lib.hid (hT.below b0)
  have HW := Lib.hid hwl
  have x0 := k0.cell 0 _ rfl
  have x1 := k0.cell 1 _ rfl
  clear hm hb hwm hwl hT hvm hsm b0 k0
  go_enter Tryz.func3, Tryz.ntmps3
  go_upto_region 1 with (fail)
  rw [← hw0, ← hS]
  clear hw0 hS
  go_wp2_with fail
  refine SM.out.mono ?_
  rintro e w1 ⟨b, rfl, hsm, b1⟩
  have HB1 := Lib.hid (below_trans_size B0.out b1)
  cases b with
  | false =>
    have HT1 := Lib.hid (HT.out.below b1)
    clear hsm b1
    go_wp2_with fail
    refine (awake_any _ HT1.out).mono ?_
    rintro e w2 ⟨rfl, b2⟩
    have HZ := Lib.hid (below_trans_size HB1.out b2)
    clear b2
    go_wp2
    go_ret
    exact ⟨rfl, HZ.out⟩
  | true =>
    have hds := hsm rfl
    have hd := docW_small l hds.blks hds.all (Blk.eachL_kdw l HW.out)
    have HDW := Lib.hid hd
    have bd : Below w1.heap.size w1 w1.drew := (Below.refl _ _).drew
    have b1d : Below w0.heap.size w0 w1.drew := below_trans_size b1 bd
    have HB1D := Lib.hid (below_trans_size HB1.out bd)
    have HT1 := Lib.hid (HT.out.below b1d)
    have HB1R := Lib.hid (HB.out.up b1d)
    have K1 := K0.out.below b1d
    have S0 : w1.drew.cell? ⟨S, 0, none⟩ = some (.slice am me.length cm) ∧ w1.drew.cell? ⟨S, 1, none⟩ = some (.slice ab nb cb) := ⟨K1.cell 0 _ rfl, K1.cell 1 _ rfl⟩
    have hS1 : S < w1.drew.heap.size := K1.lt
    have OF1 := Lib.hid (of_any l (.slice am me.length cm) (.slice ab nb cb) dep w1.drew ⟨_, _, _, rfl⟩ HB1R.out hd HT1.out)
    have hnm : ∀ x ∈ numsL l, NmOk (fun li => Inl.szL li ≤ 1000000) x := nums_ok _ (by rw [Inl.szL]; omega) l (fun b hb => (hd.lines b hb).sz)
    have HLN : Hid (∀ b ∈ Blk.eachL l, RLnOk b.lineOf) := by
      intro b hb
      refine ⟨(hd.lines b hb).sz, ?_⟩
      have h1 := Blk.eachL_small l hds.blks b hb
      obtain ⟨k, lv, i, t, d, ti, a, li, ks⟩ := b
      rw [Blk.small] at h1
      have h2 := Inl.mzL_sm li h1.2.2.2.2.2.1
      have h3 : Inl.szL li ≤ 120 := by have := h1.2.2.2.2.2.2.1; omega
      show Inl.mzL li ≤ 100000
      omega
    obtain ⟨E, hE⟩ : ∃ E, E = tocL (numsL l) dep := ⟨_, rfl⟩
    have hEs : ∀ x ∈ E, Inl.szL x.line ≤ 1000000 := by
      intro x hx
      rw [hE] at hx
      obtain ⟨nx, hnx1, hnx2, hnx3, hnx4, hnx5, hnx6, -, -⟩ := tocL_from (numsL l) dep x hx
      rw [hnx5]
      exact Nat.le_trans (entL_szle nx.line) (hnm nx hnx1).2
    have HES := Lib.hid hEs
    have HE := Lib.hid hE
    rw [← hE] at OF1
    clear hsm hds hd b1 SM HT HW hnm hE hEs HB bd b1d K1 x0 x1
    go_wp2_with fail
    go_region_held3 (fun w' => w'.cell? ⟨S, 0, none⟩ = some (.slice am me.length cm) ∧ w'.cell? ⟨S, 1, none⟩ = some (.slice ab nb cb))
      (first | exact S0 | assumption | exact S3 | exact S4 | exact S5 | exact S6)
      (first
        | (go_simp; go_at_call 10; (with_reducible refine OF1.out.mono ?_); rintro e w3 ⟨v3, rfl, h3, b3⟩; have H3 := Lib.hid h3.anyLtO; have HB3 := Lib.hid (HB1R.out.up b3); have HT3 := Lib.hid (HT1.out.below b3); have HBB3 := Lib.hid (below_trans_size HB1D.out b3); have S3 : w3.cell? ⟨S, 0, none⟩ = some (.slice am me.length cm) ∧ w3.cell? ⟨S, 1, none⟩ = some (.slice ab nb cb) := ⟨(b3.cell (p := ⟨S, 0, none⟩) hS1).trans S0.1, (b3.cell (p := ⟨S, 1, none⟩) hS1).trans S0.2⟩; have hS3 : S < w3.heap.size := Nat.lt_of_lt_of_le hS1 b3.size; have OF2 := Lib.hid (rOf_any l (.slice am me.length cm) (.slice ab nb cb) dep w3.heap.size w3 ⟨_, _, _, rfl⟩ HB3.out (Nat.le_refl _) HDW.out.sz HDW.out.ln HLN.out); rw [← HE.out] at OF2; clear b3 h3 OF1 HB1R HT1)
        | (go_simp; go_at_call 11; (with_reducible refine OF2.out.mono ?_); rintro e w4 ⟨v4, rfl, h4, b4⟩; have HBB4 := Lib.hid (below_trans_size HBB3.out b4); have HT4 := Lib.hid (HT3.out.below b4); have EQ := Lib.hid (entEq_any E v3 v4 w4 (H3.out.up b4) h4.anyLtO HES.out); have S4 : w4.cell? ⟨S, 0, none⟩ = some (.slice am me.length cm) ∧ w4.cell? ⟨S, 1, none⟩ = some (.slice ab nb cb) := ⟨(b4.cell (p := ⟨S, 0, none⟩) hS3).trans S3.1, (b4.cell (p := ⟨S, 1, none⟩) hS3).trans S3.2⟩; have hS4 : S < w4.heap.size := Nat.lt_of_lt_of_le hS3 b4.size; clear b4 h4 OF2 H3 HB3 HT3)
        | (go_simp; go_at_call 9; (with_reducible refine EQ.out.mono ?_); rintro e w5 ⟨rfl, b5⟩; have HBB5 := Lib.hid (below_trans_size HBB4.out b5); have HT5 := Lib.hid (HT4.out.below b5); have S5 : w5.cell? ⟨S, 0, none⟩ = some (.slice am me.length cm) ∧ w5.cell? ⟨S, 1, none⟩ = some (.slice ab nb cb) := ⟨(b5.cell (p := ⟨S, 0, none⟩) hS4).trans S4.1, (b5.cell (p := ⟨S, 1, none⟩) hS4).trans S4.2⟩; have hS5 : S < w5.heap.size := Nat.lt_of_lt_of_le hS4 b5.size; clear b5 EQ HBB4 HT4)
        | (go_simp; go_at_call 8; (with_reducible refine (awake_any _ HT5.out).mono ?_); rintro e w6 ⟨rfl, b6⟩; have HZ := Lib.hid (below_trans_size HBB5.out b6); have S6 : w6.cell? ⟨S, 0, none⟩ = some (.slice am me.length cm) ∧ w6.cell? ⟨S, 1, none⟩ = some (.slice ab nb cb) := ⟨(b6.cell (p := ⟨S, 0, none⟩) hS5).trans S5.1, (b6.cell (p := ⟨S, 1, none⟩) hS5).trans S5.2⟩; clear b6))
    all_goals
      go_wp2
      go_ret
      exact ⟨rfl, HZ.out⟩
end Go.Proofs.YtlbioncagkkkoaaGreatDoor
