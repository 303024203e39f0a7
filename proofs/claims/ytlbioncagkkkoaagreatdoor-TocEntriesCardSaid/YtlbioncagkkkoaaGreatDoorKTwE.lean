/- The walk of publisherlaw24.TocEntries. -/
import Derived.Test.YtlbioncagkkkoaaGreatDoorKTwA
import Derived.Test.YtlbioncagkkkoaaGreatDoorKTwS
import Derived.Test.YtlbioncagkkkoaaGreatDoorKPlEn
import Derived.Test.YtlbioncagkkkoaaGreatDoorKRList
import Derived.Test.YtlbioncagkkkoaaGreatDoorKRpF
import Derived.BigQuiet
import Derived.Deep.QuietTactic
namespace Go.Proofs.YtlbioncagkkkoaaGreatDoor
open Go.RowKit
set_option linter.unusedVariables false
set_option linter.unusedSimpArgs false

theorem Rd.anyLt {ok : Nat → Prop} {w : World} {k : Nat} {l : List D} {v : Value} (h : Rd ok w (.sl k l) [v]) : Rd (· < w.heap.size) w (.sl k l) [v] := Rd.keep (fun b _ h2 => ⟨h2, rfl⟩) _ _ h
/-- Is there a section with this identifier and value? -/
def foundB (id tx : ByteArray) (l : List Nm) : Bool := l.any fun n => decide (n.kind = secS) && decide (n.id = id) && decide (n.val = tx)
theorem found_snoc (id tx : ByteArray) (l : List Nm) (k : Nat) (x : Nm) (h : l[k]? = some x) : foundB id tx (l.take (k + 1)) = (foundB id tx (l.take k) || (decide (x.kind = secS) && decide (x.id = id) && decide (x.val = tx))) := by
  unfold foundB
  rw [List.take_add_one, h, List.any_append]; simp
theorem str_dec (a b : ByteArray) : (a.toList == b.toList) = decide (a = b) := by
  have := lit_eq a b.toList
  rw [this]
  congr 1
  rw [Lib.toList_data]
def EtRel (w6 : World) (n : Nat) (vi : Value) (wr : World) : Prop := ∃ i : Nat, i ≤ n ∧ vi = .int .i64 i ∧ Below w6.heap.size w6 wr

set_option maxRecDepth 100000 in
set_option maxHeartbeats 8000000 in
theorem entries_walk (me : List Pr) (l : List Blk) (vm vb : Value) (dp : Nat) (w : World) (hm : Rd (· < w.heap.size) w (prsD me) [vm]) (hb : Rd (· < w.heap.size) w (blksD l) [vb]) (hwm : ∀ p ∈ me, p.wf) (hwl : Blk.wfL l) (hT : PT w) (hdp : dp < 256) :
    Calls Tryz.prog 5 #[.agg #[vm, vb], .int .u8 (dp : Int)] w fun e w' => e = .returned (.bool true) ∧ Below w.heap.size w w' := by
  obtain ⟨am, cm, hvm, hsm⟩ := Rd.sl_open hm
  obtain rfl : vm = .slice am me.length cm := by simpa using hvm
  obtain ⟨ab, nb, cb, rfl⟩ := Rd.slf hb
  obtain ⟨w0, hw0⟩ : ∃ w0, w0 = w.alloc (.cells #[.slice am me.length cm, .slice ab nb cb] 25) := ⟨_, rfl⟩
  have b0 : Below w.heap.size w w0 := by rw [hw0]; exact (Below.refl _ _).alloc (Nat.le_refl _) _
  have k0 : CB 25 w.heap.size [.slice am me.length cm, .slice ab nb cb] w0 := by rw [hw0]; exact CB.new _ _ _
  have SM := Lib.hid (small_any me l _ _ w0 (hm.up b0) (hb.up b0) hwm hwl)
  have B0 := Lib.hid b0
  have K0 := Lib.hid k0
  have HM := Lib.hid (hm.up b0)
  have HB := Lib.hid (hb.up b0)
  have HT := Lib.hid (hT.below b0)
  have HW := Lib.hid hwl
  have x0 := k0.cell 0 _ rfl
  have x1 := k0.cell 1 _ rfl
  obtain ⟨md, hmd⟩ : ∃ md : Nat, md = dp % 8 := ⟨_, rfl⟩
  have hm8 : md < 8 := by omega
  have qr : (dp : Int).tmod 8 = (md : Int) := by rw [hmd]; exact (Int.ofNat_tmod dp 8).symm
  clear hm hb hwm hwl hT hvm hsm b0 k0 hmd
  go_enter Tryz.func5, Tryz.ntmps5
  go_upto_region 1 with (fail)
  rw [← hw0]
  clear hw0
  go_wp2_with fail
  refine SM.out.mono ?_
  rintro e w1 ⟨b, rfl, hsm, b1⟩
  have HB1 := Lib.hid b1
  cases b with
  | false =>
    clear hsm b1
    go_wp2_with fail
    refine (awake_any _ (HT.out.below HB1.out)).mono ?_
    rintro e w2 ⟨rfl, b2⟩
    have HZ := Lib.hid (below_trans_size (below_trans_size B0.out HB1.out) b2)
    clear b2
    go_wp2
    go_ret
    exact ⟨rfl, HZ.out⟩
  | true =>
    have hds := hsm rfl
    have K1 := Lib.hid (K0.out.below b1)
    have x0 := K1.out.cell 0 _ rfl
    have x1 := K1.out.cell 1 _ rfl
    have CK := Lib.hid (rCheck_any me l am ab cm nb cb w1 (by have := hds.meta_; omega) (fun p hp => by have := hds.mets p hp; omega) (by have := hds.all; omega) hds.blks (HM.out.up b1) (HB.out.up b1))
    have HDW := Lib.hid (docW_small l hds.blks hds.all (Blk.eachL_kdw l HW.out))
    have HB1R := Lib.hid (HB.out.up b1)
    have HT1 := Lib.hid (HT.out.below b1)
    have HBB := Lib.hid (below_trans_size B0.out b1)
    have HALL := Lib.hid hds.all
    clear hsm hds b1 SM HM HB HT HW K0 B0 HB1
    go_wp2_with fail
    refine CK.out.mono ?_
    rintro e w2 ⟨rfl, b2⟩
    have K2 := Lib.hid (K1.out.below b2)
    have x0 := K2.out.cell 0 _ rfl
    have x1 := K2.out.cell 1 _ rfl
    have HB2 := Lib.hid (HB1R.out.up b2)
    have HT2 := Lib.hid (HT1.out.below b2)
    have HB2B := Lib.hid (below_trans_size HBB.out b2)
    clear b2 CK K1 HB1R HT1 HBB
    by_cases hE : docErr closesS me l = 0
    · have hkid : ∀ b ∈ Blk.eachL l, Inl.kidL b.lineOf := by
        unfold docErr at hE
        split at hE
        · cases hE
        · split at hE
          · rename_i h9; exact absurd hE h9
          · exact Blk.errL_kid _ l 0 0 hE
      have hnm : ∀ x ∈ numsL l, NmOk (fun li => Inl.kidL li ∧ Inl.szL li ≤ 1000000) x := nums_ok _ ⟨by rw [Inl.kidL]; trivial, by rw [Inl.szL]; omega⟩ l (fun b hb => ⟨hkid b hb, (HDW.out.lines b hb).sz⟩)
      have OF1 := Lib.hid (of_any l (.slice am me.length cm) (.slice ab nb cb) (md : Int) w2 ⟨_, _, _, rfl⟩ HB2.out HDW.out HT2.out)
      obtain ⟨N, hN⟩ : ∃ N, N = numsL l := ⟨_, rfl⟩
      rw [← hN] at OF1 hnm
      have HNM := Lib.hid hnm
      have HNE := Lib.hid hN
      obtain ⟨E1, hE1⟩ : ∃ E1, E1 = tocL N md := ⟨_, rfl⟩
      obtain ⟨E2, hE2⟩ : ∃ E2, E2 = tocL N ((md : Int) + 1) := ⟨_, rfl⟩
      rw [← hE1] at OF1
      have HE1 := Lib.hid hE1
      have HE2 := Lib.hid hE2
      have hlen : E1.length ≤ E2.length := by rw [hE1, hE2]; exact tocL_more N md
      rw [hE]
      clear hE hkid hnm hN hE1 hE2
      go_wp2_with fail
      (with_reducible refine OF1.out.mono ?_)
      rintro e w3 ⟨v3, rfl, h3, b3⟩
      obtain ⟨a3, c3, hv3, hs3⟩ := Rd.sl_open h3
      obtain rfl : v3 = .slice a3 E1.length c3 := by simpa using hv3
      have hcap3 : E1.length ≤ c3 := by simpa using hs3.le
      have hmx3 := hs3.max
      unfold maxLen at hmx3
      have K3 := Lib.hid (K2.out.below b3)
      have x0 := K3.out.cell 0 _ rfl
      have x1 := K3.out.cell 1 _ rfl
      have HB3 := Lib.hid (HB2.out.up b3)
      have HT3 := Lib.hid (HT2.out.below b3)
      have HS3 := Lib.hid hs3
      have OF2 := Lib.hid (of_any l (.slice am me.length cm) (.slice ab nb cb) ((md : Int) + 1) w3 ⟨_, _, _, rfl⟩ HB3.out HDW.out HT3.out)
      rw [← HNE.out, ← HE2.out] at OF2
      have HBB3 := Lib.hid (below_trans_size HB2B.out b3)
      clear b3 h3 hv3 hs3 OF1 K2 HB2 HT2 HB2B
      go_wp2_with fail
      (with_reducible refine OF2.out.mono ?_)
      rintro e w4 ⟨v4, rfl, h4, b4⟩
      obtain ⟨a4, c4, hv4, -⟩ := Rd.sl_open h4
      obtain rfl : v4 = .slice a4 E2.length c4 := by simpa using hv4
      have K4 := Lib.hid (K3.out.below b4)
      have x0 := K4.out.cell 0 _ rfl
      have x1 := K4.out.cell 1 _ rfl
      have HB4 := Lib.hid (HB3.out.up b4)
      have HT4 := Lib.hid (HT3.out.below b4)
      have HS4 := Lib.hid (HS3.out.up0 b4)
      have NU := Lib.hid (numbers_any l (.slice am me.length cm) (.slice ab nb cb) w4 ⟨_, _, _, rfl⟩ HB4.out HDW.out.bd HDW.out.sz HDW.out.ln HDW.out.info HDW.out.tx HT4.out)
      rw [← HNE.out] at NU
      have HBB4 := Lib.hid (below_trans_size HBB3.out b4)
      have qg : decide ((E2.length : Int) < (E1.length : Int)) = false := decide_eq_false (by omega)
      clear b4 h4 hv4 OF2 K3 HB3 HT3 HBB3 HS3
      go_wp2_with fail
      (with_reducible refine NU.out.mono ?_)
      rintro e w6 ⟨v6, rfl, h6, b6⟩
      obtain ⟨a6, c6, hv6, hs6⟩ := Rd.sl_open h6
      obtain rfl : v6 = .slice a6 N.length c6 := by simpa using hv6
      have hcap6 : N.length ≤ c6 := by simpa using hs6.le
      have hmx6 := hs6.max
      unfold maxLen at hmx6
      have HS6 := Lib.hid (HS4.out.up0 b6)
      have HN6 := Lib.hid hs6
      have HT6 := Lib.hid (HT4.out.below b6)
      have HBB6 := Lib.hid (below_trans_size HBB4.out b6)
      have R0 : Hid (EtRel w6 E1.length (.int .i64 0) w6) := ⟨0, Nat.zero_le _, rfl, Below.refl _ _⟩
      clear b6 h6 hv6 hs6 NU K4 HB4 HT4 HBB4 HS4 x0 x1 qg hlen
      go_wp2
      go_loopw [7] (fun vi wr => EtRel w6 E1.length vi wr) (fun i _ => E1.length - (intOf i).toNat)
      case atStart => exact R0.out
      case round =>
        clear R0
        obtain ⟨i, hi, rfl, hbel⟩ := hrel
        have HBEL := Lib.hid hbel
        have hwz := hbel.size
        by_cases hlt : i < E1.length
        · obtain ⟨x, hx⟩ : ∃ x, E1[i]? = some x := ⟨_, List.getElem?_eq_getElem hlt⟩
          obtain ⟨nx, hnx1, hnx2, hnx3, hnx4, hnx5, hnx6, -, -⟩ := tocL_from N md x (by rw [← HE1.out]; exact List.mem_of_getElem? hx)
          have hok := HNM.out nx hnx1
          have hsig := entL_sig nx.line hok.2.1
          have hszl := Nat.le_trans (entL_szle nx.line) hok.2.2
          rw [← hnx5] at hsig hszl
          have hfnd : foundB x.id x.tx N = true := by
            unfold foundB
            rw [List.any_eq_true]
            exact ⟨nx, hnx1, by simp [hnx2, hnx3, hnx4]⟩
          obtain ⟨g, off, vl, vr, rfl, hgo, hgl, d0, d1, d2, d3, d4, hER⟩ := ens_at (HS6.out.up0 hbel) hx
          obtain ⟨al, nl, cl, rfl⟩ := Rd.sl_form hER.line
          have DP := Lib.hid (deep_any 1000000 x.line wr.heap.size (.slice al nl cl) wr hszl (Nat.le_refl _) hER.line.anyLt (Nat.le_refl _))
          have HSIG := Lib.hid (Inl.sigL_deep x.line hsig)
          obtain ⟨xl, eid, etx, line, refs⟩ := x
          dsimp only at d0 d1 d2 d3 d4 hfnd hnx6 DP HSIG
          have HFND := Lib.hid hfnd
          have hdl : (Inl.deepL line).length ≤ 1000000 := by rw [Inl.deepL_sz]; exact hszl
          clear hnx1 hnx2 hnx3 hnx4 hnx5 hok hsig hszl hfnd hER hgo hx hbel nx
          go_wp2_with fail
          refine DP.out.mono ?_
          rintro e w7 ⟨v7, rows, rfl, hrow⟩
          obtain ⟨DL, hDL⟩ : ∃ DL, DL = Inl.deepL line := ⟨_, rfl⟩
          rw [← hDL] at hrow HSIG hdl
          obtain ⟨nD, hnD⟩ : ∃ nD, nD = DL.length := ⟨_, rfl⟩
          obtain ⟨a7, c7, hv7⟩ := own_slice hrow.own
          rw [List.length_map, ← hnD] at hv7
          subst hv7
          have hcp7 := own_cap' hrow.own
          rw [List.length_map, ← hnD] at hcp7
          obtain ⟨hcp7, hcm7⟩ := hcp7
          unfold maxLen at hcm7
          have HROW := Lib.hid hrow
          have HND := Lib.hid hnD
          have b67 := below_trans_size HBEL.out hrow.bel
          have B67 := Lib.hid b67
          have d0 : w7.cell? ⟨g, off + i * 5, none⟩ = _ := (hrow.bel.cell (p := ⟨g, off + i * 5, none⟩) hgl).trans d0
          have d1 : w7.cell? ⟨g, off + i * 5 + 1, none⟩ = _ := (hrow.bel.cell (p := ⟨g, off + i * 5 + 1, none⟩) hgl).trans d1
          have d2 : w7.cell? ⟨g, off + i * 5 + 2, none⟩ = _ := (hrow.bel.cell (p := ⟨g, off + i * 5 + 2, none⟩) hgl).trans d2
          have hj0 : (0 : Int) ≤ (i : Int) := by omega
          have hj1 : (i : Int) < (E1.length : Int) := by omega
          have HN7 := Lib.hid (HN6.out.up0 b67)
          rw [← hnD] at hdl
          clear hDL hnD hrow b67 DP d3 d4 hgl
          go_wp2
          go_loop [9] (fun vk => ∃ k : Nat, k ≤ nD ∧ vk = .int .i64 k) (fun vk => nD - (intOf vk).toNat)
          case atStart => exact ⟨0, Nat.zero_le _, rfl⟩
          case round =>
            obtain ⟨k, hk, rfl⟩ := hrel
            by_cases hkl : k < nD
            · obtain ⟨y, hy⟩ : ∃ y, DL[k]? = some y := ⟨_, List.getElem?_eq_getElem (by rw [← HND.out]; exact hkl)⟩
              obtain ⟨ky, ty, dy, tiy, ay, ary, ciy, ksy, rfl, hP⟩ := HSIG.out y (List.mem_of_getElem? hy)
              obtain ⟨r, hr, hd⟩ := HROW.out.red.get k _ (by rw [List.getElem?_map, hy]; rfl)
              obtain ⟨vc, vp, va, vi, vk, rfl, -⟩ := Inl.open_ hd
              have hown := HROW.out.own
              rw [List.length_map, ← HND.out] at hown
              obtain ⟨g9, cap9, hvg, -⟩ := own_form hown (by omega)
              obtain ⟨rfl, rfl⟩ : a7 = some ⟨g9, 0, none⟩ ∧ c7 = cap9 := by injection hvg with h1 _ h3; exact ⟨h1, h3⟩
              have k0 : w7.cell? ⟨g9, k * 10, none⟩ = some (.int .i64 ky) := by
                have h1 := flat_get 10 rows HROW.out.len k 0 _ _ hr rfl
                have h2 := hown.cellAt (k * 10 + 0) (by omega)
                rw [h1] at h2
                exact h2
              have k4 : w7.cell? ⟨g9, k * 10 + 4, none⟩ = some (.string ay.id) := by
                have h1 := flat_get 10 rows HROW.out.len k 4 _ _ hr rfl
                have h2 := hown.cellAt (k * 10 + 4) (by omega)
                rw [h1] at h2
                exact h2
              obtain ⟨p9, p11, p16, p12, p14, p13, p2, p3, p10⟩ := hP
              have r9 : (ky == 9) = false := by rw [beq_eq_false_iff_ne]; exact p9
              have r11 : (ky == 11) = false := by rw [beq_eq_false_iff_ne]; exact p11
              have r16 : (ky == 16) = false := by rw [beq_eq_false_iff_ne]; exact p16
              have r12 : (ky == 12) = false := by rw [beq_eq_false_iff_ne]; exact p12
              have r14 : (ky == 14) = false := by rw [beq_eq_false_iff_ne]; exact p14
              have r13 : (ky == 13) = false := by rw [beq_eq_false_iff_ne]; exact p13
              have r2 : (ky == 2) = false := by rw [beq_eq_false_iff_ne]; exact p2
              have r3 : (ky == 3) = false := by rw [beq_eq_false_iff_ne]; exact p3
              clear hy hr hd hown hvg p9 p11 p16 p12 p14 p13 p2 p3
              cases hem : emptyS ay.id with
              | true =>
                have qe : ay.id.toList.isEmpty = true := by rw [Lib.toList_data, List.isEmpty_iff]; exact of_decide_eq_true hem
                clear hem
                go_wp2
                go_round
                case rel => exact ⟨k + 1, by omega, by go_num⟩
                case measure => simp [intOf]; omega
              | false =>
                have qe : ay.id.toList.isEmpty = false := by rw [Lib.toList_data, List.isEmpty_eq_false_iff]; exact of_decide_eq_false hem
                have r10 : (ky == 10) = false := by
                  rw [beq_eq_false_iff_ne]
                  intro e
                  rw [p10 e] at hem
                  cases hem
                clear hem p10
                go_wp2
                go_round
                case rel => exact ⟨k + 1, by omega, by go_num⟩
                case measure => simp [intOf]; omega
            · have hkk : k = nD := by omega
              subst hkk
              have R9 : Hid (∃ (k q : Nat), k ≤ N.length ∧ (.int .i64 0 : Value) = .int .i64 (k : Int) ∧ (.bool false : Value) = .bool (foundB eid etx (N.take k)) ∧ w7 = w7.drewN q) := ⟨0, 0, Nat.zero_le _, rfl, rfl, rfl⟩
              go_wp2
              go_loopw [10, 11] (fun vf vk wr' => ∃ (k q : Nat), k ≤ N.length ∧ vk = .int .i64 (k : Int) ∧ vf = .bool (foundB eid etx (N.take k)) ∧ wr' = w7.drewN q) (fun _ vk _ => N.length - (intOf vk).toNat)
              case atStart => exact R9.out
              case round =>
                clear R9
                obtain ⟨k, q, hkN, rfl, rfl, rfl⟩ := hrel
                by_cases hkl : k < N.length
                · obtain ⟨y, hy⟩ : ∃ y, N[k]? = some y := ⟨_, List.getElem?_eq_getElem hkl⟩
                  have hsn := found_snoc eid etx N k y hy
                  obtain ⟨g9, o9, vl9, rfl, -, hg9, f0, f1, f2, -, -⟩ := nms_at HN7.out hy
                  obtain ⟨nid, nkd, nval, nline⟩ := y
                  dsimp only at f0 f1 f2 hsn
                  have hk0 : (0 : Int) ≤ (k : Int) := by omega
                  have hk1 : (k : Int) < (N.length : Int) := by omega
                  have q1 : (nkd.toList == [115, 101, 99, 116, 105, 111, 110]) = decide (nkd = secS) := lit_eq nkd _
                  generalize decide (nkd = secS) = bk at *
                  have q2 : (nid.toList == eid.toList) = decide (nid = eid) := str_dec nid eid
                  generalize decide (nid = eid) = bi at *
                  have q3 : (nval.toList == etx.toList) = decide (nval = etx) := str_dec nval etx
                  generalize decide (nval = etx) = bv at *
                  have HSN := Lib.hid hsn
                  clear hsn hy
                  generalize foundB eid etx (N.take k) = bf at *
                  cases bf with
                  | true =>
                    go_wp2_with fail
                    go_quiet (fail)
                    go_wp2
                    go_roundw
                    case rel => exact ⟨k + 1, _, by omega, by go_num, by rw [HSN.out]; rfl, rfl⟩
                    case measure => simp [intOf]; omega
                  | false =>
                    cases bk with
                    | false =>
                      go_wp2_with fail
                      go_quiet (fail)
                      go_wp2
                      go_roundw
                      case rel => exact ⟨k + 1, _, by omega, by go_num, by rw [HSN.out]; rfl, rfl⟩
                      case measure => simp [intOf]; omega
                    | true =>
                      cases bi with
                      | false =>
                        go_wp2_with fail
                        go_quiet (fail)
                        go_wp2
                        go_roundw
                        case rel => exact ⟨k + 1, _, by omega, by go_num, by rw [HSN.out]; rfl, rfl⟩
                        case measure => simp [intOf]; omega
                      | true =>
                        cases bv
                        all_goals
                          go_wp2_with fail
                          go_quiet (fail)
                          go_wp2
                          go_roundw
                          case rel => exact ⟨k + 1, _, by omega, by go_num, by rw [HSN.out]; rfl, rfl⟩
                          case measure => simp [intOf]; omega
                · have hkk : k = N.length := by omega
                  subst hkk
                  rw [List.take_length, HFND.out]
                  have qlv : decide ((md : Int) < xl) = false := decide_eq_false (by omega)
                  have HREL : Hid (EtRel w6 E1.length (.int .i64 ((i + 1 : Nat) : Int)) (w7.drewN q)) := ⟨i + 1, by omega, rfl, below_dN B67.out q⟩
                  go_wp2
                  go_roundw
                  case rel => exact HREL.out
                  case measure => simp [intOf]; omega
        · have hil : i = E1.length := by omega
          subst hil
          have HT7 := Lib.hid (HT6.out.below hbel)
          have HB7 := Lib.hid (below_trans_size HBB6.out hbel)
          clear hbel
          go_wp2_with fail
          refine (awake_any _ HT7.out).mono ?_
          rintro e w8 ⟨rfl, b8⟩
          have HZ := Lib.hid (below_trans_size HB7.out b8)
          clear b8
          go_wp2
          go_ret
          exact ⟨rfl, HZ.out⟩
    · have q1 : ((docErr closesS me l : Nat) : Int) != 0 := by rw [bne_iff_ne]; omega
      generalize docErr closesS me l = E at *
      clear hE
      go_wp2_with fail
      refine (awake_any _ HT2.out).mono ?_
      rintro e w3 ⟨rfl, b3⟩
      have HZ := Lib.hid (below_trans_size HB2B.out b3)
      clear b3
      go_wp2
      go_ret
      exact ⟨rfl, HZ.out⟩
end Go.Proofs.YtlbioncagkkkoaaGreatDoor
