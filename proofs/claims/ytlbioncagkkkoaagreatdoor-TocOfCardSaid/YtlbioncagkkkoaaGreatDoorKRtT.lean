/- Contract of publisherref24.tidy. -/
import Derived.Test.YtlbioncagkkkoaaGreatDoorKPlMz
import Derived.Test.YtlbioncagkkkoaaGreatDoorKRMergO
namespace Go.Proofs.YtlbioncagkkkoaaGreatDoor
open Go.RowKit
set_option linter.unusedVariables false
set_option linter.unusedSimpArgs false

theorem addK_not (q : Int) (out : List Inl) (x : Inl) (h : x.kd ≠ q) : addK q out x = out ++ [x] := by unfold addK; rw [if_neg h]
theorem addK_first (q : Int) (out : List Inl) (x : Inl) (h : ∀ y, out.getLast? = some y → y.kd ≠ q) : addK q out x = out ++ [x] := by
  unfold addK
  split
  · split
    · rename_i y hg
      rw [if_neg (h y hg)]
    · rfl
  · rfl
theorem addK_join (q : Int) (a : List Inl) (y x : Inl) (hx : x.kd = q) (hy : y.kd = q) : addK q (a ++ [y]) x = a ++ [y.setTx (y.tx ++ x.tx)] := by
  unfold addK
  rw [if_pos hx]
  have h : (a ++ [y]).getLast? = some y := by simp
  rw [h]
  simp only
  rw [if_pos hy, List.dropLast_concat]
def TdRel (ok : Nat → Prop) (w1 : World) (M : List Inl) (v vi : Value) (wr : World) : Prop :=
  ∃ (k : Nat) (rows : List (List Value)), k ≤ M.length ∧ vi = .int .i64 k ∧ ColO ok w1 (joinK 4 (M.take k)) v rows wr

set_option maxRecDepth 100000 in
set_option maxHeartbeats 8000000 in
theorem rTidy_any (l : List Inl) (ok : Nat → Prop) (v : Value) (w : World) (hn : Inl.szL l ≤ 1000000) (hz : Inl.mzL l ≤ 100000) (hrd : Rd ok w (inlsD l) [v]) (hB : ∀ b, ok b → b < w.heap.size) :
    Calls Tryz.prog 68 #[v] w (RmPostO ok w (joinK 4 (Inl.mergeL l))) := by
  obtain ⟨iI, hiI, hzI0, hzI1, hzI2⟩ := info_parts infoIn
  obtain ⟨a, cap, hv, -⟩ := Rd.sl_open hrd
  obtain rfl : v = .slice a l.length cap := by simpa using hv
  have MG := Lib.hid (rMergeO_any 1000000 l ok (.slice a l.length cap) w hn (Nat.le_refl _) hrd hB (Inl.mzL_txB l hz))
  obtain ⟨M, hM⟩ : ∃ M, M = Inl.mergeL l := ⟨_, rfl⟩
  have hMz : Inl.mzL M ≤ 100000 := by rw [hM]; exact Nat.le_trans (merge_mz l) hz
  have hMl : M.length ≤ 1000000 := by
    have := Inl.len_le M
    have h2 := Inl.mergeA_szle l []
    rw [show Inl.szL [] = 0 by rw [Inl.szL]] at h2
    rw [hM] at this ⊢
    unfold Inl.mergeL at this ⊢
    omega
  rw [← hM] at MG ⊢
  have HBO := Lib.hid hB
  clear hrd hv hM hn hz hB
  go_enter Tryz.func68, Tryz.ntmps68
  go_wp2_with fail
  (with_reducible refine MG.out.mono ?_)
  rintro e w1 ⟨v1, rfl, hr1, b1⟩
  obtain ⟨a1, c1, hv1, hs1⟩ := Rd.sl_open hr1.inside
  obtain rfl : v1 = .slice a1 M.length c1 := by simpa using hv1
  have hcap : M.length ≤ c1 := by simpa using hs1.le
  have hmx := hs1.max
  unfold maxLen at hmx
  have HS := Lib.hid hs1
  have HB1 := Lib.hid b1
  have hw1 := b1.size
  have R0 : Hid (TdRel (fun b => (ok b ∨ w.heap.size ≤ b) ∧ b < w1.heap.size) w1 M (.slice none 0 0) (.int .i64 0) w1) := ⟨0, [], Nat.zero_le _, rfl, ⟨nil_owns _ _ _ _, RdL.none, by simp, Below.refl _ _⟩⟩
  clear MG hr1 hv1 hs1 b1
  go_wp2
  go_loopw [3, 10] (fun v vi wr => TdRel (fun b => (ok b ∨ w.heap.size ≤ b) ∧ b < w1.heap.size) w1 M v vi wr) (fun _ i _ => M.length - (intOf i).toNat)
  case atStart => exact R0.out
  case round =>
    clear R0
    obtain ⟨k, rows, hk, rfl, hco⟩ := hrel
    obtain ⟨acc, hout⟩ : ∃ acc, acc = joinK 4 (M.take k) := ⟨_, rfl⟩
    have hol : acc.length ≤ k := by
      have := joinK_len 4 (M.take k)
      rw [List.length_take] at this
      rw [hout]; omega
    have haz : Inl.mzL acc ≤ 100000 := by rw [hout]; exact Nat.le_trans (joinK_mz 4 _) (Nat.le_trans (mzL_take M k) hMz)
    have HOUT := Lib.hid hout
    rw [← hout] at hco
    obtain ⟨av, cv, rfl⟩ := own_slice hco.own
    have HCO := Lib.hid hco
    have hbw := hco.bel.size
    clear hco hout
    by_cases hlt : k < M.length
    · obtain ⟨x, hx⟩ : ∃ x, M[k]? = some x := ⟨_, List.getElem?_eq_getElem hlt⟩
      have hxz := Nat.le_trans (mzL_mem M x (List.mem_of_getElem? hx)) hMz
      have hxt := Nat.le_trans (tx_mz x) hxz
      have HSN := Lib.hid (joinK_snoc 4 M k x hx)
      rw [← HOUT.out] at HSN
      obtain ⟨kd, t, d, ti, at_, ar, ci, ks⟩ := x
      change t.size ≤ 100000 at hxt
      obtain ⟨g, off, vc, vp, va, vi, vk, rfl, hok, hbl, hc, hR⟩ := inls_at (HS.out.up0 HCO.out.bel) hx
      obtain ⟨aa, na, ca, rfl⟩ := Rd.sl_form hR.args
      obtain ⟨ai, ni, cai, rfl⟩ := Rd.sl_form hR.cites
      obtain ⟨ac, nc, cc, rfl⟩ := Rd.sl_form hR.at_.cls
      obtain ⟨ap, np, cp, rfl⟩ := Rd.sl_form hR.at_.prs
      obtain ⟨ak, nk, ck, rfl⟩ := Rd.sl_form hR.kids
      obtain ⟨c0, c1, c2, c3, c4, c5, c6, c7, c8, c9⟩ := hc
      obtain ⟨w3, hw3⟩ : ∃ w3, w3 = wr.alloc (.cells #[.int .i64 kd, .string t, .string d, .string ti, .string at_.id, .slice ac nc cc, .slice ap np cp, .slice aa na ca, .slice ai ni cai, .slice ak nk ck] 47) := ⟨_, rfl⟩
      have P3 : PB wr.heap.size [.int .i64 kd, .string t, .string d, .string ti, .string at_.id, .slice ac nc cc, .slice ap np cp, .slice aa na ca, .slice ai ni cai, .slice ak nk ck] w3 := by rw [hw3]; exact heap_alloc_new wr _
      have b3 : Below wr.heap.size wr w3 := by rw [hw3]; exact (Below.refl _ _).alloc (Nat.le_refl _) _
      have HC3 := Lib.hid (HCO.out.grown (grown_below b3))
      have IN3 := Lib.hid (show InR (fun b => (ok b ∨ w.heap.size ≤ b) ∧ b < w1.heap.size) w3 at_ ar ci ks (.slice ac nc cc) (.slice ap np cp) (.slice aa na ca) (.slice ai ni cai) (.slice ak nk ck) from
        ⟨⟨hR.at_.cls.up0 b3, hR.at_.prs.up0 b3⟩, hR.args.up0 b3, hR.cites.up0 b3, hR.kids.up0 b3⟩)
      have hz3 := b3.size
      clear hx hR hok hbl b3 hxz
      go_upto_region 5 with (fail)
      rw [← hw3]
      clear hw3 c0 c1 c2 c3 c4 c5 c6 c7 c8 c9
      obtain ⟨e0, e1, e2, e3, e4, e5, e6, e7, e8, e9, ef⟩ := P3.all
      have HP3 := Lib.hid P3
      have hlp := P3.lt
      clear P3
      rcases List.eq_nil_or_concat acc with hnil | ⟨a0, y, hcat⟩
      · have HM : Hid (joinK 4 (M.take (k + 1)) = [] ++ [Inl.mk kd t d ti at_ ar ci ks]) := by
          show _ = _
          rw [HSN.out, hnil, addK_first 4 [] _ (fun y hy => by simp at hy)]
        subst hnil
        go_wp2_with (at_builtin; refine wpList_append_any _ rfl (.tmp 44) (.tmp 46) 38 rfl w1.heap.size 47 iI _ 10 192 Tryz.underlying38 hiI hzI0 hzI1 hzI2 rfl (by decide) (.slice av ([] : List Inl).length cv) ([] : List Inl).length rows.flatten rfl (HC3.out.own.alloc _) (w3.heap.size + 1) (some ⟨w3.heap.size, 0, none⟩) 1 1 [.int .i64 kd, .string t, .string d, .string ti, .string at_.id, .slice ac nc cc, .slice ap np cp, .slice aa na ca, .slice ai ni cai, .slice ak nk ck] rfl ?g1 ?g2 ?g3 ?g4 ?g5 ?_)
        case g1 => exact ⟨rfl, fun _ => ⟨_, rfl, by simp, new_cells w3 [.int .i64 kd, .string t, .string d, .string ti, .string at_.id, .slice ac nc cc, .slice ap np cp, .slice aa na ca, .slice ai ni cai, .slice ak nk ck] _⟩⟩
        case g2 => exact one_ten
        case g3 => unfold maxLen; omega
        case g4 => omega
        case g5 => simp; omega
        intro v' w7 hown' hgrow hat
        have P7 := Lib.hid (HC3.out.push (x := Inl.mk kd t d ti at_ ar ci ks) (S := wr.heap.size) (cs := [.int .i64 kd, .string t, .string d, .string ti, .string at_.id, .slice ac nc cc, .slice ap np cp, .slice aa na ca, .slice ai ni cai, .slice ak nk ck]) (fun g hg => (HCO.out.own.lt g hg).2) HCO.out.bel.size (fun b hb => hb.2) ((Inl.mk_ kd t d ti IN3.out).weaken (fun b hb => .inl hb)) rfl (by simpa using hown') hgrow hat)
        clear hown' hgrow hat
        go_wp2
        go_roundw
        case rel => exact ⟨k + 1, _, by omega, by go_num, by rw [HM.out]; exact P7.out⟩
        case measure => simp [intOf]; omega
      · obtain ⟨m, hm⟩ : ∃ m, m = a0.length := ⟨_, rfl⟩
        have hcat' : acc = a0 ++ [y] := by simpa using hcat
        have hlen : acc.length = m + 1 := by rw [hcat', hm]; simp
        have hym : acc[m]? = some y := by rw [hcat', hm]; simp
        have hyt : y.tx.size ≤ 100000 := Nat.le_trans (tx_mz y) (Nat.le_trans (mzL_mem acc y (by rw [hcat']; simp)) haz)
        obtain ⟨r, hr, hrd⟩ := HC3.out.red.get m y.d (by rw [List.getElem?_map, hym]; rfl)
        obtain ⟨ky, ty, dy, tiy, aty, ary, ciy, ksy⟩ := y
        change ty.size ≤ 100000 at hyt
        obtain ⟨vcy, vpy, vay, viy, vky, rfl, hRy⟩ := Inl.open_ hrd
        have hown := HC3.out.own
        rw [hlen] at hown hol
        rw [hlen]
        obtain ⟨g2, cap2, hv2, hcap2⟩ := own_form hown (by omega)
        obtain ⟨rfl, rfl⟩ : av = some ⟨g2, 0, none⟩ ∧ cap2 = cv := by
          simp at hv2; exact ⟨hv2.1, hv2.2.symm⟩
        have k0 : w3.cell? ⟨g2, m * 10, none⟩ = some (.int .i64 ky) := by
          have h1 := flat_get 10 rows HC3.out.len m 0 _ _ hr rfl
          have h2 := hown.cellAt (m * 10 + 0) (by omega)
          rw [h1] at h2
          exact h2
        have k1 : w3.cell? ⟨g2, m * 10 + 1, none⟩ = some (.string ty) := by
          have h1 := flat_get 10 rows HC3.out.len m 1 _ _ hr rfl
          have h2 := hown.cellAt (m * 10 + 1) (by omega)
          rw [h1] at h2
          exact h2
        have HK1 := Lib.hid k1
        have HOW := Lib.hid hown
        have HCAT := Lib.hid hcat'
        have HLEN := Lib.hid hlen
        have HMM := Lib.hid hm
        have HRY := Lib.hid hRy
        have HRR := Lib.hid hr
        clear hcat hcat' hym hr hrd hRy hown hv2 hlen hm k1
        have qn : (0 : Int) ≤ (m : Int) := by omega
        have hpos : decide ((0 : Int) ≤ (m : Int)) = true := decide_eq_true (by omega)
        by_cases hkd : kd = 4
        case neg =>
          have hke := beq_false_of_ne hkd
          have HM : Hid (joinK 4 (M.take (k + 1)) = acc ++ [Inl.mk kd t d ti at_ ar ci ks]) := by show _ = _; rw [HSN.out, addK_not 4 acc (Inl.mk kd t d ti at_ ar ci ks) hkd]
          clear hkd
          go_wp2_with (at_builtin; refine wpList_append_any _ rfl (.tmp 44) (.tmp 46) 38 rfl w1.heap.size 47 iI _ 10 192 Tryz.underlying38 hiI hzI0 hzI1 hzI2 rfl (by decide) (.slice (some ⟨g2, 0, none⟩) (m + 1) cap2) (m + 1) rows.flatten rfl (HOW.out.alloc _) (w3.heap.size + 1) (some ⟨w3.heap.size, 0, none⟩) 1 1 [.int .i64 kd, .string t, .string d, .string ti, .string at_.id, .slice ac nc cc, .slice ap np cp, .slice aa na ca, .slice ai ni cai, .slice ak nk ck] rfl ?g1 ?g2 ?g3 ?g4 ?g5 ?_)
          case g1 => exact ⟨rfl, fun _ => ⟨_, rfl, by simp, new_cells w3 [.int .i64 kd, .string t, .string d, .string ti, .string at_.id, .slice ac nc cc, .slice ap np cp, .slice aa na ca, .slice ai ni cai, .slice ak nk ck] _⟩⟩
          case g2 => exact one_ten
          case g3 => unfold maxLen; omega
          case g4 => omega
          case g5 => simp; omega
          intro v' w7 hown' hgrow hat
          have P7 := Lib.hid (HC3.out.push (x := Inl.mk kd t d ti at_ ar ci ks) (S := wr.heap.size) (cs := [.int .i64 kd, .string t, .string d, .string ti, .string at_.id, .slice ac nc cc, .slice ap np cp, .slice aa na ca, .slice ai ni cai, .slice ak nk ck]) (fun g hg => (HCO.out.own.lt g hg).2) HCO.out.bel.size (fun b hb => hb.2) ((Inl.mk_ kd t d ti IN3.out).weaken (fun b hb => .inl hb)) rfl (by rw [HLEN.out]; exact hown') hgrow hat)
          clear hown' hgrow hat
          go_wp2
          go_roundw
          case rel => exact ⟨k + 1, _, by omega, by go_num, by rw [HM.out]; exact P7.out⟩
          case measure => simp [intOf]; omega
        subst hkd
        by_cases hky : ky = 4
        case neg =>
          have hyk := beq_false_of_ne hky
          have HM : Hid (joinK 4 (M.take (k + 1)) = acc ++ [Inl.mk 4 t d ti at_ ar ci ks]) := by
            show _ = _
            rw [HSN.out, addK_first 4 acc _ (fun y hy => by rw [HCAT.out] at hy; simp at hy; rw [← hy]; exact hky)]
          clear hky
          go_wp2_with (at_builtin; refine wpList_append_any _ rfl (.tmp 44) (.tmp 46) 38 rfl w1.heap.size 47 iI _ 10 192 Tryz.underlying38 hiI hzI0 hzI1 hzI2 rfl (by decide) (.slice (some ⟨g2, 0, none⟩) (m + 1) cap2) (m + 1) rows.flatten rfl (HOW.out.alloc _) (w3.heap.size + 1) (some ⟨w3.heap.size, 0, none⟩) 1 1 [.int .i64 4, .string t, .string d, .string ti, .string at_.id, .slice ac nc cc, .slice ap np cp, .slice aa na ca, .slice ai ni cai, .slice ak nk ck] rfl ?g1 ?g2 ?g3 ?g4 ?g5 ?_)
          case g1 => exact ⟨rfl, fun _ => ⟨_, rfl, by simp, new_cells w3 [.int .i64 4, .string t, .string d, .string ti, .string at_.id, .slice ac nc cc, .slice ap np cp, .slice aa na ca, .slice ai ni cai, .slice ak nk ck] _⟩⟩
          case g2 => exact one_ten
          case g3 => unfold maxLen; omega
          case g4 => omega
          case g5 => simp; omega
          intro v' w7 hown' hgrow hat
          have P7 := Lib.hid (HC3.out.push (x := Inl.mk 4 t d ti at_ ar ci ks) (S := wr.heap.size) (cs := [.int .i64 4, .string t, .string d, .string ti, .string at_.id, .slice ac nc cc, .slice ap np cp, .slice aa na ca, .slice ai ni cai, .slice ak nk ck]) (fun g hg => (HCO.out.own.lt g hg).2) HCO.out.bel.size (fun b hb => hb.2) ((Inl.mk_ 4 t d ti IN3.out).weaken (fun b hb => .inl hb)) rfl (by rw [HLEN.out]; exact hown') hgrow hat)
          clear hown' hgrow hat
          go_wp2
          go_roundw
          case rel => exact ⟨k + 1, _, by omega, by go_num, by rw [HM.out]; exact P7.out⟩
          case measure => simp [intOf]; omega
        subst hky
        have k1 := HK1.out
        have fz : w3.frozen? ⟨g2, m * 10 + 1, none⟩ = false := by
          rcases HOW.out.2 with ⟨h1, _⟩ | ⟨g', cap', cur, h1, _, h2, _⟩
          · cases h1
          · injection h1 with h1 _ _
            injection h1 with h1
            injection h1 with h1 _ _
            subst h1
            simp [World.frozen?, h2]
        have hty : ty.size + t.size ≤ 9223372036854775807 := by omega
        go_upto_region 7 with (fail)
        have hcut : ∀ wc, wc = (w3.drew).setCell ⟨g2, m * 10 + 1, none⟩ (.string (ty ++ t)) → ∃ rows', ColO (fun b => (ok b ∨ w.heap.size ≤ b) ∧ b < w1.heap.size) w1 (joinK 4 (M.take (k + 1))) (.slice (some ⟨g2, 0, none⟩) (m + 1) cap2) rows' wc := by
          intro wc hcut
          have hm := HMM.out
          subst hm
          have hcat := HCAT.out
          subst hcat
          have hl1 : (a0 ++ [Inl.mk 4 ty dy tiy aty ary ciy ksy]).length = a0.length + 1 := by simp
          have HJ := Lib.hid (show ColO (fun b => (ok b ∨ w.heap.size ≤ b) ∧ b < w1.heap.size) w1 (a0 ++ [Inl.mk 4 (ty ++ t) dy tiy aty ary ciy ksy]) (.slice (some ⟨g2, 0, none⟩) (a0.length + 1) cap2) (rows.take a0.length ++ [[.int .i64 4, .string (ty ++ t), .string dy, .string tiy, .string aty.id, vcy, vpy, vay, viy, vky]]) wc by
            rw [hcut]
            have hc := HC3.out
            rw [hl1] at hc
            exact ColO.join (rows := rows) t hc HRR.out HRY.out)
          have HM : Hid (joinK 4 (M.take (k + 1)) = a0 ++ [Inl.mk 4 (ty ++ t) dy tiy aty ary ciy ksy]) := by
            show _ = _
            rw [HSN.out, addK_join 4 a0 _ (Inl.mk 4 t d ti at_ ar ci ks) rfl rfl]
            rfl
          exact ⟨_, by rw [HM.out]; exact HJ.out⟩
        have HCUT := Lib.hid hcut
        clear hcut
        go_region
        all_goals
          go_wp2
          go_roundw
          case rel =>
            obtain ⟨rows', h9⟩ := HCUT.out _ rfl
            exact ⟨k + 1, rows', by omega, by go_num, h9⟩
          case measure => simp [intOf]; omega
    · have hkl : k = M.length := by omega
      subst hkl
      rw [List.take_length] at HOUT
      have RED := HCO.out.red
      rw [HOUT.out] at RED
      have HPOST : Hid (RmPostO ok w (joinK 4 M) (.returned (.slice av acc.length cv)) wr) := by
        refine ⟨_, rfl, Rd.sl_own (rows := rows) (B := w1.heap.size) (e := 47) ?_ (RdL.keep (fun b hb _ => ⟨?_, rfl⟩) _ _ RED) HCO.out.len (fun g hg => .inr ?_), below_trans_size HB1.out HCO.out.bel⟩
        · rw [List.length_map, ← HOUT.out]; exact HCO.out.own
        · rcases hb.1 with h | h
          · exact h.1
          · exact .inr (by omega)
        · have := (HCO.out.own.lt g hg).1; omega
      clear RED
      go_wp2
      go_ret
      exact HPOST.out
end Go.Proofs.YtlbioncagkkkoaaGreatDoor
