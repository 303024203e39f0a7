/- tree.SameBlocks, tree.Same: whether blocks, documents are equal. -/
import Derived.Test.YtjobjicdfoklpaaGreatDoorSeqF
import Derived.Test.YtjobjicdfoklpaaGreatDoorSameBl
namespace Go.Proofs.YtjobjicdfoklpaaGreatDoor
open Go.RowKit
set_option linter.unusedVariables false
set_option linter.unusedSimpArgs false

theorem blk_eq {kd lv : Int} {i t d ti : ByteArray} {at_ at_' : At} {li li' : List Inl} {ks ks' : List Blk} : Blk.mk kd lv i t d ti at_ li ks = Blk.mk kd lv i t d ti at_' li' ks' ↔ at_ = at_' ∧ li = li' ∧ ks = ks' :=
  ⟨fun h => by injection h with h1 h2 h3 h4 h5 h6 h7 h8 h9; exact ⟨h7, h8, h9⟩, fun h => by rw [h.1, h.2.1, h.2.2]⟩
theorem blR_up {w w' : World} {at_ : At} {li : List Inl} {ks : List Blk} {vc vp vl vk : Value} (h : BlR (· < w.heap.size) w at_ li ks vc vp vl vk) (hb : Below w.heap.size w w') : BlR (· < w'.heap.size) w' at_ li ks vc vp vl vk :=
  ⟨h.at_.up hb, h.line.up hb, h.kids.up hb⟩
set_option maxRecDepth 100000 in
set_option maxHeartbeats 8000000 in
theorem sameBlock1_any (kd kd' lv lv' : Int) (i t d ti i' t' d' ti' : ByteArray) (at_ at_' : At) (li li' : List Inl) (ks ks' : List Blk)
    (ac ap al ak ac' ap' al' ak' : Option Addr) (nc cc np cp nl cl nk ck nc' cc' np' cp' nl' cl' nk' ck' : Nat) (w : World)
    (h : BlR (· < w.heap.size) w at_ li ks (.slice ac nc cc) (.slice ap np cp) (.slice al nl cl) (.slice ak nk ck))
    (h' : BlR (· < w.heap.size) w at_' li' ks' (.slice ac' nc' cc') (.slice ap' np' cp') (.slice al' nl' cl') (.slice ak' nk' ck'))
    (HK : ∀ v v' w2, Rd (· < w2.heap.size) w2 (blksD ks) [v] → Rd (· < w2.heap.size) w2 (blksD ks') [v'] → Calls Tryz.prog 112 #[v, v'] w2 (SmPost ks ks' w2)) :
    Calls Tryz.prog 168 #[.agg #[.int .i64 kd, .int .i64 lv, .string i, .string t, .string d, .string ti, .string at_.id, .slice ac nc cc, .slice ap np cp, .slice al nl cl, .slice ak nk ck], .agg #[.int .i64 kd', .int .i64 lv', .string i', .string t', .string d', .string ti', .string at_'.id, .slice ac' nc' cc', .slice ap' np' cp', .slice al' nl' cl', .slice ak' nk' ck']] w fun e w' => ∃ b, e = .returned (.bool b) ∧ (b = true ↔ Blk.mk kd lv i t d ti at_ li ks = Blk.mk kd' lv' i' t' d' ti' at_' li' ks') ∧ Below w.heap.size w w' := by
  obtain ⟨w0, hw0⟩ : ∃ w0, w0 = (w.alloc (.cells #[.int .i64 kd, .int .i64 lv, .string i, .string t, .string d, .string ti, .string at_.id, .slice ac nc cc, .slice ap np cp, .slice al nl cl, .slice ak nk ck] 54)).alloc (.cells #[.int .i64 kd', .int .i64 lv', .string i', .string t', .string d', .string ti', .string at_'.id, .slice ac' nc' cc', .slice ap' np' cp', .slice al' nl' cl', .slice ak' nk' ck'] 54) := ⟨_, rfl⟩
  have hb0 : Below w.heap.size w w0 := by rw [hw0]; exact ((Below.refl _ _).alloc (Nat.le_refl _) _).alloc (by simp) _
  have k1 : CB 54 w.heap.size [.int .i64 kd, .int .i64 lv, .string i, .string t, .string d, .string ti, .string at_.id, .slice ac nc cc, .slice ap np cp, .slice al nl cl, .slice ak nk ck] w0 := by
    rw [hw0]; exact (CB.new _ _ _).below ((Below.refl _ _).alloc (Nat.le_refl _) _)
  have k2 : CB 54 (w.heap.size + 1) [.int .i64 kd', .int .i64 lv', .string i', .string t', .string d', .string ti', .string at_'.id, .slice ac' nc' cc', .slice ap' np' cp', .slice al' nl' cl', .slice ak' nk' ck'] w0 := by
    rw [hw0]
    have := CB.new 54 [.int .i64 kd', .int .i64 lv', .string i', .string t', .string d', .string ti', .string at_'.id, .slice ac' nc' cc', .slice ap' np' cp', .slice al' nl' cl', .slice ak' nk' ck'] (w.alloc (.cells #[.int .i64 kd, .int .i64 lv, .string i, .string t, .string d, .string ti, .string at_.id, .slice ac nc cc, .slice ap np cp, .slice al nl cl, .slice ak nk ck] 54))
    rwa [World.size_alloc] at this
  have A1 := Lib.hid (attrSame_any at_ at_' _ _ _ _ w0 (h.at_.up hb0) (h'.at_.up hb0))
  have A2 := Lib.hid (fun wx (hb : Below w.heap.size w wx) => tSameLine_any _ li li' _ _ wx (Nat.le_refl _) (h.line.up hb) (h'.line.up hb))
  have A4 := Lib.hid (fun wx (hb : Below w.heap.size w wx) => HK _ _ wx (h.kids.up hb) (h'.kids.up hb))

  have x0 := k1.cell 0 _ rfl
  have y0 := k2.cell 0 _ rfl
  have x1 := k1.cell 1 _ rfl
  have y1 := k2.cell 1 _ rfl
  have x2 := k1.cell 2 _ rfl
  have y2 := k2.cell 2 _ rfl
  have x3 := k1.cell 3 _ rfl
  have y3 := k2.cell 3 _ rfl
  have x4 := k1.cell 4 _ rfl
  have y4 := k2.cell 4 _ rfl
  have x5 := k1.cell 5 _ rfl
  have y5 := k2.cell 5 _ rfl
  have x6 := k1.cell 6 _ rfl
  have y6 := k2.cell 6 _ rfl
  have x7 := k1.cell 7 _ rfl
  have y7 := k2.cell 7 _ rfl
  have x8 := k1.cell 8 _ rfl
  have y8 := k2.cell 8 _ rfl
  have x9 := k1.cell 9 _ rfl
  have y9 := k2.cell 9 _ rfl
  have x10 := k1.cell 10 _ rfl
  have y10 := k2.cell 10 _ rfl
  have K1 := Lib.hid k1
  have K2 := Lib.hid k2
  have HB0 := Lib.hid hb0
  clear k1 k2 hb0 h h' HK
  by_cases f0 : kd = kd'
  case neg =>
    have n0 : (kd == kd') = false := by simp [f0]
    have HNO : Hid (¬ Blk.mk kd lv i t d ti at_ li ks = Blk.mk kd' lv' i' t' d' ti' at_' li' ks') := fun h => f0 (by injection h)
    clear f0
    go_enter Tryz.func168, Tryz.ntmps168
    go_upto_region 1 with (fail)
    rw [← hw0]
    clear hw0
    go_wp2
    go_ret
    exact ⟨false, rfl, no_iff HNO.out, HB0.out⟩
  subst f0
  have n0 : (kd == kd) = true := by simp
  by_cases f1 : lv = lv'
  case neg =>
    have n1 : (lv == lv') = false := by simp [f1]
    have HNO : Hid (¬ Blk.mk kd lv i t d ti at_ li ks = Blk.mk kd lv' i' t' d' ti' at_' li' ks') := fun h => f1 (by injection h)
    clear f1
    go_enter Tryz.func168, Tryz.ntmps168
    go_upto_region 1 with (fail)
    rw [← hw0]
    clear hw0
    go_wp2
    go_ret
    exact ⟨false, rfl, no_iff HNO.out, HB0.out⟩
  subst f1
  have n1 : (lv == lv) = true := by simp
  by_cases f2 : i = i'
  case neg =>
    have n2 := str_beq f2
    have HNO : Hid (¬ Blk.mk kd lv i t d ti at_ li ks = Blk.mk kd lv i' t' d' ti' at_' li' ks') := fun h => f2 (by injection h)
    clear f2
    go_enter Tryz.func168, Tryz.ntmps168
    go_upto_region 1 with (fail)
    rw [← hw0]
    clear hw0
    go_wp2
    go_ret
    exact ⟨false, rfl, no_iff HNO.out, HB0.out⟩
  subst f2
  have n2 : (i.toList == i.toList) = true := by simp
  by_cases f3 : t = t'
  case neg =>
    have n3 := str_beq f3
    have HNO : Hid (¬ Blk.mk kd lv i t d ti at_ li ks = Blk.mk kd lv i t' d' ti' at_' li' ks') := fun h => f3 (by injection h)
    clear f3
    go_enter Tryz.func168, Tryz.ntmps168
    go_upto_region 1 with (fail)
    rw [← hw0]
    clear hw0
    go_wp2
    go_ret
    exact ⟨false, rfl, no_iff HNO.out, HB0.out⟩
  subst f3
  have n3 : (t.toList == t.toList) = true := by simp
  by_cases f4 : d = d'
  case neg =>
    have n4 := str_beq f4
    have HNO : Hid (¬ Blk.mk kd lv i t d ti at_ li ks = Blk.mk kd lv i t d' ti' at_' li' ks') := fun h => f4 (by injection h)
    clear f4
    go_enter Tryz.func168, Tryz.ntmps168
    go_upto_region 1 with (fail)
    rw [← hw0]
    clear hw0
    go_wp2
    go_ret
    exact ⟨false, rfl, no_iff HNO.out, HB0.out⟩
  subst f4
  have n4 : (d.toList == d.toList) = true := by simp
  by_cases f5 : ti = ti'
  case neg =>
    have n5 := str_beq f5
    have HNO : Hid (¬ Blk.mk kd lv i t d ti at_ li ks = Blk.mk kd lv i t d ti' at_' li' ks') := fun h => f5 (by injection h)
    clear f5
    go_enter Tryz.func168, Tryz.ntmps168
    go_upto_region 1 with (fail)
    rw [← hw0]
    clear hw0
    go_wp2
    go_ret
    exact ⟨false, rfl, no_iff HNO.out, HB0.out⟩
  subst f5
  have n5 : (ti.toList == ti.toList) = true := by simp
  go_enter Tryz.func168, Tryz.ntmps168
  go_upto_region 1 with (fail)
  rw [← hw0]
  clear hw0
  go_wp2_with fail
  refine A1.out.mono ?_
  rintro e w1 ⟨r1, rfl, i1, b1⟩
  have I1 := Lib.hid i1
  have B1 := Lib.hid (below_trans_size HB0.out b1)
  have k1 := K1.out.below b1
  have k2 := K2.out.below b1
  have x9 := k1.cell 9 _ rfl
  have x10 := k1.cell 10 _ rfl
  have y9 := k2.cell 9 _ rfl
  have y10 := k2.cell 10 _ rfl
  have K3 := Lib.hid k1
  have K4 := Lib.hid k2
  clear i1 b1 A1 k1 k2
  cases r1 with
  | false =>
    go_wp2
    go_ret
    exact ⟨false, rfl, no_iff (fun h => absurd (I1.out.2 (blk_eq.1 h).1) (by simp)), B1.out⟩
  | true =>
    go_wp2_with fail
    refine (A2.out _ B1.out).mono ?_
    rintro e w2 ⟨r2, rfl, i2, b2⟩
    have I2 := Lib.hid i2
    have B2 := Lib.hid (below_trans_size B1.out b2)
    have k1 := K3.out.below b2
    have k2 := K4.out.below b2
    have x10 := k1.cell 10 _ rfl
    have y10 := k2.cell 10 _ rfl
    clear i2 b2 k1 k2
    cases r2 with
    | false =>
      go_wp2
      go_ret
      exact ⟨false, rfl, no_iff (fun h => absurd (I2.out.2 (blk_eq.1 h).2.1) (by simp)), B2.out⟩
    | true =>
      go_wp2_with fail
      refine (A4.out _ B2.out).mono ?_
      rintro e w3 ⟨r4, rfl, i4, b4⟩
      have I4 := Lib.hid i4
      have B4 := Lib.hid b4
      clear i4 b4
      go_wp2
      go_ret
      exact ⟨r4, rfl, by rw [I4.out, blk_eq]; exact ⟨fun h => ⟨I1.out.1 (by simp), I2.out.1 (by simp), h⟩, fun h => h.2.2⟩, below_trans_size B2.out B4.out⟩

set_option maxRecDepth 100000 in
set_option maxHeartbeats 8000000 in
theorem eqFuncB_any (l m : List Blk) (a1 a2 : Option Addr) (c1 c2 : Nat) (w : World) (h1 : Rd (· < w.heap.size) w (blksD l) [.slice a1 l.length c1]) (h2 : Rd (· < w.heap.size) w (blksD m) [.slice a2 m.length c2])
    (HK : ∀ (k : Nat) (kd lv : Int) (i t d ti : ByteArray) (at_ : At) (li : List Inl) (ks : List Blk), l[k]? = some (Blk.mk kd lv i t d ti at_ li ks) → ∀ ks' v v' w2, Rd (· < w2.heap.size) w2 (blksD ks) [v] → Rd (· < w2.heap.size) w2 (blksD ks') [v'] → Calls Tryz.prog 112 #[v, v'] w2 (SmPost ks ks' w2)) :
    Calls Tryz.prog 167 #[.slice a1 l.length c1, .slice a2 m.length c2, .func (.func 168) #[] #[]] w (SmPost l m w) := by
  obtain ⟨b1, d1, hv1, hs1⟩ := Rd.sl_open h1
  obtain ⟨b2, d2, hv2, hs2⟩ := Rd.sl_open h2
  obtain ⟨rfl, rfl⟩ : b1 = a1 ∧ d1 = c1 := by simp at hv1; exact ⟨hv1.1.symm, hv1.2.symm⟩
  obtain ⟨rfl, rfl⟩ : b2 = a2 ∧ d2 = c2 := by simp at hv2; exact ⟨hv2.1.symm, hv2.2.symm⟩
  have hc1 : l.length ≤ d1 := by simpa using hs1.le
  have hc2 : m.length ≤ d2 := by simpa using hs2.le
  have hm1 := hs1.max
  have hm2 := hs2.max
  unfold maxLen at hm1 hm2
  have H1 := Lib.hid hs1
  have H2 := Lib.hid hs2
  have HC := Lib.hid HK
  clear h1 h2 hv1 hv2 hs1 hs2 HK
  by_cases hL : l.length = m.length
  case neg =>
    have hll : ((l.length : Int) != m.length) = true := by simp; omega
    have HNO := Lib.hid (fun h : l = m => hL (by rw [h]))
    clear H1 H2 hL HC
    go_enter Tryz.func167, Tryz.ntmps167
    go_wp2
    go_ret
    exact ⟨false, rfl, no_iff HNO.out, Below.refl _ _⟩
  have hll : ((l.length : Int) != m.length) = false := by simp; omega
  have HL := Lib.hid hL
  have hme : m.length = l.length := hL.symm
  clear hL
  have R0 : Hid (SmL2 l m w (.int .i64 0) w) := ⟨0, Nat.zero_le _, rfl, by simp, Below.refl _ _⟩
  go_enter Tryz.func167, Tryz.ntmps167
  go_wp2
  go_loopw [17] (fun i wr => SmL2 l m w i wr) (fun i _ => l.length - (intOf i).toNat)
  case atStart => exact R0.out
  case round =>
    clear R0
    obtain ⟨k, hk, rfl, htk, hbel⟩ := hrel
    have HBEL := Lib.hid hbel
    have HTK := Lib.hid htk
    clear hbel htk
    by_cases hlt : k < l.length
    · obtain ⟨x, hx⟩ : ∃ x, l[k]? = some x := ⟨_, List.getElem?_eq_getElem hlt⟩
      obtain ⟨y, hy⟩ : ∃ y, m[k]? = some y := ⟨_, List.getElem?_eq_getElem (by omega)⟩
      obtain ⟨kd, lv, i, t, d, ti, at_, li, ks⟩ := x
      obtain ⟨kd', lv', i', t', d', ti', at_', li', ks'⟩ := y
      obtain ⟨g, off, vc, vp, vl, vk, rfl, hok, hbl, hc, hR⟩ := blks_at H1.out hx
      obtain ⟨g', off', vc', vp', vl', vk', rfl, hok', hbl', hc', hR'⟩ := blks_at H2.out hy
      obtain ⟨al, nl, cl, rfl⟩ := Rd.slf hR.line
      obtain ⟨ac, nc, cc, rfl⟩ := Rd.slf hR.at_.cls
      obtain ⟨ap, np, cp, rfl⟩ := Rd.slf hR.at_.prs
      obtain ⟨ak, nk, ck, rfl⟩ := Rd.slf hR.kids
      obtain ⟨al', nl', cl', rfl⟩ := Rd.slf hR'.line
      obtain ⟨ac', nc', cc', rfl⟩ := Rd.slf hR'.at_.cls
      obtain ⟨ap', np', cp', rfl⟩ := Rd.slf hR'.at_.prs
      obtain ⟨ak', nk', ck', rfl⟩ := Rd.slf hR'.kids
      obtain ⟨p0, p1, p2, p3, p4, p5, p6, p7, p8, p9, p10⟩ := hc.at3 (w' := wr) (HBEL.out.block g hok)
      obtain ⟨wA, hwA⟩ : ∃ wA, wA = wr.alloc (.cells #[.int .i64 kd, .int .i64 lv, .string i, .string t, .string d, .string ti, .string at_.id, .slice ac nc cc, .slice ap np cp, .slice al nl cl, .slice ak nk ck] 54) := ⟨_, rfl⟩
      have bA : Below wr.heap.size wr wA := by rw [hwA]; exact (Below.refl _ _).alloc (Nat.le_refl _) _
      have kA : CB 54 wr.heap.size [.int .i64 kd, .int .i64 lv, .string i, .string t, .string d, .string ti, .string at_.id, .slice ac nc cc, .slice ap np cp, .slice al nl cl, .slice ak nk ck] wA := by rw [hwA]; exact CB.new _ _ _
      have hbA := below_trans_size HBEL.out bA
      obtain ⟨q0, q1, q2, q3, q4, q5, q6, q7, q8, q9, q10⟩ := hc'.at3 (w' := wA) (hbA.block g' hok')
      obtain ⟨wB, hwB⟩ : ∃ wB, wB = wA.alloc (.cells #[.int .i64 kd', .int .i64 lv', .string i', .string t', .string d', .string ti', .string at_'.id, .slice ac' nc' cc', .slice ap' np' cp', .slice al' nl' cl', .slice ak' nk' ck'] 54) := ⟨_, rfl⟩
      have bB : Below wr.heap.size wr wB := by rw [hwB]; exact bA.alloc bA.size _
      have bB' : Below wA.heap.size wA wB := by rw [hwB]; exact (Below.refl _ _).alloc (Nat.le_refl _) _
      have kB : CB 54 wA.heap.size [.int .i64 kd', .int .i64 lv', .string i', .string t', .string d', .string ti', .string at_'.id, .slice ac' nc' cc', .slice ap' np' cp', .slice al' nl' cl', .slice ak' nk' ck'] wB := by rw [hwB]; exact CB.new _ _ _
      have kA' := kA.below bB'
      have hbB := below_trans_size HBEL.out bB
      have CC := Lib.hid (sameBlock1_any kd kd' lv lv' i t d ti i' t' d' ti' at_ at_' li li' ks ks' ac ap al ak ac' ap' al' ak' nc cc np cp nl cl nk ck nc' cc' np' cp' nl' cl' nk' ck' wB (blR_up hR hbB) (blR_up hR' hbB) (fun v v' w2 => HC.out k kd lv i t d ti at_ li ks hx ks' v v' w2))
      have x0 := kA'.cell 0 _ rfl
      have y0 := kB.cell 0 _ rfl
      have x1 := kA'.cell 1 _ rfl
      have y1 := kB.cell 1 _ rfl
      have x2 := kA'.cell 2 _ rfl
      have y2 := kB.cell 2 _ rfl
      have x3 := kA'.cell 3 _ rfl
      have y3 := kB.cell 3 _ rfl
      have x4 := kA'.cell 4 _ rfl
      have y4 := kB.cell 4 _ rfl
      have x5 := kA'.cell 5 _ rfl
      have y5 := kB.cell 5 _ rfl
      have x6 := kA'.cell 6 _ rfl
      have y6 := kB.cell 6 _ rfl
      have x7 := kA'.cell 7 _ rfl
      have y7 := kB.cell 7 _ rfl
      have x8 := kA'.cell 8 _ rfl
      have y8 := kB.cell 8 _ rfl
      have x9 := kA'.cell 9 _ rfl
      have y9 := kB.cell 9 _ rfl
      have x10 := kA'.cell 10 _ rfl
      have y10 := kB.cell 10 _ rfl
      have HX := Lib.hid hx
      have HY := Lib.hid hy
      have HBB := Lib.hid hbB
      clear hc hc' hR hR' hx hy kA kB kA' bA bB bB' hbA hbB hok hok' hbl hbl'
      go_upto_region 6 with (fail)
      rw [← hwA]
      clear hwA p0 p1 p2 p3 p4 p5 p6 p7 p8 p9 p10
      go_upto_region 7 with (fail)
      rw [← hwB]
      clear hwB q0 q1 q2 q3 q4 q5 q6 q7 q8 q9 q10
      go_wp2_with fail
      refine CC.out.mono ?_
      rintro e w3 ⟨r, rfl, i1, b3⟩
      have I1 := Lib.hid i1
      have B3 := Lib.hid (below_trans_size HBB.out b3)
      clear i1 b3 x0 x1 x2 x3 x4 x5 x6 x7 x8 x9 x10 y0 y1 y2 y3 y4 y5 y6 y7 y8 y9 y10
      cases r with
      | false =>
        go_wp2
        go_ret
        exact ⟨false, rfl, no_iff (get_ne HX.out HY.out (fun h => absurd (I1.out.2 h) (by simp))), B3.out⟩
      | true =>
        go_wp2
        go_roundw
        case rel => exact ⟨k + 1, by omega, by go_num, take_same HTK.out HX.out (by rw [HY.out, I1.out.1 (by simp)]), B3.out⟩
        case measure => simp [intOf]; omega
    · obtain rfl : k = l.length := by omega
      go_wp2
      go_ret
      exact ⟨true, rfl, yes_iff (take_whole HTK.out HL.out), HBEL.out⟩

set_option maxRecDepth 100000 in
theorem tSameBlocks_any (n : Nat) : ∀ (l m : List Blk) (v1 v2 : Value) (w : World), Blk.szL l ≤ n → Rd (· < w.heap.size) w (blksD l) [v1] → Rd (· < w.heap.size) w (blksD m) [v2] →
    Calls Tryz.prog 112 #[v1, v2] w (SmPost l m w) := by
  induction n using Nat.strongRecOn with
  | _ n ih =>
    intro l m v1 v2 w hn h1 h2
    obtain ⟨a1, c1, hv1, -⟩ := Rd.sl_open h1
    obtain ⟨a2, c2, hv2, -⟩ := Rd.sl_open h2
    obtain rfl : v1 = .slice a1 l.length c1 := by simpa using hv1
    obtain rfl : v2 = .slice a2 m.length c2 := by simpa using hv2
    have CE := Lib.hid (eqFuncB_any l m a1 a2 c1 c2 w h1 h2 (fun k kd lv i t d ti at_ li ks hx ks' v v' w2 g1 g2 => by
      have hsz := Blk.szL_get l k _ hx
      rw [Blk.sz] at hsz
      exact ih (Blk.szL ks) (by omega) ks ks' v v' w2 (Nat.le_refl _) g1 g2))
    clear ih h1 h2 hv1 hv2
    go_enter Tryz.func112, Tryz.ntmps112
    go_wp2_with fail
    refine CE.out.mono ?_
    rintro e w1 ⟨r, rfl, i1, b1⟩
    have I1 := Lib.hid i1
    have B1 := Lib.hid b1
    clear i1 b1
    go_wp2
    go_ret
    exact ⟨r, rfl, I1.out, B1.out⟩

set_option maxRecDepth 100000 in
set_option maxHeartbeats 1000000 in
theorem tSame_any (me me' : List Pr) (l l' : List Blk) (vm vb um ub : Value) (w : World) (h1 : Rd (· < w.heap.size) w (prsD me) [vm]) (h2 : Rd (· < w.heap.size) w (prsD me') [um]) (h3 : Rd (· < w.heap.size) w (blksD l) [vb]) (h4 : Rd (· < w.heap.size) w (blksD l') [ub]) :
    Calls Tryz.prog 66 #[.agg #[vm, vb], .agg #[um, ub]] w fun e w' => ∃ b, e = .returned (.bool b) ∧ (b = true ↔ me = me' ∧ l = l') ∧ Below w.heap.size w w' := by
  obtain ⟨am, nm, cm, rfl⟩ := Rd.slf h1
  obtain ⟨bm, mm, dm, rfl⟩ := Rd.slf h2
  obtain ⟨ab, nb, cb, rfl⟩ := Rd.slf h3
  obtain ⟨bb, mb, db, rfl⟩ := Rd.slf h4
  obtain ⟨w0, hw0⟩ : ∃ w0, w0 = (w.alloc (.cells #[.slice am nm cm, .slice ab nb cb] 25)).alloc (.cells #[.slice bm mm dm, .slice bb mb db] 25) := ⟨_, rfl⟩
  have hb0 : Below w.heap.size w w0 := by rw [hw0]; exact ((Below.refl _ _).alloc (Nat.le_refl _) _).alloc (by simp) _
  have k1 : CB 25 w.heap.size [.slice am nm cm, .slice ab nb cb] w0 := by
    rw [hw0]; exact (CB.new _ _ _).below ((Below.refl _ _).alloc (Nat.le_refl _) _)
  have k2 : CB 25 (w.heap.size + 1) [.slice bm mm dm, .slice bb mb db] w0 := by
    rw [hw0]
    have := CB.new 25 [.slice bm mm dm, .slice bb mb db] (w.alloc (.cells #[.slice am nm cm, .slice ab nb cb] 25))
    rwa [World.size_alloc] at this
  have T1 := Lib.hid (eqPairs_any me me' _ _ w0 (h1.up hb0) (h2.up hb0))
  have T2 := Lib.hid (fun q => tSameBlocks_any (Blk.szL l) l l' _ _ (w0.drewN q) (Nat.le_refl _) ((h3.up hb0).up (below_dN (Below.refl _ _) q)) ((h4.up hb0).up (below_dN (Below.refl _ _) q)))
  have x0 := k1.cell 0 _ rfl
  have x1 := k1.cell 1 _ rfl
  have y0 := k2.cell 0 _ rfl
  have y1 := k2.cell 1 _ rfl
  have HB0 := Lib.hid hb0
  clear h1 h2 h3 h4 k1 k2 hb0
  go_enter Tryz.func66, Tryz.ntmps66
  go_upto_region 1 with (fail)
  rw [← hw0]
  clear hw0
  go_wp2_with fail
  refine T1.out.mono ?_
  rintro e w1 ⟨r1, rfl, i1, q, rfl⟩
  have I1 := Lib.hid i1
  clear i1
  cases r1 with
  | false =>
    go_wp2
    go_ret
    exact ⟨false, rfl, no_iff (fun h => absurd (I1.out.2 h.1) (by simp)), below_dN HB0.out q⟩
  | true =>
    go_wp2_with fail
    refine (T2.out q).mono ?_
    rintro e w2 ⟨r2, rfl, i2, b2⟩
    have I2 := Lib.hid i2
    have B2 := Lib.hid (below_trans_size (below_dN HB0.out q) b2)
    clear i2 b2
    go_wp2
    go_ret
    refine ⟨r2, rfl, ?_, B2.out⟩
    rw [I2.out]
    have := I1.out.1 (by simp)
    simp [this]


end Go.Proofs.YtjobjicdfoklpaaGreatDoor
