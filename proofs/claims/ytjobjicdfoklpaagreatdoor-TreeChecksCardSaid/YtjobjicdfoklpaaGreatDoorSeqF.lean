/- tree.SameLine: whether two lines are equal. -/
import Derived.Test.YtjobjicdfoklpaaGreatDoorSeqC
namespace Go.Proofs.YtjobjicdfoklpaaGreatDoor
open Go.RowKit
set_option linter.unusedVariables false
set_option linter.unusedSimpArgs false

theorem inR_up {w w' : World} {at_ : At} {ar : List ByteArray} {ci : List Ci} {ks : List Inl} {vc vp va vi vk : Value} (h : InR (· < w.heap.size) w at_ ar ci ks vc vp va vi vk) (hb : Below w.heap.size w w') : InR (· < w'.heap.size) w' at_ ar ci ks vc vp va vi vk :=
  ⟨h.at_.up hb, h.args.up hb, h.cites.up hb, h.kids.up hb⟩
theorem inl_eq {kd : Int} {t d ti : ByteArray} {at_ at_' : At} {ar ar' : List ByteArray} {ci ci' : List Ci} {ks ks' : List Inl} : Inl.mk kd t d ti at_ ar ci ks = Inl.mk kd t d ti at_' ar' ci' ks' ↔ at_ = at_' ∧ ar = ar' ∧ ci = ci' ∧ ks = ks' :=
  ⟨fun h => by injection h with h1 h2 h3 h4 h5 h6 h7 h8; exact ⟨h5, h6, h7, h8⟩, fun h => by rw [h.1, h.2.1, h.2.2.1, h.2.2.2]⟩
set_option maxRecDepth 100000 in
set_option maxHeartbeats 8000000 in
theorem sameLine1_any (kd kd' : Int) (t d ti t' d' ti' : ByteArray) (at_ at_' : At) (ar ar' : List ByteArray) (ci ci' : List Ci) (ks ks' : List Inl)
    (ac ap aa ai ak ac' ap' aa' ai' ak' : Option Addr) (nc cc np cp na ca ni cai nk ck nc' cc' np' cp' na' ca' ni' cai' nk' ck' : Nat) (w : World)
    (h : InR (· < w.heap.size) w at_ ar ci ks (.slice ac nc cc) (.slice ap np cp) (.slice aa na ca) (.slice ai ni cai) (.slice ak nk ck))
    (h' : InR (· < w.heap.size) w at_' ar' ci' ks' (.slice ac' nc' cc') (.slice ap' np' cp') (.slice aa' na' ca') (.slice ai' ni' cai') (.slice ak' nk' ck'))
    (HK : ∀ v v' w2, Rd (· < w2.heap.size) w2 (inlsD ks) [v] → Rd (· < w2.heap.size) w2 (inlsD ks') [v'] → Calls Tryz.prog 67 #[v, v'] w2 (SmPost ks ks' w2)) :
    Calls Tryz.prog 114 #[.agg #[.int .i64 kd, .string t, .string d, .string ti, .string at_.id, .slice ac nc cc, .slice ap np cp, .slice aa na ca, .slice ai ni cai, .slice ak nk ck], .agg #[.int .i64 kd', .string t', .string d', .string ti', .string at_'.id, .slice ac' nc' cc', .slice ap' np' cp', .slice aa' na' ca', .slice ai' ni' cai', .slice ak' nk' ck']] w fun e w' => ∃ b, e = .returned (.bool b) ∧ (b = true ↔ Inl.mk kd t d ti at_ ar ci ks = Inl.mk kd' t' d' ti' at_' ar' ci' ks') ∧ Below w.heap.size w w' := by
  obtain ⟨w0, hw0⟩ : ∃ w0, w0 = (w.alloc (.cells #[.int .i64 kd, .string t, .string d, .string ti, .string at_.id, .slice ac nc cc, .slice ap np cp, .slice aa na ca, .slice ai ni cai, .slice ak nk ck] 47)).alloc (.cells #[.int .i64 kd', .string t', .string d', .string ti', .string at_'.id, .slice ac' nc' cc', .slice ap' np' cp', .slice aa' na' ca', .slice ai' ni' cai', .slice ak' nk' ck'] 47) := ⟨_, rfl⟩
  have hb0 : Below w.heap.size w w0 := by rw [hw0]; exact ((Below.refl _ _).alloc (Nat.le_refl _) _).alloc (by simp) _
  have k1 : CB 47 w.heap.size [.int .i64 kd, .string t, .string d, .string ti, .string at_.id, .slice ac nc cc, .slice ap np cp, .slice aa na ca, .slice ai ni cai, .slice ak nk ck] w0 := by
    rw [hw0]; exact (CB.new _ _ _).below ((Below.refl _ _).alloc (Nat.le_refl _) _)
  have k2 : CB 47 (w.heap.size + 1) [.int .i64 kd', .string t', .string d', .string ti', .string at_'.id, .slice ac' nc' cc', .slice ap' np' cp', .slice aa' na' ca', .slice ai' ni' cai', .slice ak' nk' ck'] w0 := by
    rw [hw0]
    have := CB.new 47 [.int .i64 kd', .string t', .string d', .string ti', .string at_'.id, .slice ac' nc' cc', .slice ap' np' cp', .slice aa' na' ca', .slice ai' ni' cai', .slice ak' nk' ck'] (w.alloc (.cells #[.int .i64 kd, .string t, .string d, .string ti, .string at_.id, .slice ac nc cc, .slice ap np cp, .slice aa na ca, .slice ai ni cai, .slice ak nk ck] 47))
    rwa [World.size_alloc] at this
  have A1 := Lib.hid (attrSame_any at_ at_' _ _ _ _ w0 (h.at_.up hb0) (h'.at_.up hb0))
  have A2 := Lib.hid (fun wx (hb : Below w.heap.size w wx) => eqTexts_any ar ar' _ _ wx (h.args.up hb) (h'.args.up hb))
  have A3 := Lib.hid (fun wx (hb : Below w.heap.size w wx) => eqCites_any ci ci' _ _ wx (h.cites.up hb) (h'.cites.up hb))
  have A4 := Lib.hid (fun wx (hb : Below w.heap.size w wx) => HK _ _ wx (h.kids.up hb) (h'.kids.up hb))

  have x0 := k1.cell 0 _ rfl
  have y0 := k2.cell 0 _ rfl
  have x1 := k1.cell 1 _ rfl
  have y1 := k2.cell 1 _ rfl
  have x2 := k1.cell 2 _ rfl
  have y2 := k2.cell 2 _ rfl
  have x3 := k1.cell 3 _ rfl
  have y3 := k2.cell 3 _ rfl
  have x4 := k1.cell 4 _ rfl
  have y4 := k2.cell 4 _ rfl
  have x5 := k1.cell 5 _ rfl
  have y5 := k2.cell 5 _ rfl
  have x6 := k1.cell 6 _ rfl
  have y6 := k2.cell 6 _ rfl
  have x7 := k1.cell 7 _ rfl
  have y7 := k2.cell 7 _ rfl
  have x8 := k1.cell 8 _ rfl
  have y8 := k2.cell 8 _ rfl
  have x9 := k1.cell 9 _ rfl
  have y9 := k2.cell 9 _ rfl
  have K1 := Lib.hid k1
  have K2 := Lib.hid k2
  have HB0 := Lib.hid hb0
  clear k1 k2 hb0 h h' HK
  by_cases f0 : kd = kd'
  case neg =>
    have n0 : (kd == kd') = false := by simp [f0]
    have HNO : Hid (¬ Inl.mk kd t d ti at_ ar ci ks = Inl.mk kd' t' d' ti' at_' ar' ci' ks') := fun h => f0 (by injection h)
    clear f0
    go_enter Tryz.func114, Tryz.ntmps114
    go_upto_region 1 with (fail)
    rw [← hw0]
    clear hw0
    go_wp2
    go_ret
    exact ⟨false, rfl, no_iff HNO.out, HB0.out⟩
  subst f0
  have n0 : (kd == kd) = true := by simp
  by_cases f1 : t = t'
  case neg =>
    have n1 := str_beq f1
    have HNO : Hid (¬ Inl.mk kd t d ti at_ ar ci ks = Inl.mk kd t' d' ti' at_' ar' ci' ks') := fun h => f1 (by injection h)
    clear f1
    go_enter Tryz.func114, Tryz.ntmps114
    go_upto_region 1 with (fail)
    rw [← hw0]
    clear hw0
    go_wp2
    go_ret
    exact ⟨false, rfl, no_iff HNO.out, HB0.out⟩
  subst f1
  have n1 : (t.toList == t.toList) = true := by simp
  by_cases f2 : d = d'
  case neg =>
    have n2 := str_beq f2
    have HNO : Hid (¬ Inl.mk kd t d ti at_ ar ci ks = Inl.mk kd t d' ti' at_' ar' ci' ks') := fun h => f2 (by injection h)
    clear f2
    go_enter Tryz.func114, Tryz.ntmps114
    go_upto_region 1 with (fail)
    rw [← hw0]
    clear hw0
    go_wp2
    go_ret
    exact ⟨false, rfl, no_iff HNO.out, HB0.out⟩
  subst f2
  have n2 : (d.toList == d.toList) = true := by simp
  by_cases f3 : ti = ti'
  case neg =>
    have n3 := str_beq f3
    have HNO : Hid (¬ Inl.mk kd t d ti at_ ar ci ks = Inl.mk kd t d ti' at_' ar' ci' ks') := fun h => f3 (by injection h)
    clear f3
    go_enter Tryz.func114, Tryz.ntmps114
    go_upto_region 1 with (fail)
    rw [← hw0]
    clear hw0
    go_wp2
    go_ret
    exact ⟨false, rfl, no_iff HNO.out, HB0.out⟩
  subst f3
  have n3 : (ti.toList == ti.toList) = true := by simp
  go_enter Tryz.func114, Tryz.ntmps114
  go_upto_region 1 with (fail)
  rw [← hw0]
  clear hw0
  go_wp2_with fail
  refine A1.out.mono ?_
  rintro e w1 ⟨r1, rfl, i1, b1⟩
  have I1 := Lib.hid i1
  have B1 := Lib.hid (below_trans_size HB0.out b1)
  have k1 := K1.out.below b1
  have k2 := K2.out.below b1
  have x5 := k1.cell 5 _ rfl
  have x6 := k1.cell 6 _ rfl
  have x7 := k1.cell 7 _ rfl
  have x8 := k1.cell 8 _ rfl
  have x9 := k1.cell 9 _ rfl
  have y5 := k2.cell 5 _ rfl
  have y6 := k2.cell 6 _ rfl
  have y7 := k2.cell 7 _ rfl
  have y8 := k2.cell 8 _ rfl
  have y9 := k2.cell 9 _ rfl
  have K3 := Lib.hid k1
  have K4 := Lib.hid k2
  clear i1 b1 A1 k1 k2
  cases r1 with
  | false =>
    go_wp2
    go_ret
    exact ⟨false, rfl, no_iff (fun h => absurd (I1.out.2 (inl_eq.1 h).1) (by simp)), B1.out⟩
  | true =>
    go_wp2_with fail
    refine (A2.out _ B1.out).mono ?_
    rintro e w2 ⟨r2, rfl, i2, q2, rfl⟩
    have I2 := Lib.hid i2
    clear i2
    cases r2 with
    | false =>
      go_wp2
      go_ret
      exact ⟨false, rfl, no_iff (fun h => absurd (I2.out.2 (inl_eq.1 h).2.1) (by simp)), below_dN B1.out _⟩
    | true =>
      go_wp2_with fail
      refine (A3.out _ (below_dN B1.out _)).mono ?_
      rintro e w2 ⟨r3, rfl, i3, q3, rfl⟩
      have I3 := Lib.hid i3
      clear i3
      cases r3 with
      | false =>
        go_wp2
        go_ret
        exact ⟨false, rfl, no_iff (fun h => absurd (I3.out.2 (inl_eq.1 h).2.2.1) (by simp)), below_dN B1.out _⟩
      | true =>
        go_wp2_with fail
        refine (A4.out _ (below_dN B1.out _)).mono ?_
        rintro e w2 ⟨r4, rfl, i4, b4⟩
        have I4 := Lib.hid i4
        have B4 := Lib.hid b4
        clear i4 b4
        go_wp2
        go_ret
        exact ⟨r4, rfl, by rw [I4.out, inl_eq]; exact ⟨fun h => ⟨I1.out.1 (by simp), I2.out.1 (by simp), I3.out.1 (by simp), h⟩, fun h => h.2.2.2⟩, below_trans_size (below_dN B1.out _) B4.out⟩

set_option maxRecDepth 100000 in
set_option maxHeartbeats 8000000 in
theorem eqFuncL_any (l m : List Inl) (a1 a2 : Option Addr) (c1 c2 : Nat) (w : World) (h1 : Rd (· < w.heap.size) w (inlsD l) [.slice a1 l.length c1]) (h2 : Rd (· < w.heap.size) w (inlsD m) [.slice a2 m.length c2])
    (HK : ∀ (k : Nat) (kd : Int) (t d ti : ByteArray) (at_ : At) (ar : List ByteArray) (ci : List Ci) (ks : List Inl), l[k]? = some (Inl.mk kd t d ti at_ ar ci ks) → ∀ ks' v v' w2, Rd (· < w2.heap.size) w2 (inlsD ks) [v] → Rd (· < w2.heap.size) w2 (inlsD ks') [v'] → Calls Tryz.prog 67 #[v, v'] w2 (SmPost ks ks' w2)) :
    Calls Tryz.prog 113 #[.slice a1 l.length c1, .slice a2 m.length c2, .func (.func 114) #[] #[]] w (SmPost l m w) := by
  obtain ⟨b1, d1, hv1, hs1⟩ := Rd.sl_open h1
  obtain ⟨b2, d2, hv2, hs2⟩ := Rd.sl_open h2
  obtain ⟨rfl, rfl⟩ : b1 = a1 ∧ d1 = c1 := by simp at hv1; exact ⟨hv1.1.symm, hv1.2.symm⟩
  obtain ⟨rfl, rfl⟩ : b2 = a2 ∧ d2 = c2 := by simp at hv2; exact ⟨hv2.1.symm, hv2.2.symm⟩
  have hc1 : l.length ≤ d1 := by simpa using hs1.le
  have hc2 : m.length ≤ d2 := by simpa using hs2.le
  have hm1 := hs1.max
  have hm2 := hs2.max
  unfold maxLen at hm1 hm2
  have H1 := Lib.hid hs1
  have H2 := Lib.hid hs2
  have HC := Lib.hid HK
  clear h1 h2 hv1 hv2 hs1 hs2 HK
  by_cases hL : l.length = m.length
  case neg =>
    have hll : ((l.length : Int) != m.length) = true := by simp; omega
    have HNO := Lib.hid (fun h : l = m => hL (by rw [h]))
    clear H1 H2 hL HC
    go_enter Tryz.func113, Tryz.ntmps113
    go_wp2
    go_ret
    exact ⟨false, rfl, no_iff HNO.out, Below.refl _ _⟩
  have hll : ((l.length : Int) != m.length) = false := by simp; omega
  have HL := Lib.hid hL
  have hme : m.length = l.length := hL.symm
  clear hL
  have R0 : Hid (SmL2 l m w (.int .i64 0) w) := ⟨0, Nat.zero_le _, rfl, by simp, Below.refl _ _⟩
  go_enter Tryz.func113, Tryz.ntmps113
  go_wp2
  go_loopw [17] (fun i wr => SmL2 l m w i wr) (fun i _ => l.length - (intOf i).toNat)
  case atStart => exact R0.out
  case round =>
    clear R0
    obtain ⟨k, hk, rfl, htk, hbel⟩ := hrel
    have HBEL := Lib.hid hbel
    have HTK := Lib.hid htk
    clear hbel htk
    by_cases hlt : k < l.length
    · obtain ⟨x, hx⟩ : ∃ x, l[k]? = some x := ⟨_, List.getElem?_eq_getElem hlt⟩
      obtain ⟨y, hy⟩ : ∃ y, m[k]? = some y := ⟨_, List.getElem?_eq_getElem (by omega)⟩
      obtain ⟨kd, t, d, ti, at_, ar, ci, ks⟩ := x
      obtain ⟨kd', t', d', ti', at_', ar', ci', ks'⟩ := y
      obtain ⟨g, off, vc, vp, va, vi, vk, rfl, hok, hbl, hc, hR⟩ := inls_at H1.out hx
      obtain ⟨g', off', vc', vp', va', vi', vk', rfl, hok', hbl', hc', hR'⟩ := inls_at H2.out hy
      obtain ⟨aa, na, ca, rfl⟩ := Rd.slf hR.args
      obtain ⟨ai, ni, cai, rfl⟩ := Rd.slf hR.cites
      obtain ⟨ac, nc, cc, rfl⟩ := Rd.slf hR.at_.cls
      obtain ⟨ap, np, cp, rfl⟩ := Rd.slf hR.at_.prs
      obtain ⟨ak, nk, ck, rfl⟩ := Rd.slf hR.kids
      obtain ⟨aa', na', ca', rfl⟩ := Rd.slf hR'.args
      obtain ⟨ai', ni', cai', rfl⟩ := Rd.slf hR'.cites
      obtain ⟨ac', nc', cc', rfl⟩ := Rd.slf hR'.at_.cls
      obtain ⟨ap', np', cp', rfl⟩ := Rd.slf hR'.at_.prs
      obtain ⟨ak', nk', ck', rfl⟩ := Rd.slf hR'.kids
      obtain ⟨p0, p1, p2, p3, p4, p5, p6, p7, p8, p9⟩ := hc.at2 (w' := wr) (HBEL.out.block g hok)
      obtain ⟨wA, hwA⟩ : ∃ wA, wA = wr.alloc (.cells #[.int .i64 kd, .string t, .string d, .string ti, .string at_.id, .slice ac nc cc, .slice ap np cp, .slice aa na ca, .slice ai ni cai, .slice ak nk ck] 47) := ⟨_, rfl⟩
      have bA : Below wr.heap.size wr wA := by rw [hwA]; exact (Below.refl _ _).alloc (Nat.le_refl _) _
      have kA : CB 47 wr.heap.size [.int .i64 kd, .string t, .string d, .string ti, .string at_.id, .slice ac nc cc, .slice ap np cp, .slice aa na ca, .slice ai ni cai, .slice ak nk ck] wA := by rw [hwA]; exact CB.new _ _ _
      have hbA := below_trans_size HBEL.out bA
      obtain ⟨q0, q1, q2, q3, q4, q5, q6, q7, q8, q9⟩ := hc'.at2 (w' := wA) (hbA.block g' hok')
      obtain ⟨wB, hwB⟩ : ∃ wB, wB = wA.alloc (.cells #[.int .i64 kd', .string t', .string d', .string ti', .string at_'.id, .slice ac' nc' cc', .slice ap' np' cp', .slice aa' na' ca', .slice ai' ni' cai', .slice ak' nk' ck'] 47) := ⟨_, rfl⟩
      have bB : Below wr.heap.size wr wB := by rw [hwB]; exact bA.alloc bA.size _
      have bB' : Below wA.heap.size wA wB := by rw [hwB]; exact (Below.refl _ _).alloc (Nat.le_refl _) _
      have kB : CB 47 wA.heap.size [.int .i64 kd', .string t', .string d', .string ti', .string at_'.id, .slice ac' nc' cc', .slice ap' np' cp', .slice aa' na' ca', .slice ai' ni' cai', .slice ak' nk' ck'] wB := by rw [hwB]; exact CB.new _ _ _
      have kA' := kA.below bB'
      have hbB := below_trans_size HBEL.out bB
      have CC := Lib.hid (sameLine1_any kd kd' t d ti t' d' ti' at_ at_' ar ar' ci ci' ks ks' ac ap aa ai ak ac' ap' aa' ai' ak' nc cc np cp na ca ni cai nk ck nc' cc' np' cp' na' ca' ni' cai' nk' ck' wB (inR_up hR hbB) (inR_up hR' hbB) (fun v v' w2 => HC.out k kd t d ti at_ ar ci ks hx ks' v v' w2))
      have x0 := kA'.cell 0 _ rfl
      have y0 := kB.cell 0 _ rfl
      have x1 := kA'.cell 1 _ rfl
      have y1 := kB.cell 1 _ rfl
      have x2 := kA'.cell 2 _ rfl
      have y2 := kB.cell 2 _ rfl
      have x3 := kA'.cell 3 _ rfl
      have y3 := kB.cell 3 _ rfl
      have x4 := kA'.cell 4 _ rfl
      have y4 := kB.cell 4 _ rfl
      have x5 := kA'.cell 5 _ rfl
      have y5 := kB.cell 5 _ rfl
      have x6 := kA'.cell 6 _ rfl
      have y6 := kB.cell 6 _ rfl
      have x7 := kA'.cell 7 _ rfl
      have y7 := kB.cell 7 _ rfl
      have x8 := kA'.cell 8 _ rfl
      have y8 := kB.cell 8 _ rfl
      have x9 := kA'.cell 9 _ rfl
      have y9 := kB.cell 9 _ rfl
      have HX := Lib.hid hx
      have HY := Lib.hid hy
      have HBB := Lib.hid hbB
      clear hc hc' hR hR' hx hy kA kB kA' bA bB bB' hbA hbB hok hok' hbl hbl'
      go_upto_region 6 with (fail)
      rw [← hwA]
      clear hwA p0 p1 p2 p3 p4 p5 p6 p7 p8 p9
      go_upto_region 7 with (fail)
      rw [← hwB]
      clear hwB q0 q1 q2 q3 q4 q5 q6 q7 q8 q9
      go_wp2_with fail
      refine CC.out.mono ?_
      rintro e w3 ⟨r, rfl, i1, b3⟩
      have I1 := Lib.hid i1
      have B3 := Lib.hid (below_trans_size HBB.out b3)
      clear i1 b3 x0 x1 x2 x3 x4 x5 x6 x7 x8 x9 y0 y1 y2 y3 y4 y5 y6 y7 y8 y9
      cases r with
      | false =>
        go_wp2
        go_ret
        exact ⟨false, rfl, no_iff (get_ne HX.out HY.out (fun h => absurd (I1.out.2 h) (by simp))), B3.out⟩
      | true =>
        go_wp2
        go_roundw
        case rel => exact ⟨k + 1, by omega, by go_num, take_same HTK.out HX.out (by rw [HY.out, I1.out.1 (by simp)]), B3.out⟩
        case measure => simp [intOf]; omega
    · obtain rfl : k = l.length := by omega
      go_wp2
      go_ret
      exact ⟨true, rfl, yes_iff (take_whole HTK.out HL.out), HBEL.out⟩

set_option maxRecDepth 100000 in
theorem tSameLine_any (n : Nat) : ∀ (l m : List Inl) (v1 v2 : Value) (w : World), Inl.szL l ≤ n → Rd (· < w.heap.size) w (inlsD l) [v1] → Rd (· < w.heap.size) w (inlsD m) [v2] →
    Calls Tryz.prog 67 #[v1, v2] w (SmPost l m w) := by
  induction n using Nat.strongRecOn with
  | _ n ih =>
    intro l m v1 v2 w hn h1 h2
    obtain ⟨a1, c1, hv1, -⟩ := Rd.sl_open h1
    obtain ⟨a2, c2, hv2, -⟩ := Rd.sl_open h2
    obtain rfl : v1 = .slice a1 l.length c1 := by simpa using hv1
    obtain rfl : v2 = .slice a2 m.length c2 := by simpa using hv2
    have CE := Lib.hid (eqFuncL_any l m a1 a2 c1 c2 w h1 h2 (fun k kd t d ti at_ ar ci ks hx ks' v v' w2 g1 g2 => by
      have hsz := Inl.szL_get l k _ hx
      rw [Inl.sz] at hsz
      exact ih (Inl.szL ks) (by omega) ks ks' v v' w2 (Nat.le_refl _) g1 g2))
    clear ih h1 h2 hv1 hv2
    go_enter Tryz.func67, Tryz.ntmps67
    go_wp2_with fail
    refine CE.out.mono ?_
    rintro e w1 ⟨r, rfl, i1, b1⟩
    have I1 := Lib.hid i1
    have B1 := Lib.hid b1
    clear i1 b1
    go_wp2
    go_ret
    exact ⟨r, rfl, I1.out, B1.out⟩
end Go.Proofs.YtjobjicdfoklpaaGreatDoor
