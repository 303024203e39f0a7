/- slices.Equal at texts, pairs and citations, attr.Same. slices.Equal at citations; attr.Same. -/
import Derived.Test.YtjobjicdfoklpaaGreatDoorSame
import Derived.BigQuiet
namespace Go.Proofs.YtjobjicdfoklpaaGreatDoor
open Go.RowKit
set_option linter.unusedVariables false
set_option linter.unusedSimpArgs false

set_option maxRecDepth 100000 in
set_option maxHeartbeats 1000000 in
theorem eqTexts_any (l m : List ByteArray) (v1 v2 : Value) (w : World) (h1 : Rd (· < w.heap.size) w (strsD l) [v1]) (h2 : Rd (· < w.heap.size) w (strsD m) [v2]) :
    Calls Tryz.prog 116 #[v1, v2] w (SmPq l m w) := by
  obtain ⟨a1, c1, hv1, hs1⟩ := Rd.sl_open h1
  obtain ⟨a2, c2, hv2, hs2⟩ := Rd.sl_open h2
  obtain rfl : v1 = .slice a1 l.length c1 := by simpa using hv1
  obtain rfl : v2 = .slice a2 m.length c2 := by simpa using hv2
  have hc1 : l.length ≤ c1 := by simpa using hs1.le
  have hc2 : m.length ≤ c2 := by simpa using hs2.le
  have hm1 := hs1.max
  have hm2 := hs2.max
  unfold maxLen at hm1 hm2
  have H1 := Lib.hid hs1
  have H2 := Lib.hid hs2
  clear h1 h2 hv1 hv2 hs1 hs2
  by_cases hL : l.length = m.length
  case neg =>
    have hll : ((l.length : Int) != m.length) = true := by simp; omega
    have hno : l ≠ m := fun h => hL (by rw [h])
    have HNO := Lib.hid hno
    clear hno H1 H2 hL
    go_enter Tryz.func116, Tryz.ntmps116
    go_wp2
    go_ret
    exact ⟨false, rfl, no_iff HNO.out, 0, rfl⟩
  have hll : ((l.length : Int) != m.length) = false := by simp; omega
  have HL := Lib.hid hL
  have hme : m.length = l.length := hL.symm
  clear hL
  have R0 : Hid (DqRel l m w (.int .i64 0) w) := ⟨0, 0, Nat.zero_le _, rfl, by simp, rfl⟩
  go_enter Tryz.func116, Tryz.ntmps116
  go_wp2
  go_loopw [13] (fun i wr => DqRel l m w i wr) (fun i _ => l.length - (intOf i).toNat)
  case atStart => exact R0.out
  case round =>
    clear R0
    obtain ⟨k, q, hk, rfl, htk, rfl⟩ := hrel
    have HTK := Lib.hid htk
    clear htk
    by_cases hlt : k < l.length
    · obtain ⟨y, hy⟩ : ∃ y, l[k]? = some y := ⟨_, List.getElem?_eq_getElem hlt⟩
      obtain ⟨z, hz⟩ : ∃ z, m[k]? = some z := ⟨_, List.getElem?_eq_getElem (by omega)⟩
      obtain ⟨b1, o1, rfl, -, -, k1⟩ := strs_at H1.out hy
      obtain ⟨b2, o2, rfl, -, -, k2⟩ := strs_at H2.out hz
      by_cases hyz : y = z
      · subst hyz
        have HTS := Lib.hid (take_same HTK.out hy hz)
        clear H1 H2 hy hz
        have hne : (y.toList != y.toList) = false := by simp
        go_wp2_with fail
        go_quiet (fail)
        go_wp2
        go_roundw
        case rel => exact ⟨k + 1, _, by omega, by go_num, HTS.out, rfl⟩
        case measure => simp [intOf]; omega
      · have HNE := Lib.hid (get_ne hy hz hyz)
        clear H1 H2 hy hz
        have hne := str_bne hyz
        have hne2 := str_beq hyz
        clear hyz
        go_wp2_with fail
        go_quiet (fail)
        go_wp2
        go_ret
        exact ⟨false, rfl, no_iff HNE.out, _, World.drewN_drewN _ _ _⟩
    · obtain rfl : k = l.length := by omega
      clear H1 H2
      go_wp2
      go_ret
      exact ⟨true, rfl, yes_iff (take_whole HTK.out HL.out), q, rfl⟩

set_option maxRecDepth 100000 in
set_option maxHeartbeats 1000000 in
theorem eqPairs_any (l m : List Pr) (v1 v2 : Value) (w : World) (h1 : Rd (· < w.heap.size) w (prsD l) [v1]) (h2 : Rd (· < w.heap.size) w (prsD m) [v2]) :
    Calls Tryz.prog 111 #[v1, v2] w (SmPq l m w) := by
  obtain ⟨a1, c1, hv1, hs1⟩ := Rd.sl_open h1
  obtain ⟨a2, c2, hv2, hs2⟩ := Rd.sl_open h2
  obtain rfl : v1 = .slice a1 l.length c1 := by simpa using hv1
  obtain rfl : v2 = .slice a2 m.length c2 := by simpa using hv2
  have hc1 : l.length ≤ c1 := by simpa using hs1.le
  have hc2 : m.length ≤ c2 := by simpa using hs2.le
  have hm1 := hs1.max
  have hm2 := hs2.max
  unfold maxLen at hm1 hm2
  have H1 := Lib.hid hs1
  have H2 := Lib.hid hs2
  clear h1 h2 hv1 hv2 hs1 hs2
  by_cases hL : l.length = m.length
  case neg =>
    have hll : ((l.length : Int) != m.length) = true := by simp; omega
    have hno : l ≠ m := fun h => hL (by rw [h])
    have HNO := Lib.hid hno
    clear hno H1 H2 hL
    go_enter Tryz.func111, Tryz.ntmps111
    go_wp2
    go_ret
    exact ⟨false, rfl, no_iff HNO.out, 0, rfl⟩
  have hll : ((l.length : Int) != m.length) = false := by simp; omega
  have HL := Lib.hid hL
  have hme : m.length = l.length := hL.symm
  clear hL
  have R0 : Hid (DqRel l m w (.int .i64 0) w) := ⟨0, 0, Nat.zero_le _, rfl, by simp, rfl⟩
  go_enter Tryz.func111, Tryz.ntmps111
  go_wp2
  go_loopw [13] (fun i wr => DqRel l m w i wr) (fun i _ => l.length - (intOf i).toNat)
  case atStart => exact R0.out
  case round =>
    clear R0
    obtain ⟨k, q, hk, rfl, htk, rfl⟩ := hrel
    have HTK := Lib.hid htk
    clear htk
    by_cases hlt : k < l.length
    · obtain ⟨y, hy⟩ : ∃ y, l[k]? = some y := ⟨_, List.getElem?_eq_getElem hlt⟩
      obtain ⟨z, hz⟩ : ∃ z, m[k]? = some z := ⟨_, List.getElem?_eq_getElem (by omega)⟩
      obtain ⟨b1, o1, rfl, -, -, k1, k2⟩ := prs_at H1.out hy
      obtain ⟨b2, o2, rfl, -, -, k3, k4⟩ := prs_at H2.out hz
      by_cases hyz : y = z
      · subst hyz
        have HTS := Lib.hid (take_same HTK.out hy hz)
        clear H1 H2 hy hz
        obtain ⟨yk, yv⟩ := y
        dsimp only at k1 k2 k3 k4
        have hne1 : (yk.toList != yk.toList) = false := by simp
        have hne2 : (yv.toList != yv.toList) = false := by simp
        have hne3 : (yk.toList == yk.toList) = true := by simp
        have hne4 : (yv.toList == yv.toList) = true := by simp
        go_wp2_with fail
        go_quiet (fail)
        go_wp2
        go_roundw
        case rel => exact ⟨k + 1, _, by omega, by go_num, HTS.out, rfl⟩
        case measure => simp [intOf]; omega
      · have HNE := Lib.hid (get_ne hy hz hyz)
        clear H1 H2 hy hz
        obtain ⟨yk, yv⟩ := y
        obtain ⟨zk, zv⟩ := z
        dsimp only at k1 k2 k3 k4
        by_cases e1 : yk = zk
        · subst e1
          have e2 : yv ≠ zv := fun e => hyz (by rw [e])
          have hne1 : (yk.toList != yk.toList) = false := by simp
          have hne3 : (yk.toList == yk.toList) = true := by simp
          have hne2 := str_bne e2
          have hne4 := str_beq e2
          clear hyz e2
          go_wp2_with fail
          go_quiet (fail)
          go_wp2
          go_ret
          exact ⟨false, rfl, no_iff HNE.out, _, World.drewN_drewN _ _ _⟩
        · have hne1 := str_bne e1
          have hne3 := str_beq e1
          clear hyz e1
          go_wp2_with fail
          go_quiet (fail)
          go_wp2
          go_ret
          exact ⟨false, rfl, no_iff HNE.out, _, World.drewN_drewN _ _ _⟩
    · obtain rfl : k = l.length := by omega
      clear H1 H2
      go_wp2
      go_ret
      exact ⟨true, rfl, yes_iff (take_whole HTK.out HL.out), q, rfl⟩

end Go.Proofs.YtjobjicdfoklpaaGreatDoor

namespace Go.Proofs.YtjobjicdfoklpaaGreatDoor
open Go.RowKit
set_option linter.unusedVariables false
set_option linter.unusedSimpArgs false

set_option maxRecDepth 100000 in
set_option maxHeartbeats 1000000 in
theorem eqCites_any (l m : List Ci) (v1 v2 : Value) (w : World) (h1 : Rd (· < w.heap.size) w (cisD l) [v1]) (h2 : Rd (· < w.heap.size) w (cisD m) [v2]) :
    Calls Tryz.prog 117 #[v1, v2] w (SmPq l m w) := by
  obtain ⟨a1, c1, hv1, hs1⟩ := Rd.sl_open h1
  obtain ⟨a2, c2, hv2, hs2⟩ := Rd.sl_open h2
  obtain rfl : v1 = .slice a1 l.length c1 := by simpa using hv1
  obtain rfl : v2 = .slice a2 m.length c2 := by simpa using hv2
  have hc1 : l.length ≤ c1 := by simpa using hs1.le
  have hc2 : m.length ≤ c2 := by simpa using hs2.le
  have hm1 := hs1.max
  have hm2 := hs2.max
  unfold maxLen at hm1 hm2
  have H1 := Lib.hid hs1
  have H2 := Lib.hid hs2
  clear h1 h2 hv1 hv2 hs1 hs2
  by_cases hL : l.length = m.length
  case neg =>
    have hll : ((l.length : Int) != m.length) = true := by simp; omega
    have hno : l ≠ m := fun h => hL (by rw [h])
    have HNO := Lib.hid hno
    clear hno H1 H2 hL
    go_enter Tryz.func117, Tryz.ntmps117
    go_wp2
    go_ret
    exact ⟨false, rfl, no_iff HNO.out, 0, rfl⟩
  have hll : ((l.length : Int) != m.length) = false := by simp; omega
  have HL := Lib.hid hL
  have hme : m.length = l.length := hL.symm
  clear hL
  have R0 : Hid (DqRel l m w (.int .i64 0) w) := ⟨0, 0, Nat.zero_le _, rfl, by simp, rfl⟩
  go_enter Tryz.func117, Tryz.ntmps117
  go_wp2
  go_loopw [13] (fun i wr => DqRel l m w i wr) (fun i _ => l.length - (intOf i).toNat)
  case atStart => exact R0.out
  case round =>
    clear R0
    obtain ⟨k, q, hk, rfl, htk, rfl⟩ := hrel
    have HTK := Lib.hid htk
    clear htk
    by_cases hlt : k < l.length
    · obtain ⟨y, hy⟩ : ∃ y, l[k]? = some y := ⟨_, List.getElem?_eq_getElem hlt⟩
      obtain ⟨z, hz⟩ : ∃ z, m[k]? = some z := ⟨_, List.getElem?_eq_getElem (by omega)⟩
      obtain ⟨b1, o1, rfl, -, -, j0, j1, j2, j3⟩ := cis_at H1.out hy
      obtain ⟨b2, o2, rfl, -, -, j0', j1', j2', j3'⟩ := cis_at H2.out hz
      by_cases hyz : y = z
      · subst hyz
        have HTS := Lib.hid (take_same HTK.out hy hz)
        clear H1 H2 hy hz
        obtain ⟨yk, yp, ys, yb⟩ := y
        dsimp only at j0 j1 j2 j3 j0' j1' j2' j3'
        have m1 : (yk.toList != yk.toList) = false := by simp
        have m2 : (yp.toList != yp.toList) = false := by simp
        have m3 : (ys.toList != ys.toList) = false := by simp
        have m4 : (yb != yb) = false := by simp
        have m1' : (yk.toList == yk.toList) = true := by simp
        have m2' : (yp.toList == yp.toList) = true := by simp
        have m3' : (ys.toList == ys.toList) = true := by simp
        have m4' : (yb == yb) = true := by simp
        go_wp2_with fail
        go_quiet (fail)
        go_wp2
        go_roundw
        case rel => exact ⟨k + 1, _, by omega, by go_num, HTS.out, rfl⟩
        case measure => simp [intOf]; omega
      · have HNE := Lib.hid (get_ne hy hz hyz)
        clear H1 H2 hy hz
        obtain ⟨yk, yp, ys, yb⟩ := y
        obtain ⟨zk, zp, zs, zb⟩ := z
        dsimp only at j0 j1 j2 j3 j0' j1' j2' j3'
        by_cases e1 : yk = zk
        case neg =>
          have m1 := str_bne e1
          have m1' := str_beq e1
          clear hyz
          go_wp2_with fail
          go_quiet (fail)
          go_wp2
          go_ret
          exact ⟨false, rfl, no_iff HNE.out, _, World.drewN_drewN _ _ _⟩
        subst e1
        have m1 : (yk.toList != yk.toList) = false := by simp
        have m1' : (yk.toList == yk.toList) = true := by simp
        by_cases e2 : yp = zp
        case neg =>
          have m2 := str_bne e2
          have m2' := str_beq e2
          clear hyz
          go_wp2_with fail
          go_quiet (fail)
          go_wp2
          go_ret
          exact ⟨false, rfl, no_iff HNE.out, _, World.drewN_drewN _ _ _⟩
        subst e2
        have m2 : (yp.toList != yp.toList) = false := by simp
        have m2' : (yp.toList == yp.toList) = true := by simp
        by_cases e3 : ys = zs
        case neg =>
          have m3 := str_bne e3
          have m3' := str_beq e3
          clear hyz
          go_wp2_with fail
          go_quiet (fail)
          go_wp2
          go_ret
          exact ⟨false, rfl, no_iff HNE.out, _, World.drewN_drewN _ _ _⟩
        subst e3
        have m3 : (ys.toList != ys.toList) = false := by simp
        have m3' : (ys.toList == ys.toList) = true := by simp
        have e4 : yb ≠ zb := fun e => hyz (by rw [e])
        have m4 : (yb != zb) = true := by simp [e4]
        have m4' : (yb == zb) = false := by simp [e4]
        clear hyz e4
        go_wp2_with fail
        go_quiet (fail)
        go_wp2
        go_ret
        exact ⟨false, rfl, no_iff HNE.out, _, World.drewN_drewN _ _ _⟩
    · obtain rfl : k = l.length := by omega
      clear H1 H2
      go_wp2
      go_ret
      exact ⟨true, rfl, yes_iff (take_whole HTK.out HL.out), q, rfl⟩

set_option maxRecDepth 100000 in
set_option maxHeartbeats 1000000 in
theorem attrSame_any (a b : At) (vc vp uc up : Value) (w : World) (h1 : AtR (· < w.heap.size) w a vc vp) (h2 : AtR (· < w.heap.size) w b uc up) :
    Calls Tryz.prog 115 #[.agg #[.string a.id, vc, vp], .agg #[.string b.id, uc, up]] w fun e w' => ∃ r, e = .returned (.bool r) ∧ (r = true ↔ a = b) ∧ Below w.heap.size w w' := by
  obtain ⟨ac, nc, cc, rfl⟩ := Rd.slf h1.cls
  obtain ⟨ap, np, cp, rfl⟩ := Rd.slf h1.prs
  obtain ⟨bc, mc, dc, rfl⟩ := Rd.slf h2.cls
  obtain ⟨bp, mp, dp, rfl⟩ := Rd.slf h2.prs
  obtain ⟨w0, hw0⟩ : ∃ w0, w0 = (w.alloc (.cells #[.string a.id, .slice ac nc cc, .slice ap np cp] 44)).alloc (.cells #[.string b.id, .slice bc mc dc, .slice bp mp dp] 44) := ⟨_, rfl⟩
  have hb0 : Below w.heap.size w w0 := by rw [hw0]; exact ((Below.refl _ _).alloc (Nat.le_refl _) _).alloc (by simp) _
  have k1 : CB 44 w.heap.size [.string a.id, .slice ac nc cc, .slice ap np cp] w0 := by
    rw [hw0]; exact (CB.new _ _ _).below ((Below.refl _ _).alloc (Nat.le_refl _) _)
  have k2 : CB 44 (w.heap.size + 1) [.string b.id, .slice bc mc dc, .slice bp mp dp] w0 := by
    rw [hw0]
    have := CB.new 44 [.string b.id, .slice bc mc dc, .slice bp mp dp] (w.alloc (.cells #[.string a.id, .slice ac nc cc, .slice ap np cp] 44))
    rwa [World.size_alloc] at this
  have T1 := Lib.hid (eqTexts_any a.cls b.cls _ _ w0 (h1.cls.up hb0) (h2.cls.up hb0))
  have T2 := Lib.hid (fun q => eqPairs_any a.prs b.prs _ _ (w0.drewN q) ((h1.prs.up hb0).up (below_dN (Below.refl _ _) q)) ((h2.prs.up hb0).up (below_dN (Below.refl _ _) q)))
  have x0 := k1.cell 0 _ rfl
  have x1 := k1.cell 1 _ rfl
  have x2 := k1.cell 2 _ rfl
  have y0 := k2.cell 0 _ rfl
  have y1 := k2.cell 1 _ rfl
  have y2 := k2.cell 2 _ rfl
  obtain ⟨ia, ca, pa⟩ := a
  obtain ⟨ib, cb, pb⟩ := b
  dsimp only at x0 y0 T1 T2 hw0 ⊢
  have HB0 := Lib.hid hb0
  clear h1 h2 k1 k2 hb0
  by_cases c0 : ia = ib
  case neg =>
    have hee := str_beq c0
    have hno : ¬ (At.mk ia ca pa = At.mk ib cb pb) := fun h => c0 (by injection h)
    have HNO := Lib.hid hno
    clear c0 hno
    go_enter Tryz.func115, Tryz.ntmps115
    go_upto_region 1 with (fail)
    rw [← hw0]
    clear hw0
    go_wp2
    go_ret
    exact ⟨false, rfl, no_iff HNO.out, HB0.out⟩
  subst c0
  have hee : (ia.toList == ia.toList) = true := by simp
  go_enter Tryz.func115, Tryz.ntmps115
  go_upto_region 1 with (fail)
  rw [← hw0]
  clear hw0
  go_wp2_with fail
  refine T1.out.mono ?_
  rintro e w1 ⟨r1, rfl, i1, q, rfl⟩
  have I1 := Lib.hid i1
  clear i1
  cases r1 with
  | false =>
    go_wp2
    go_ret
    exact ⟨false, rfl, no_iff (fun h => by injection h with _ h _; exact absurd (I1.out.2 h) (by simp)), below_dN HB0.out q⟩
  | true =>
    go_wp2_with fail
    refine (T2.out q).mono ?_
    rintro e w1 ⟨r2, rfl, i2, q2, rfl⟩
    have I2 := Lib.hid i2
    clear i2
    go_wp2
    go_ret
    refine ⟨r2, rfl, ?_, below_dN HB0.out _⟩
    rw [I2.out]
    have := I1.out.1 (by simp)
    simp [this]

end Go.Proofs.YtjobjicdfoklpaaGreatDoor
