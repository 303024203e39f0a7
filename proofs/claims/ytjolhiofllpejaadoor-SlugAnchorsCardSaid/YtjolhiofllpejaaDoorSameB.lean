/- publisherref04.texts, Pairs, attrs: at equal data they answer true. publisherref04.SameLine: at equal inlines it answers true. publisherref04.SameBlocks, Same: at equal data they answer true. -/
import Derived.Test.YtjolhiofllpejaaDoorWeight
import Derived.Deep.DeepCutAuto
import Derived.RegionTactic
import Derived.BigRegion
namespace Go.Proofs.YtjolhiofllpejaaDoor
open Go.RowKit
set_option linter.unusedVariables false

theorem Rd.any {ok : Nat → Prop} {w : World} {d : D} {cs : List Value} (h : Rd ok w d cs) : Rd (· < w.heap.size) w d cs := Rd.keep (fun b _ hlt => ⟨hlt, rfl⟩) _ _ h
def DrRel (n : Nat) (w : World) (vi : Value) (wr : World) : Prop := ∃ k q : Nat, k ≤ n ∧ vi = .int .i64 k ∧ wr = w.drewN q

set_option maxRecDepth 100000 in
set_option maxHeartbeats 1000000 in
theorem texts_eq (l : List ByteArray) (v1 v2 : Value) (w : World) (h1 : Rd (· < w.heap.size) w (strsD l) [v1]) (h2 : Rd (· < w.heap.size) w (strsD l) [v2]) :
    Calls Tryd.prog 82 #[v1, v2] w fun e w' => e = .returned (.bool true) ∧ ∃ q, w' = w.drewN q := by
  obtain ⟨a1, c1, hv1, hs1⟩ := Rd.sl_open h1
  obtain ⟨a2, c2, hv2, hs2⟩ := Rd.sl_open h2
  obtain rfl : v1 = .slice a1 l.length c1 := by simpa using hv1
  obtain rfl : v2 = .slice a2 l.length c2 := by simpa using hv2
  have hc1 : l.length ≤ c1 := by simpa using hs1.le
  have hc2 : l.length ≤ c2 := by simpa using hs2.le
  have hm1 := hs1.max
  have hm2 := hs2.max
  unfold maxLen at hm1 hm2
  have H1 := Lib.hid hs1
  have H2 := Lib.hid hs2
  have hll : ((l.length : Int) != l.length) = false := by simp
  clear h1 h2 hv1 hv2 hs1 hs2
  go_enter Tryd.func82, Tryd.ntmps82
  go_wp2
  go_loopw [5] (fun i wr => DrRel l.length w i wr) (fun i _ => l.length - (intOf i).toNat)
  case atStart => exact ⟨0, 0, Nat.zero_le _, rfl, rfl⟩
  case round =>
    obtain ⟨k, q, hk, rfl, rfl⟩ := hrel
    by_cases hlt : k < l.length
    · obtain ⟨y, hy⟩ : ∃ y, l[k]? = some y := ⟨_, List.getElem?_eq_getElem hlt⟩
      obtain ⟨b1, o1, rfl, -, -, k1⟩ := strs_at H1.out hy
      obtain ⟨b2, o2, rfl, -, -, k2⟩ := strs_at H2.out hy
      have hne : (y.toList != y.toList) = false := by simp
      clear H1 H2 hy
      go_wp2_with fail
      go_quiet (fail)
      go_wp2
      go_roundw
      case rel => exact ⟨k + 1, _, by omega, by go_num, rfl⟩
      case measure => simp [intOf]; omega
    · clear H1 H2
      go_wp2
      go_ret
      exact ⟨rfl, q, rfl⟩

set_option maxRecDepth 100000 in
set_option maxHeartbeats 1000000 in
theorem pairs_eq (l : List Pr) (v1 v2 : Value) (w : World) (h1 : Rd (· < w.heap.size) w (prsD l) [v1]) (h2 : Rd (· < w.heap.size) w (prsD l) [v2]) :
    Calls Tryd.prog 34 #[v1, v2] w fun e w' => e = .returned (.bool true) ∧ ∃ q, w' = w.drewN q := by
  obtain ⟨a1, c1, hv1, hs1⟩ := Rd.sl_open h1
  obtain ⟨a2, c2, hv2, hs2⟩ := Rd.sl_open h2
  obtain rfl : v1 = .slice a1 l.length c1 := by simpa using hv1
  obtain rfl : v2 = .slice a2 l.length c2 := by simpa using hv2
  have hc1 : l.length ≤ c1 := by simpa using hs1.le
  have hc2 : l.length ≤ c2 := by simpa using hs2.le
  have hm1 := hs1.max
  have hm2 := hs2.max
  unfold maxLen at hm1 hm2
  have H1 := Lib.hid hs1
  have H2 := Lib.hid hs2
  have hll : ((l.length : Int) != l.length) = false := by simp
  clear h1 h2 hv1 hv2 hs1 hs2
  go_enter Tryd.func34, Tryd.ntmps34
  go_wp2
  go_loopw [5] (fun i wr => DrRel l.length w i wr) (fun i _ => l.length - (intOf i).toNat)
  case atStart => exact ⟨0, 0, Nat.zero_le _, rfl, rfl⟩
  case round =>
    obtain ⟨k, q, hk, rfl, rfl⟩ := hrel
    by_cases hlt : k < l.length
    · obtain ⟨y, hy⟩ : ∃ y, l[k]? = some y := ⟨_, List.getElem?_eq_getElem hlt⟩
      obtain ⟨b1, o1, rfl, -, -, k1, k2⟩ := prs_at H1.out hy
      obtain ⟨b2, o2, rfl, -, -, k3, k4⟩ := prs_at H2.out hy
      obtain ⟨yk, yv⟩ := y
      dsimp only at k1 k2 k3 k4
      have hne1 : (yk.toList != yk.toList) = false := by simp
      have hne2 : (yv.toList != yv.toList) = false := by simp
      clear H1 H2 hy
      go_wp2_with fail
      go_quiet (fail)
      go_wp2
      go_roundw
      case rel => exact ⟨k + 1, _, by omega, by go_num, rfl⟩
      case measure => simp [intOf]; omega
    · clear H1 H2
      go_wp2
      go_ret
      exact ⟨rfl, q, rfl⟩

set_option maxRecDepth 100000 in
set_option maxHeartbeats 1000000 in
theorem attrs_eq (a : At) (vc vp uc up : Value) (w : World) (h1 : AtR (· < w.heap.size) w a vc vp) (h2 : AtR (· < w.heap.size) w a uc up) :
    Calls Tryd.prog 60 #[.agg #[.string a.id, vc, vp], .agg #[.string a.id, uc, up]] w fun e w' => e = .returned (.bool true) ∧ Below w.heap.size w w' := by
  obtain ⟨ac, nc, cc, rfl⟩ := Rd.slf h1.cls
  obtain ⟨ap, np, cp, rfl⟩ := Rd.slf h1.prs
  obtain ⟨bc, mc, dc, rfl⟩ := Rd.slf h2.cls
  obtain ⟨bp, mp, dp, rfl⟩ := Rd.slf h2.prs
  obtain ⟨w0, hw0⟩ : ∃ w0, w0 = (w.alloc (.cells #[.string a.id, .slice ac nc cc, .slice ap np cp] 38)).alloc (.cells #[.string a.id, .slice bc mc dc, .slice bp mp dp] 38) := ⟨_, rfl⟩
  have hb0 : Below w.heap.size w w0 := by rw [hw0]; exact ((Below.refl _ _).alloc (Nat.le_refl _) _).alloc (by simp) _
  have k1 : CB 38 w.heap.size [.string a.id, .slice ac nc cc, .slice ap np cp] w0 := by
    rw [hw0]; exact (CB.new _ _ _).below ((Below.refl _ _).alloc (Nat.le_refl _) _)
  have k2 : CB 38 (w.heap.size + 1) [.string a.id, .slice bc mc dc, .slice bp mp dp] w0 := by
    rw [hw0]
    have := CB.new 38 [.string a.id, .slice bc mc dc, .slice bp mp dp] (w.alloc (.cells #[.string a.id, .slice ac nc cc, .slice ap np cp] 38))
    rwa [World.size_alloc] at this
  have T1 := Lib.hid (texts_eq a.cls _ _ w0 (h1.cls.up hb0) (h2.cls.up hb0))
  have T2 := Lib.hid (fun q => pairs_eq a.prs _ _ (w0.drewN q) ((h1.prs.up hb0).up (below_dN (Below.refl _ _) q)) ((h2.prs.up hb0).up (below_dN (Below.refl _ _) q)))
  have x0 := k1.cell 0 _ rfl
  have x1 := k1.cell 1 _ rfl
  have x2 := k1.cell 2 _ rfl
  have y0 := k2.cell 0 _ rfl
  have y1 := k2.cell 1 _ rfl
  have y2 := k2.cell 2 _ rfl
  have hee : (a.id.toList == a.id.toList) = true := by simp
  have HB0 := Lib.hid hb0
  clear h1 h2 k1 k2 hb0
  go_enter Tryd.func60, Tryd.ntmps60
  go_upto_region 1 with (fail)
  rw [← hw0]
  clear hw0
  go_wp2_with fail
  refine T1.out.mono ?_
  rintro e w1 ⟨rfl, q, rfl⟩
  go_wp2_with fail
  refine (T2.out q).mono ?_
  rintro e w1 ⟨rfl, q2, rfl⟩
  go_wp2
  go_ret
  exact ⟨rfl, below_dN HB0.out _⟩
end Go.Proofs.YtjolhiofllpejaaDoor

namespace Go.Proofs.YtjolhiofllpejaaDoor
open Go.RowKit
set_option linter.unusedVariables false

def SmL (n : Nat) (w : World) (vi : Value) (wr : World) : Prop := ∃ k : Nat, k ≤ n ∧ vi = .int .i64 k ∧ Below w.heap.size w wr
/-- Two boxes with the cells of two data. -/
def Two (T : TypeId) (w : World) (cs ds : List Value) (v6 v7 : Value) (wx : World) : Prop := ∃ p q : Nat, v6 = .pointer (some ⟨p, 0, none⟩) ∧ v7 = .pointer (some ⟨q, 0, none⟩) ∧ CB T p cs wx ∧ CB T q ds wx ∧ Below w.heap.size w wx
theorem two_12 (T : TypeId) (w : World) (cs ds : List Value) : Two T w cs ds (.pointer (some ⟨w.heap.size, 0, none⟩)) (.pointer (some ⟨w.heap.size + 1, 0, none⟩)) ((w.alloc (.cells cs.toArray T)).alloc (.cells ds.toArray T)).drew :=
  ⟨_, _, rfl, rfl, ((CB.new T cs w).below ((Below.refl _ _).alloc (Nat.le_refl _) (.cells ds.toArray T)) : CB T _ cs _), by have := CB.new T ds (w.alloc (.cells cs.toArray T)); rwa [World.size_alloc] at this, below_dN (((Below.refl _ _).alloc (Nat.le_refl _) _).alloc (by simp) _) 1⟩

theorem two_21 (T : TypeId) (w : World) (cs ds : List Value) : Two T w cs ds (.pointer (some ⟨w.heap.size + 1, 0, none⟩)) (.pointer (some ⟨w.heap.size, 0, none⟩)) ((w.alloc (.cells ds.toArray T)).alloc (.cells cs.toArray T)).drew := by
  obtain ⟨p, q, h1, h2, h3, h4, h5⟩ := two_12 T w ds cs
  exact ⟨q, p, h2, h1, h4, h3, h5⟩

set_option maxRecDepth 100000 in
set_option maxHeartbeats 8000000 in
theorem sameLine_eq (n : Nat) : ∀ (l : List Inl) (v1 v2 : Value) (w : World), Inl.szL l ≤ n → Rd (· < w.heap.size) w (inlsD l) [v1] → Rd (· < w.heap.size) w (inlsD l) [v2] →
    Calls Tryd.prog 61 #[v1, v2] w fun e w' => e = .returned (.bool true) ∧ Below w.heap.size w w' := by
  induction n using Nat.strongRecOn with
  | _ n ih =>
    intro l v1 v2 w hn h1 h2
    obtain ⟨a1, c1, hv1, hs1⟩ := Rd.sl_open h1
    obtain ⟨a2, c2, hv2, hs2⟩ := Rd.sl_open h2
    obtain rfl : v1 = .slice a1 l.length c1 := by simpa using hv1
    obtain rfl : v2 = .slice a2 l.length c2 := by simpa using hv2
    have hc1 : l.length ≤ c1 := by simpa using hs1.le
    have hc2 : l.length ≤ c2 := by simpa using hs2.le
    have hm1 := hs1.max
    have hm2 := hs2.max
    unfold maxLen at hm1 hm2
    have H1 := Lib.hid hs1
    have H2 := Lib.hid hs2
    have IH := Lib.hid ih
    have hll : ((l.length : Int) != l.length) = false := by simp
    have R0 : Hid (SmL l.length w (.int .i64 0) w) := ⟨0, Nat.zero_le _, rfl, Below.refl _ _⟩
    clear h1 h2 hv1 hv2 hs1 hs2 ih
    go_enter Tryd.func61, Tryd.ntmps61
    go_wp2
    go_loopw [5] (fun i wr => SmL l.length w i wr) (fun i _ => l.length - (intOf i).toNat)
    case atStart => exact R0.out
    case round =>
      clear R0
      obtain ⟨k, hk, rfl, hbel⟩ := hrel
      have HBEL := Lib.hid hbel
      clear hbel
      by_cases hlt : k < l.length
      · obtain ⟨x, hx⟩ : ∃ x, l[k]? = some x := ⟨_, List.getElem?_eq_getElem hlt⟩
        obtain ⟨kd, t, d, ti, at_, ar, ci, ks⟩ := x
        obtain ⟨g, off, vc, vp, va, vi, vk, rfl, hok, hbl, hc, hR⟩ := inls_at H1.out hx
        obtain ⟨g', off', vc', vp', va', vi', vk', rfl, hok', hbl', hc', hR'⟩ := inls_at H2.out hx
        have hsz := Inl.szL_get l k _ hx
        rw [Inl.sz] at hsz
        obtain ⟨aa, na, ca, rfl⟩ := Rd.slf hR.args
        obtain ⟨ai, cai, hvi, hsi⟩ := Rd.sl_open hR.cites
        obtain ⟨ac, nc, cc, rfl⟩ := Rd.slf hR.at_.cls
        obtain ⟨ap, np, cp, rfl⟩ := Rd.slf hR.at_.prs
        obtain ⟨ak, nk, ck, rfl⟩ := Rd.slf hR.kids
        obtain ⟨aa', na', ca', rfl⟩ := Rd.slf hR'.args
        obtain ⟨ai', cai', hvi', hsi'⟩ := Rd.sl_open hR'.cites
        obtain ⟨ac', nc', cc', rfl⟩ := Rd.slf hR'.at_.cls
        obtain ⟨ap', np', cp', rfl⟩ := Rd.slf hR'.at_.prs
        obtain ⟨ak', nk', ck', rfl⟩ := Rd.slf hR'.kids
        obtain rfl : vi = .slice ai ci.length cai := by simpa using hvi
        obtain rfl : vi' = .slice ai' ci.length cai' := by simpa using hvi'
        obtain ⟨p0, p1, p2, p3, p4, p5, p6, p7, p8, p9⟩ := hc.at2 (w' := wr) (HBEL.out.block g hok)
        obtain ⟨q0, q1, q2, q3, q4, q5, q6, q7, q8, q9⟩ := hc'.at2 (w' := wr) (HBEL.out.block g' hok')
        have HR := Lib.hid hR
        have HR' := Lib.hid hR'
        have HSI := Lib.hid hsi
        have HSI' := Lib.hid hsi'
        clear hc hc' hR hR' hsi hsi' hvi hvi' hx
        have hlg := cell_lt p0
        have hlg' := cell_lt q0
        go_upto_region 6 with (fail)
        go_cut [6, 7] (fun v6 v7 wx => Two 42 wr [.int .i64 kd, .string t, .string d, .string ti, .string at_.id, .slice ac nc cc, .slice ap np cp, .slice aa na ca, .slice ai ci.length cai, .slice ak nk ck] [.int .i64 kd, .string t, .string d, .string ti, .string at_.id, .slice ac' nc' cc', .slice ap' np' cp', .slice aa' na' ca', .slice ai' ci.length cai', .slice ak' nk' ck'] v6 v7 wx)
        case first =>
          go_region
          all_goals
            go_wp2_with fail
            go_meet
            first
            | exact two_12 _ _ _ _
            | exact two_21 _ _ _ _
        case rest =>
          obtain ⟨p, q, rfl, rfl, k1, k2, hb⟩ := hcut
          have hbw := below_trans_size HBEL.out hb
          have z0 := k1.cell 0 _ rfl
          have z1 := k1.cell 1 _ rfl
          have z2 := k1.cell 2 _ rfl
          have z3 := k1.cell 3 _ rfl
          have z4 := k1.cell 4 _ rfl
          have z5 := k1.cell 5 _ rfl
          have z6 := k1.cell 6 _ rfl
          have y0 := k2.cell 0 _ rfl
          have y1 := k2.cell 1 _ rfl
          have y2 := k2.cell 2 _ rfl
          have y3 := k2.cell 3 _ rfl
          have y4 := k2.cell 4 _ rfl
          have y5 := k2.cell 5 _ rfl
          have y6 := k2.cell 6 _ rfl
          have n0 : (kd != kd) = false := by simp
          have n1 : (t.toList != t.toList) = false := by simp
          have n2 : (d.toList != d.toList) = false := by simp
          have n3 : (ti.toList != ti.toList) = false := by simp
          have n4 : ((ci.length : Int) != ci.length) = false := by simp
          have A1 := Lib.hid (attrs_eq at_ _ _ _ _ wc (HR.out.at_.up hbw) (HR'.out.at_.up hbw))
          have K1 := Lib.hid k1
          have K2 := Lib.hid k2
          have HBW := Lib.hid hbw
          clear p0 p1 p2 p3 p4 p5 p6 p7 p8 p9 q0 q1 q2 q3 q4 q5 q6 q7 q8 q9 k1 k2 hb hbw hlg hlg' HBEL
          go_wp2_with fail
          refine A1.out.mono ?_
          rintro e w1 ⟨rfl, b1⟩
          have k1 := K1.out.below b1
          have k2 := K2.out.below b1
          have hbw := below_trans_size HBW.out b1
          have z7 := k1.cell 7 _ rfl
          have z8 := k1.cell 8 _ rfl
          have z9 := k1.cell 9 _ rfl
          have y7 := k2.cell 7 _ rfl
          have y8 := k2.cell 8 _ rfl
          have y9 := k2.cell 9 _ rfl
          have T1 := Lib.hid (texts_eq ar _ _ w1 (HR.out.args.up hbw) (HR'.out.args.up hbw))
          have K3 := Lib.hid k1
          have K4 := Lib.hid k2
          have HBV := Lib.hid hbw
          clear A1 K1 K2 HBW b1 k1 k2 hbw z0 z1 z2 z3 z4 z5 z6 y0 y1 y2 y3 y4 y5 y6
          go_wp2_with fail
          refine T1.out.mono ?_
          rintro e w2 ⟨rfl, qq, rfl⟩
          have hbw := below_dN HBV.out qq
          have S1 := Lib.hid (IH.out (Inl.szL ks) (by omega) ks _ _ (w1.drewN qq) (Nat.le_refl _) (HR.out.kids.up hbw) (HR'.out.kids.up hbw))
          clear T1 hbw
          go_wp2_with fail
          refine S1.out.mono ?_
          rintro e w3 ⟨rfl, b3⟩
          have hb3 := below_trans_size (below_dN HBV.out qq) b3
          have k1 : CB 42 p _ w3 := K3.out.below (below_trans_size (below_dN (Below.refl _ _) qq) b3)
          have k2 : CB 42 q _ w3 := K4.out.below (below_trans_size (below_dN (Below.refl _ _) qq) b3)
          have z8 := k1.cell 8 _ rfl
          have y8 := k2.cell 8 _ rfl
          have hci : ci.length ≤ cai := by simpa using HSI.out.le
          have hci' : ci.length ≤ cai' := by simpa using HSI'.out.le
          have hcm := HSI.out.max
          have hcm' := HSI'.out.max
          unfold maxLen at hcm hcm'
          have CI : Hid (∀ j y, ci[j]? = some y → ∃ b off b' off', ai = some ⟨b, off, none⟩ ∧ ai' = some ⟨b', off', none⟩ ∧ w3.cell? ⟨b, off + j * 4, none⟩ = some (.string y.key) ∧ w3.cell? ⟨b, off + j * 4 + 1, none⟩ = some (.string y.pre) ∧ w3.cell? ⟨b, off + j * 4 + 2, none⟩ = some (.string y.suf) ∧ w3.cell? ⟨b, off + j * 4 + 3, none⟩ = some (.bool y.bare) ∧ w3.cell? ⟨b', off' + j * 4, none⟩ = some (.string y.key) ∧ w3.cell? ⟨b', off' + j * 4 + 1, none⟩ = some (.string y.pre) ∧ w3.cell? ⟨b', off' + j * 4 + 2, none⟩ = some (.string y.suf) ∧ w3.cell? ⟨b', off' + j * 4 + 3, none⟩ = some (.bool y.bare)) := by
            intro j y hy
            obtain ⟨b, off, i1, i2, i3, j0, j1, j2, j3⟩ := cis_at HSI.out hy
            obtain ⟨b', off', i1', i2', i3', j0', j1', j2', j3'⟩ := cis_at HSI'.out hy
            have hs := cell_same (hb3.block b i2)
            have hs' := cell_same (hb3.block b' i2')
            exact ⟨b, off, b', off', i1, i1', (hs _).trans j0, (hs _).trans j1, (hs _).trans j2, (hs _).trans j3, (hs' _).trans j0', (hs' _).trans j1', (hs' _).trans j2', (hs' _).trans j3'⟩
          have HB3 := Lib.hid hb3
          clear S1 K3 K4 HBV b3 hb3 k1 k2 HSI HSI' HR HR'
          go_wp2
          go_loopw [8] (fun i wz => DrRel ci.length w3 i wz) (fun i _ => ci.length - (intOf i).toNat)
          case atStart => exact ⟨0, 0, Nat.zero_le _, rfl, rfl⟩
          case round =>
            obtain ⟨j, q2, hj, rfl, rfl⟩ := hrel
            by_cases hjl : j < ci.length
            · obtain ⟨y, hy⟩ : ∃ y, ci[j]? = some y := ⟨_, List.getElem?_eq_getElem hjl⟩
              obtain ⟨b, o1, b', o2, rfl, rfl, j0, j1, j2, j3, j0', j1', j2', j3'⟩ := CI.out j y hy
              obtain ⟨yk, yp, ys, yb⟩ := y
              dsimp only at j0 j1 j2 j3 j0' j1' j2' j3'
              have m1 : (yk.toList != yk.toList) = false := by simp
              have m2 : (yp.toList != yp.toList) = false := by simp
              have m3 : (ys.toList != ys.toList) = false := by simp
              have m4 : (yb != yb) = false := by simp
              clear CI hy
              go_wp2_with fail
              go_quiet (fail)
              go_wp2
              go_roundw
              case rel => exact ⟨j + 1, _, by omega, by go_num, rfl⟩
              case measure => simp [intOf]; omega
            · clear CI
              go_wp2
              go_roundw
              case rel => exact ⟨k + 1, by omega, by go_num, below_dN HB3.out q2⟩
              case measure => simp [intOf]; omega
      · clear IH H1 H2
        go_wp2
        go_ret
        exact ⟨rfl, HBEL.out⟩
end Go.Proofs.YtjolhiofllpejaaDoor

namespace Go.Proofs.YtjolhiofllpejaaDoor
open Go.RowKit
set_option linter.unusedVariables false

theorem BlCells.at3 {w w' : World} {b o : Nat} {k lv : Int} {i t d ti id : ByteArray} {vc vp vl vk : Value} (h : BlCells w b o k lv i t d ti id vc vp vl vk) (hb : w'.heap[b]? = w.heap[b]?) : BlCells w' b o k lv i t d ti id vc vp vl vk := by
  obtain ⟨c0, c1, c2, c3, c4, c5, c6, c7, c8, c9, c10⟩ := h
  exact ⟨(cell_same hb _).trans c0, (cell_same hb _).trans c1, (cell_same hb _).trans c2, (cell_same hb _).trans c3, (cell_same hb _).trans c4, (cell_same hb _).trans c5, (cell_same hb _).trans c6, (cell_same hb _).trans c7, (cell_same hb _).trans c8, (cell_same hb _).trans c9, (cell_same hb _).trans c10⟩
set_option maxRecDepth 100000 in
set_option maxHeartbeats 8000000 in
theorem sameBlocks_eq (n : Nat) : ∀ (l : List Blk) (v1 v2 : Value) (w : World), Blk.szL l ≤ n → Rd (· < w.heap.size) w (blksD l) [v1] → Rd (· < w.heap.size) w (blksD l) [v2] →
    Calls Tryd.prog 35 #[v1, v2] w fun e w' => e = .returned (.bool true) ∧ Below w.heap.size w w' := by
  induction n using Nat.strongRecOn with
  | _ n ih =>
    intro l v1 v2 w hn h1 h2
    obtain ⟨a1, c1, hv1, hs1⟩ := Rd.sl_open h1
    obtain ⟨a2, c2, hv2, hs2⟩ := Rd.sl_open h2
    obtain rfl : v1 = .slice a1 l.length c1 := by simpa using hv1
    obtain rfl : v2 = .slice a2 l.length c2 := by simpa using hv2
    have hc1 : l.length ≤ c1 := by simpa using hs1.le
    have hc2 : l.length ≤ c2 := by simpa using hs2.le
    have hm1 := hs1.max
    have hm2 := hs2.max
    unfold maxLen at hm1 hm2
    have H1 := Lib.hid hs1
    have H2 := Lib.hid hs2
    have IH := Lib.hid ih
    have hll : ((l.length : Int) != l.length) = false := by simp
    have R0 : Hid (SmL l.length w (.int .i64 0) w) := ⟨0, Nat.zero_le _, rfl, Below.refl _ _⟩
    clear h1 h2 hv1 hv2 hs1 hs2 ih
    go_enter Tryd.func35, Tryd.ntmps35
    go_wp2
    go_loopw [5] (fun i wr => SmL l.length w i wr) (fun i _ => l.length - (intOf i).toNat)
    case atStart => exact R0.out
    case round =>
      clear R0
      obtain ⟨k, hk, rfl, hbel⟩ := hrel
      have HBEL := Lib.hid hbel
      clear hbel
      by_cases hlt : k < l.length
      · obtain ⟨x, hx⟩ : ∃ x, l[k]? = some x := ⟨_, List.getElem?_eq_getElem hlt⟩
        obtain ⟨kd, lv, inf, t, d, ti, at_, li, ks⟩ := x
        obtain ⟨g, off, vc, vp, vl, vk, rfl, hok, hbl, hc, hR⟩ := blks_at H1.out hx
        obtain ⟨g', off', vc', vp', vl', vk', rfl, hok', hbl', hc', hR'⟩ := blks_at H2.out hx
        have hsz := Blk.szL_get l k _ hx
        rw [Blk.sz] at hsz
        obtain ⟨ac, nc, cc, rfl⟩ := Rd.slf hR.at_.cls
        obtain ⟨ap, np, cp, rfl⟩ := Rd.slf hR.at_.prs
        obtain ⟨al, nl, cl, rfl⟩ := Rd.slf hR.line
        obtain ⟨ak, nk, ck, rfl⟩ := Rd.slf hR.kids
        obtain ⟨ac', nc', cc', rfl⟩ := Rd.slf hR'.at_.cls
        obtain ⟨ap', np', cp', rfl⟩ := Rd.slf hR'.at_.prs
        obtain ⟨al', nl', cl', rfl⟩ := Rd.slf hR'.line
        obtain ⟨ak', nk', ck', rfl⟩ := Rd.slf hR'.kids
        obtain ⟨p0, p1, p2, p3, p4, p5, p6, p7, p8, p9, p10⟩ := hc.at3 (w' := wr) (HBEL.out.block g hok)
        obtain ⟨q0, q1, q2, q3, q4, q5, q6, q7, q8, q9, q10⟩ := hc'.at3 (w' := wr) (HBEL.out.block g' hok')
        have HR := Lib.hid hR
        have HR' := Lib.hid hR'
        have hlg := cell_lt p0
        have hlg' := cell_lt q0
        clear hc hc' hR hR' hx
        go_upto_region 6 with (fail)
        go_cut [6, 7] (fun v6 v7 wx => Two 44 wr [.int .i64 kd, .int .i64 lv, .string inf, .string t, .string d, .string ti, .string at_.id, .slice ac nc cc, .slice ap np cp, .slice al nl cl, .slice ak nk ck] [.int .i64 kd, .int .i64 lv, .string inf, .string t, .string d, .string ti, .string at_.id, .slice ac' nc' cc', .slice ap' np' cp', .slice al' nl' cl', .slice ak' nk' ck'] v6 v7 wx)
        case first =>
          go_region
          all_goals
            go_wp2_with fail
            go_meet
            first
            | exact two_12 _ _ _ _
            | exact two_21 _ _ _ _
        case rest =>
          obtain ⟨p, q, rfl, rfl, k1, k2, hb⟩ := hcut
          have hbw := below_trans_size HBEL.out hb
          have z0 := k1.cell 0 _ rfl
          have z1 := k1.cell 1 _ rfl
          have z2 := k1.cell 2 _ rfl
          have z3 := k1.cell 3 _ rfl
          have z4 := k1.cell 4 _ rfl
          have z5 := k1.cell 5 _ rfl
          have z6 := k1.cell 6 _ rfl
          have z7 := k1.cell 7 _ rfl
          have z8 := k1.cell 8 _ rfl
          have y0 := k2.cell 0 _ rfl
          have y1 := k2.cell 1 _ rfl
          have y2 := k2.cell 2 _ rfl
          have y3 := k2.cell 3 _ rfl
          have y4 := k2.cell 4 _ rfl
          have y5 := k2.cell 5 _ rfl
          have y6 := k2.cell 6 _ rfl
          have y7 := k2.cell 7 _ rfl
          have y8 := k2.cell 8 _ rfl
          have n0 : (kd != kd) = false := by simp
          have n1 : (t.toList != t.toList) = false := by simp
          have n2 : (d.toList != d.toList) = false := by simp
          have n3 : (ti.toList != ti.toList) = false := by simp
          have n4 : (lv != lv) = false := by simp
          have n5 : (inf.toList != inf.toList) = false := by simp
          have A1 := Lib.hid (attrs_eq at_ _ _ _ _ wc (HR.out.at_.up hbw) (HR'.out.at_.up hbw))
          have K1 := Lib.hid k1
          have K2 := Lib.hid k2
          have HBW := Lib.hid hbw
          clear p0 p1 p2 p3 p4 p5 p6 p7 p8 p9 p10 q0 q1 q2 q3 q4 q5 q6 q7 q8 q9 q10 k1 k2 hb hbw hlg hlg' HBEL
          go_wp2_with fail
          refine A1.out.mono ?_
          rintro e w1 ⟨rfl, b1⟩
          have k1 := K1.out.below b1
          have k2 := K2.out.below b1
          have hbw := below_trans_size HBW.out b1
          have z9 := k1.cell 9 _ rfl
          have y9 := k2.cell 9 _ rfl
          have T1 := Lib.hid (sameLine_eq (Inl.szL li) li _ _ w1 (Nat.le_refl _) (HR.out.line.up hbw) (HR'.out.line.up hbw))
          have K3 := Lib.hid k1
          have K4 := Lib.hid k2
          have HBV := Lib.hid hbw
          clear A1 K1 K2 HBW b1 k1 k2 hbw z0 z1 z2 z3 z4 z5 z6 z7 z8 y0 y1 y2 y3 y4 y5 y6 y7 y8
          go_wp2_with fail
          refine T1.out.mono ?_
          rintro e w2 ⟨rfl, b2⟩
          have k1 := K3.out.below b2
          have k2 := K4.out.below b2
          have z10 := k1.cell 10 _ rfl
          have y10 := k2.cell 10 _ rfl
          have hbw := below_trans_size HBV.out b2
          have S1 := Lib.hid (IH.out (Blk.szL ks) (by omega) ks _ _ w2 (Nat.le_refl _) (HR.out.kids.up hbw) (HR'.out.kids.up hbw))
          have HBU := Lib.hid hbw
          clear T1 hbw b2 K3 K4 k1 k2 HBV HR HR'
          go_wp2_with fail
          refine S1.out.mono ?_
          rintro e w3 ⟨rfl, b3⟩
          have HB3 := Lib.hid (below_trans_size HBU.out b3)
          clear S1 HBU b3
          go_wp2
          go_roundw
          case rel => exact ⟨k + 1, by omega, by go_num, HB3.out⟩
          case measure => simp [intOf]; omega
      · clear IH H1 H2
        go_wp2
        go_ret
        exact ⟨rfl, HBEL.out⟩

set_option maxRecDepth 100000 in
set_option maxHeartbeats 1000000 in
theorem same_eq (me : List Pr) (l : List Blk) (vm vb um ub : Value) (w : World) (h1 : Rd (· < w.heap.size) w (prsD me) [vm]) (h2 : Rd (· < w.heap.size) w (prsD me) [um]) (h3 : Rd (· < w.heap.size) w (blksD l) [vb]) (h4 : Rd (· < w.heap.size) w (blksD l) [ub]) :
    Calls Tryd.prog 15 #[.agg #[vm, vb], .agg #[um, ub]] w fun e w' => e = .returned (.bool true) ∧ Below w.heap.size w w' := by
  obtain ⟨am, nm, cm, rfl⟩ := Rd.slf h1
  obtain ⟨bm, mm, dm, rfl⟩ := Rd.slf h2
  obtain ⟨ab, nb, cb, rfl⟩ := Rd.slf h3
  obtain ⟨bb, mb, db, rfl⟩ := Rd.slf h4
  obtain ⟨w0, hw0⟩ : ∃ w0, w0 = (w.alloc (.cells #[.slice am nm cm, .slice ab nb cb] 32)).alloc (.cells #[.slice bm mm dm, .slice bb mb db] 32) := ⟨_, rfl⟩
  have hb0 : Below w.heap.size w w0 := by rw [hw0]; exact ((Below.refl _ _).alloc (Nat.le_refl _) _).alloc (by simp) _
  have k1 : CB 32 w.heap.size [.slice am nm cm, .slice ab nb cb] w0 := by
    rw [hw0]; exact (CB.new _ _ _).below ((Below.refl _ _).alloc (Nat.le_refl _) _)
  have k2 : CB 32 (w.heap.size + 1) [.slice bm mm dm, .slice bb mb db] w0 := by
    rw [hw0]
    have := CB.new 32 [.slice bm mm dm, .slice bb mb db] (w.alloc (.cells #[.slice am nm cm, .slice ab nb cb] 32))
    rwa [World.size_alloc] at this
  have T1 := Lib.hid (pairs_eq me _ _ w0 (h1.up hb0) (h2.up hb0))
  have T2 := Lib.hid (fun q => sameBlocks_eq (Blk.szL l) l _ _ (w0.drewN q) (Nat.le_refl _) ((h3.up hb0).up (below_dN (Below.refl _ _) q)) ((h4.up hb0).up (below_dN (Below.refl _ _) q)))
  have x0 := k1.cell 0 _ rfl
  have x1 := k1.cell 1 _ rfl
  have y0 := k2.cell 0 _ rfl
  have y1 := k2.cell 1 _ rfl
  have HB0 := Lib.hid hb0
  clear h1 h2 h3 h4 k1 k2 hb0
  go_enter Tryd.func15, Tryd.ntmps15
  go_upto_region 1 with (fail)
  rw [← hw0]
  clear hw0
  go_wp2_with fail
  refine T1.out.mono ?_
  rintro e w1 ⟨rfl, q, rfl⟩
  go_wp2_with fail
  refine (T2.out q).mono ?_
  rintro e w1 ⟨rfl, b2⟩
  go_wp2
  go_ret
  exact ⟨rfl, below_trans_size (below_dN HB0.out q) b2⟩
end Go.Proofs.YtjolhiofllpejaaDoor
