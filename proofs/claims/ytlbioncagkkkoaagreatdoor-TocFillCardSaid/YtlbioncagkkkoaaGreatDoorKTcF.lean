/- Contract of toc.copyLine. Contract of toc.full. -/
import Derived.Test.YtlbioncagkkkoaaGreatDoorKTcA
import Derived.Test.YtlbioncagkkkoaaGreatDoorKRowU
import Derived.Test.YtlbioncagkkkoaaGreatDoorKSizeD
import Derived.Test.YtlbioncagkkkoaaGreatDoorKMerge
namespace Go.Proofs.YtlbioncagkkkoaaGreatDoor
open Go.RowKit
set_option linter.unusedVariables false
set_option linter.unusedSimpArgs false

theorem PB.all {p : Nat} {w : World} {c0 c1 c2 c3 c4 c5 c6 c7 c8 c9 : Value} (h : PB p [c0, c1, c2, c3, c4, c5, c6, c7, c8, c9] w) :
    w.cell? ⟨p, 0, none⟩ = some c0 ∧ w.cell? ⟨p, 1, none⟩ = some c1 ∧ w.cell? ⟨p, 2, none⟩ = some c2 ∧ w.cell? ⟨p, 3, none⟩ = some c3 ∧ w.cell? ⟨p, 4, none⟩ = some c4 ∧ w.cell? ⟨p, 5, none⟩ = some c5 ∧
      w.cell? ⟨p, 6, none⟩ = some c6 ∧ w.cell? ⟨p, 7, none⟩ = some c7 ∧ w.cell? ⟨p, 8, none⟩ = some c8 ∧ w.cell? ⟨p, 9, none⟩ = some c9 ∧ ∀ j, w.frozen? ⟨p, j, none⟩ = false :=
  ⟨h.cell 0 _ rfl, h.cell 1 _ rfl, h.cell 2 _ rfl, h.cell 3 _ rfl, h.cell 4 _ rfl, h.cell 5 _ rfl, h.cell 6 _ rfl, h.cell 7 _ rfl, h.cell 8 _ rfl, h.cell 9 _ rfl, h.free⟩
theorem RowU.ten {T : TypeId} {k U : Nat} {ok : Nat → Prop} {w0 w : World} {ds : List D} {rows : List (List Value)} {v : Value} (h : RowU T k ok U w0 ds rows v w) {p o : Nat} (hp : U ≤ p) (c0 c1 c2 c3 c4 c5 c6 c7 c8 c9 : Value) : RowU T k ok U w0 ds rows v (ten w p o c0 c1 c2 c3 c4 c5 c6 c7 c8 c9) :=
  (((((((((h.set hp _ c0).set hp _ c1).set hp _ c2).set hp _ c3).set hp _ c4).set hp _ c5).set hp _ c6).set hp _ c7).set hp _ c8).set hp _ c9
theorem PB.ten {p : Nat} {w : World} {cs : List Value} (h : PB p cs w) (hl : cs.length = 10) (c0 c1 c2 c3 c4 c5 c6 c7 c8 c9 : Value) : PB p [c0, c1, c2, c3, c4, c5, c6, c7, c8, c9] (ten w p 0 c0 c1 c2 c3 c4 c5 c6 c7 c8 c9) := by
  match cs, hl with
  | [_, _, _, _, _, _, _, _, _, _], _ => exact (((((((((h.set 0 c0).set 1 c1).set 2 c2).set 3 c3).set 4 c4).set 5 c5).set 6 c6).set 7 c7).set 8 c8).set 9 c9
theorem Rd.ten {m p o : Nat} {w : World} {d : D} {cs : List Value} (h : Rd (m < ·) w d cs) (hp : p ≤ m) (c0 c1 c2 c3 c4 c5 c6 c7 c8 c9 : Value) : Rd (m < ·) (ten w p o c0 c1 c2 c3 c4 c5 c6 c7 c8 c9) d cs :=
  Rd.keep (fun b (hb : m < b) _ => ⟨hb, ten_heap _ _ _ _ _ _ _ _ _ _ _ _ _ b (by omega)⟩) _ _ h
theorem one_ten {k : Int} {t d ti id : ByteArray} {a1 a2 a3 a4 a5 : Option Addr} {n1 n2 n3 n4 n5 c1 c2 c3 c4 c5 : Nat} : ∀ u ∈ [Value.int .i64 k, .string t, .string d, .string ti, .string id, .slice a1 n1 c1, .slice a2 n2 c2, .slice a3 n3 c3, .slice a4 n4 c4, .slice a5 n5 c5], u.oneCell' = true := by
  intro u hu
  simp at hu
  rcases hu with rfl | rfl | rfl | rfl | rfl | rfl | rfl | rfl | rfl | rfl <;> rfl
theorem map_take_snoc {α β : Type} (f : α → β) (l : List α) (k : Nat) (x : α) (h : l[k]? = some x) : (l.take (k + 1)).map f = (l.take k).map f ++ [f x] := by
  rw [List.take_add_one, h]; simp
/-- At the head of the loop of a function that makes a line out of a line. -/
def TlRel (w wr : World) (l : List Inl) (v vi : Value) : Prop :=
  ∃ (k : Nat) (rows : List (List Value)), k ≤ l.length ∧ vi = .int .i64 k ∧ RowU 47 10 (fun _ => False) wr.heap.size w ((l.take k).map Inl.d) rows v wr

set_option maxRecDepth 100000 in
set_option maxHeartbeats 8000000 in
theorem tocLine_any (n : Nat) : ∀ (l : List Inl) (B : Nat) (v : Value) (w : World), Inl.szL l ≤ n → n ≤ 1000000 → Rd (· < B) w (inlsD l) [v] → B ≤ w.heap.size → Inl.bdL l →
    Calls Tryz.prog 70 #[v] w (LcPost w l) := by
  induction n using Nat.strongRecOn with
  | _ n ih =>
    intro l B v w hn hnm hrd hB hbd
    obtain ⟨iI, hiI, hzI0, hzI1, hzI2⟩ := info_parts infoIn
    obtain ⟨a, cap, hv, hs⟩ := Rd.sl_open hrd
    obtain rfl : v = .slice a l.length cap := by simpa using hv
    have hcap : l.length ≤ cap := by simpa using hs.le
    have hll := Inl.len_le l
    have hmx := hs.max
    have HS := Lib.hid hs
    have IH := Lib.hid ih
    have HBD := Lib.hid hbd
    have R0 := Lib.hid (show TlRel w w l (.slice none 0 0) (.int .i64 0) from ⟨0, [], Nat.zero_le _, rfl, RowU.nil _ _ _ _⟩)
    clear hs hv hrd ih hbd
    unfold maxLen at hmx
    go_enter Tryz.func70, Tryz.ntmps70
    go_wp2
    go_loopw [3, 8] (fun v vi wr => TlRel w wr l v vi) (fun _ i _ => l.length - (intOf i).toNat)
    case atStart => exact R0.out
    case round =>
      clear R0
      obtain ⟨k, rows, hk, rfl, hrow⟩ := hrel
      obtain ⟨ds, hds⟩ : ∃ ds, ds = (l.take k).map Inl.d := ⟨_, rfl⟩
      rw [← hds] at hrow
      have hdn : ds.length = k := by rw [hds]; simp; omega
      have HDS := Lib.hid hds
      have HDN := Lib.hid hdn
      obtain ⟨av, cv, rfl, -, -⟩ := hrow.cap hdn
      have HROW := Lib.hid hrow
      have hbel := hrow.bel
      clear hrow hdn hds
      by_cases hlt : k < l.length
      · obtain ⟨x, hx⟩ : ∃ x, l[k]? = some x := ⟨_, List.getElem?_eq_getElem hlt⟩
        obtain ⟨kd, t, d, ti, at_, ar, ci, ks⟩ := x
        obtain ⟨g, off, vc, vp, va, vi, vk, rfl, hok, hbl, hc, hR⟩ := inls_at HS.out hx
        obtain ⟨c0, c1, c2, c3, c4, c5, c6, c7, c8, c9⟩ := hc.below hbel
        clear hc
        have hb1 := Inl.bdL_get l k _ HBD.out hx
        rw [Inl.bd] at hb1
        obtain ⟨hn1, hn2, hn3, hn4, hn5⟩ := hb1
        have hsz := Inl.szL_get l k _ hx
        rw [Inl.sz] at hsz
        obtain ⟨ac, nc, cc, rfl⟩ := Rd.sl_form hR.at_.cls
        obtain ⟨ap, np, cp, rfl⟩ := Rd.sl_form hR.at_.prs
        obtain ⟨aa, na, ca, rfl⟩ := Rd.sl_form hR.args
        obtain ⟨ai, ni, ci', rfl⟩ := Rd.sl_form hR.cites
        obtain ⟨ak, nk, ck, rfl⟩ := Rd.sl_form hR.kids
        have HR := Lib.hid hR
        have HX := Lib.hid (map_take_snoc Inl.d l k _ hx)
        rw [← HDS.out] at HX
        have HBEL := Lib.hid hbel
        clear hR hx
        go_upto_region 5 with (fail)
        obtain ⟨p, hp⟩ : ∃ p, p = wr.heap.size := ⟨_, rfl⟩
        obtain ⟨wA, hwA⟩ : ∃ wA, wA = wr.alloc (.cells #[.int .i64 kd, .string t, .string d, .string ti, .string at_.id, .slice ac nc cc, .slice ap np cp, .slice aa na ca, .slice ai ni ci', .slice ak nk ck] 47) := ⟨_, rfl⟩
        have PA : PB p [.int .i64 kd, .string t, .string d, .string ti, .string at_.id, .slice ac nc cc, .slice ap np cp, .slice aa na ca, .slice ai ni ci', .slice ak nk ck] wA := by rw [hwA, hp]; exact heap_alloc_new wr _
        have UA : RowU 47 10 (fun _ => False) p w ds rows (.slice av k cv) wA := by rw [hwA, hp]; exact HROW.out.alloc _
        have zA : wA.heap.size = p + 1 := by rw [hwA, hp]; simp
        rw [← hwA, ← hp]
        have hpw : w.heap.size ≤ p := by rw [hp]; exact hbel.size
        clear hwA hp HROW HBEL hbel c0 c1 c2 c3 c4 c5 c6 c7 c8 c9 hbl
        have UA' := Lib.hid UA
        have ZA := Lib.hid zA
        have hBA := UA.bel.mono hB
        have OA := Lib.hid (tocOne_any kd t d ti at_ ar ci (.slice ac nc cc) (.slice ap np cp) (.slice aa na ca) (.slice ai ni ci') ak nk ck B wA (HR.out.at_.below hBA) (HR.out.args.below hBA) (HR.out.cites.below hBA) (by omega) hn1 hn2 hn3 hn4)
        obtain ⟨e0, e1, e2, e3, e4, e5, e6, e7, e8, e9, ef⟩ := PA.all
        have HPA := Lib.hid PA
        clear UA zA hBA PA
        go_wp2_with fail
        refine OA.out.mono ?_
        rintro e w1 ⟨vc', vp', va', vi', rfl, hA1, hA2, hA3, b1⟩
        obtain ⟨ac1, nc1, cc1, rfl⟩ := Rd.sl_form hA1.cls
        obtain ⟨ap1, np1, cp1, rfl⟩ := Rd.sl_form hA1.prs
        obtain ⟨aa1, na1, ca1, rfl⟩ := Rd.sl_form hA2
        obtain ⟨ai1, ni1, ci1, rfl⟩ := Rd.sl_form hA3
        have PA1 := HPA.out.grown (grown_below b1)
        have U1 := Lib.hid (UA'.out.below b1)
        have hz := ZA.out
        have T1 := Lib.hid (hA1.weaken (ok' := (p < ·)) (fun b hb => by omega))
        have T2 := Lib.hid (hA2.weaken (ok' := (p < ·)) (fun b hb => by omega))
        have T3 := Lib.hid (hA3.weaken (ok' := (p < ·)) (fun b hb => by omega))
        have HPA1 := Lib.hid PA1
        clear e0 e1 e2 e3 e4 e5 e6 e7 e8 e9 ef
        obtain ⟨e0, e1, e2, e3, e4, e5, e6, e7, e8, e9, ef⟩ := PA1.all
        clear hA1 hA2 hA3 b1 PA1 HPA UA' OA hz ZA
        go_upto_region 6 with (fail)
        obtain ⟨w2, hw2⟩ : ∃ w2, w2 = ten w1 p 0 (.int .i64 kd) (.string t) (.string d) (.string ti) (.string at_.id) (.slice ac1 nc1 cc1) (.slice ap1 np1 cp1) (.slice aa1 na1 ca1) (.slice ai1 ni1 ci1) (.slice ak nk ck) := ⟨_, rfl⟩
        have U2 : RowU 47 10 (fun _ => False) p w ds rows (.slice av k cv) w2 := by rw [hw2]; exact U1.out.ten (Nat.le_refl _) _ _ _ _ _ _ _ _ _ _
        have P2 : PB p [.int .i64 kd, .string t, .string d, .string ti, .string at_.id, .slice ac1 nc1 cc1, .slice ap1 np1 cp1, .slice aa1 na1 ca1, .slice ai1 ni1 ci1, .slice ak nk ck] w2 := by rw [hw2]; exact HPA1.out.ten rfl _ _ _ _ _ _ _ _ _ _
        have D1 : AtR (p < ·) w2 at_ (.slice ac1 nc1 cc1) (.slice ap1 np1 cp1) := by rw [hw2]; exact ⟨T1.out.cls.ten (Nat.le_refl _) _ _ _ _ _ _ _ _ _ _, T1.out.prs.ten (Nat.le_refl _) _ _ _ _ _ _ _ _ _ _⟩
        have D2 : Rd (p < ·) w2 (strsD ar) [.slice aa1 na1 ca1] := by rw [hw2]; exact T2.out.ten (Nat.le_refl _) _ _ _ _ _ _ _ _ _ _
        have D3 : Rd (p < ·) w2 (cisD ci) [.slice ai1 ni1 ci1] := by rw [hw2]; exact T3.out.ten (Nat.le_refl _) _ _ _ _ _ _ _ _ _ _
        simp only [ten, Nat.zero_add] at hw2
        rw [← hw2]
        clear hw2 e0 e1 e2 e3 e4 e5 e6 e7 e8 e9 ef T1 T2 T3 U1 HPA1
        have e9 := P2.cell 9 _ rfl
        have IK := Lib.hid (IH.out (Inl.szL ks) (by omega) ks B (.slice ak nk ck) w2 (Nat.le_refl _) (by omega) (HR.out.kids.below (U2.bel.mono hB)) (Nat.le_trans hB U2.bel.size) hn5)
        have HU2 := Lib.hid U2
        have HP2 := Lib.hid P2
        have HD1 := Lib.hid D1
        have HD2 := Lib.hid D2
        have HD3 := Lib.hid D3
        have hz2 := P2.lt
        clear U2 P2 D1 D2 D3
        go_wp2_with fail
        refine IK.out.mono ?_
        rintro e w3 ⟨vk1, rfl, hk1, b3⟩
        obtain ⟨ak1, nk1, ck1, rfl⟩ := Rd.sl_form hk1
        have P3 := HP2.out.grown (grown_below b3)
        have HU3 := Lib.hid (HU2.out.below b3)
        have HIN := Lib.hid (show InR (p < ·) w3 at_ ar ci ks (.slice ac1 nc1 cc1) (.slice ap1 np1 cp1) (.slice aa1 na1 ca1) (.slice ai1 ni1 ci1) (.slice ak1 nk1 ck1) from ⟨HD1.out.keepG (grown_below b3), HD2.out.keepG (grown_below b3), HD3.out.keepG (grown_below b3), hk1.weaken (fun b hb => by omega)⟩)
        have e9 := P3.cell 9 _ rfl
        have f9 := P3.free 9
        have HP3 := Lib.hid P3
        clear P3 hk1 b3 IK HD1 HD2 HD3 HU2 HP2 hz2
        go_upto_region 7 with (fail)
        obtain ⟨w4, hw4⟩ : ∃ w4, w4 = w3.setCell ⟨p, 9, none⟩ (.slice ak1 nk1 ck1) := ⟨_, rfl⟩
        have HU4 : Hid (RowU 47 10 (fun _ => False) p w ds rows (.slice av k cv) w4) := by
          show RowU _ _ _ _ _ _ _ _ _
          rw [hw4]; exact HU3.out.set (Nat.le_refl _) 9 _
        have P4 : PB p [.int .i64 kd, .string t, .string d, .string ti, .string at_.id, .slice ac1 nc1 cc1, .slice ap1 np1 cp1, .slice aa1 na1 ca1, .slice ai1 ni1 ci1, .slice ak1 nk1 ck1] w4 := by rw [hw4]; exact HP3.out.set 9 _
        have HI4 : Hid (InR (p < ·) w4 at_ ar ci ks (.slice ac1 nc1 cc1) (.slice ap1 np1 cp1) (.slice aa1 na1 ca1) (.slice ai1 ni1 ci1) (.slice ak1 nk1 ck1)) := by
          show InR _ _ _ _ _ _ _ _ _ _ _
          rw [hw4]; exact ⟨HIN.out.at_.far (Nat.le_refl _) 9 _, HIN.out.args.far (Nat.le_refl _) 9 _, HIN.out.cites.far (Nat.le_refl _) 9 _, HIN.out.kids.far (Nat.le_refl _) 9 _⟩
        rw [← hw4]
        obtain ⟨e0, e1, e2, e3, e4, e5, e6, e7, e8, e9, ef⟩ := P4.all
        clear hw4 P4 HU3 HP3 HIN f9
        have hdl : k ≤ 10000000 := by omega
        go_wp2_with (at_builtin; refine wpList_put rfl _ _ 38 rfl iI _ 192 Tryz.underlying38 hiI hzI0 hzI1 hzI2 rfl (by decide) HU4.out (fun _ => False.elim) (Inl.mk kd t d ti at_ ar ci ks).d [.int .i64 kd, .string t, .string d, .string ti, .string at_.id, .slice ac1 nc1 cc1, .slice ap1 np1 cp1, .slice aa1 na1 ca1, .slice ai1 ni1 ci1, .slice ak1 nk1 ck1] ((Inl.mk_ kd t d ti HI4.out).weaken (fun b hb => .inr (Nat.le_of_lt hb))) rfl one_ten HDN.out hdl (by decide) rfl rfl ?_)
        intro a' c' w5 hrow hg5
        have HROW := Lib.hid hrow
        rw [← HX.out] at HROW
        clear hrow hg5
        go_wp2
        go_roundw
        case rel => exact ⟨k + 1, _, by omega, by go_num, HROW.out⟩
        case measure => simp [intOf]; omega
      · have hkl : k = l.length := by omega
        subst hkl
        rw [HDS.out, List.take_length] at HROW
        go_wp2
        go_ret
        exact ⟨_, rfl, HROW.out.rd0, hbel⟩
end Go.Proofs.YtlbioncagkkkoaaGreatDoor

namespace Go.Proofs.YtlbioncagkkkoaaGreatDoor
open Go.RowKit
set_option linter.unusedVariables false
set_option linter.unusedSimpArgs false

theorem fullL_snoc (l : List Inl) (k : Nat) (x : Inl) (h : l[k]? = some x) : fullL (l.take (k + 1)) = fullL (l.take k) ++ if fullB x = true then [x] else [] := by
  unfold fullL
  rw [List.take_add_one, h, List.filter_append]
  simp [List.filter_cons]
theorem fullL_len (l : List Inl) : (fullL l).length ≤ l.length := List.length_filter_le _ _
/-- At the head of the loop: what is collected is a part of the argument's elements. -/
def FuRel (f : List Inl → List Inl) (ok : Nat → Prop) (w wr : World) (l : List Inl) (v vi : Value) : Prop :=
  ∃ (k : Nat) (rows : List (List Value)), k ≤ l.length ∧ vi = .int .i64 k ∧ RowU 47 10 ok wr.heap.size w ((f (l.take k)).map Inl.d) rows v wr
def FuPost (ok : Nat → Prop) (w : World) (l : List Inl) (e : Ending) (w' : World) : Prop := ∃ v, e = .returned v ∧ Rd (fun b => ok b ∨ w.heap.size ≤ b) w' (inlsD l) [v] ∧ Below w.heap.size w w'

set_option maxRecDepth 100000 in
set_option maxHeartbeats 8000000 in
theorem full_any0 (l : List Inl) (ok : Nat → Prop) (v : Value) (w : World) (hn : l.length ≤ 1000000) (hrd : Rd ok w (inlsD l) [v]) (hB : ∀ b, ok b → b < w.heap.size) :
    Calls Tryz.prog 64 #[v] w (FuPost ok w (fullL l)) := by
    obtain ⟨iI, hiI, hzI0, hzI1, hzI2⟩ := info_parts infoIn
    obtain ⟨a, cap, hv, hs⟩ := Rd.sl_open hrd
    obtain rfl : v = .slice a l.length cap := by simpa using hv
    have hcap : l.length ≤ cap := by simpa using hs.le
    have hmx := hs.max
    have HS := Lib.hid hs
    have HB := Lib.hid hB
    have R0 := Lib.hid (show FuRel fullL ok w w l (.slice none 0 0) (.int .i64 0) from ⟨0, [], Nat.zero_le _, rfl, RowU.nil _ _ _ _⟩)
    clear hs hv hrd hB
    unfold maxLen at hmx
    go_enter Tryz.func64, Tryz.ntmps64
    go_wp2
    go_loopw [3, 8] (fun v vi wr => FuRel fullL ok w wr l v vi) (fun _ i _ => l.length - (intOf i).toNat)
    case atStart => exact R0.out
    case round =>
      clear R0
      obtain ⟨k, rows, hk, rfl, hrow⟩ := hrel
      obtain ⟨ds, hds⟩ : ∃ ds, ds = (fullL (l.take k)).map Inl.d := ⟨_, rfl⟩
      rw [← hds] at hrow
      obtain ⟨m, hm⟩ : ∃ m, m = ds.length := ⟨_, rfl⟩
      have hmk : m ≤ k := by rw [hm, hds, List.length_map]; have := fullL_len (l.take k); simp at this; omega
      have HDN := Lib.hid hm.symm
      have HDS := Lib.hid hds
      obtain ⟨av, cv, rfl, -, -⟩ := hrow.cap hm.symm
      have HROW := Lib.hid hrow
      have hbel := hrow.bel
      clear hrow hm hds
      by_cases hlt : k < l.length
      · obtain ⟨x, hx⟩ : ∃ x, l[k]? = some x := ⟨_, List.getElem?_eq_getElem hlt⟩
        have HX := Lib.hid (fullL_snoc l k x hx)
        have HFB : Hid (fullB x = (!decide (x.kd = 1) || !emptyS x.tx)) := rfl
        obtain ⟨kd, t, d, ti, at_, ar, ci, ks⟩ := x
        change Hid (fullB (Inl.mk kd t d ti at_ ar ci ks) = (!decide (kd = 1) || !emptyS t)) at HFB
        obtain ⟨g, off, vc, vp, va, vi, vk, rfl, hok, hbl, hc, hR⟩ := inls_at (HS.out.up0 hbel) hx
        obtain ⟨c0, c1, c2, c3, c4, c5, c6, c7, c8, c9⟩ := hc
        obtain ⟨ac, nc, cc, rfl⟩ := Rd.sl_form hR.at_.cls
        obtain ⟨ap, np, cp, rfl⟩ := Rd.sl_form hR.at_.prs
        obtain ⟨aa, na, ca, rfl⟩ := Rd.sl_form hR.args
        obtain ⟨ai, ni, ci', rfl⟩ := Rd.sl_form hR.cites
        obtain ⟨ak, nk, ck, rfl⟩ := Rd.sl_form hR.kids
        obtain ⟨p, hp⟩ : ∃ p, p = wr.heap.size := ⟨_, rfl⟩
        obtain ⟨wA, hwA⟩ : ∃ wA, wA = wr.alloc (.cells #[.int .i64 kd, .string t, .string d, .string ti, .string at_.id, .slice ac nc cc, .slice ap np cp, .slice aa na ca, .slice ai ni ci', .slice ak nk ck] 47) := ⟨_, rfl⟩
        have PA : PB p [.int .i64 kd, .string t, .string d, .string ti, .string at_.id, .slice ac nc cc, .slice ap np cp, .slice aa na ca, .slice ai ni ci', .slice ak nk ck] wA := by rw [hwA, hp]; exact heap_alloc_new wr _
        have UA := Lib.hid (show RowU 47 10 ok p w ds rows (.slice av m cv) wA by rw [hwA, hp]; exact HROW.out.alloc _)
        have HIN := Lib.hid (show Rd (fun b => ok b ∨ p ≤ b) wA (Inl.mk kd t d ti at_ ar ci ks).d [.int .i64 kd, .string t, .string d, .string ti, .string at_.id, .slice ac nc cc, .slice ap np cp, .slice aa na ca, .slice ai ni ci', .slice ak nk ck] from Rd.keep (fun b hb hlt => ⟨.inl hb, by rw [hwA]; exact Below.heap_alloc _ _ b hlt⟩) _ _ (Inl.mk_ kd t d ti hR))
        clear hR hx hbel hok hbl
        go_upto_region 5 with (fail)
        rw [← hwA, ← hp]
        obtain ⟨e0, e1, e2, e3, e4, e5, e6, e7, e8, e9, ef⟩ := PA.all
        clear hwA hp HROW c0 c1 c2 c3 c4 c5 c6 c7 c8 c9 PA
        have hdl : m ≤ 10000000 := by omega
        by_cases h1 : kd = 1
        · subst h1
          have q1 : ((1 : Int) != 1) = false := rfl
          by_cases h2 : emptyS t = true
          · have q2 : (!t.toList.isEmpty) = false := by rw [emp_eq0, h2]; rfl
            rw [HFB.out, h2, if_neg (by simp), List.append_nil] at HX
            have HR2 := Lib.hid (show RowU 47 10 ok wA.heap.size w ((fullL (l.take (k + 1))).map Inl.d) rows (.slice av m cv) wA by rw [HX.out, ← HDS.out]; exact UA.out.top)
            clear h2 HFB HX
            go_wp2
            go_roundw
            case rel => exact ⟨k + 1, _, by omega, by go_num, HR2.out⟩
            case measure => simp [intOf]; omega
          · have h2' : emptyS t = false := by simpa using h2
            have q2 : (!t.toList.isEmpty) = true := by rw [emp_eq0, h2']; rfl
            rw [HFB.out, h2', if_pos (by simp)] at HX
            have HX2 := Lib.hid (show (fullL (l.take (k + 1))).map Inl.d = ds ++ [(Inl.mk 1 t d ti at_ ar ci ks).d] by rw [HX.out, HDS.out, List.map_append]; rfl)
            clear h2 h2' HFB HX
            go_wp2_with (at_builtin; refine wpList_put rfl _ _ 38 rfl iI _ 192 Tryz.underlying38 hiI hzI0 hzI1 hzI2 rfl (by decide) UA.out HB.out (Inl.mk 1 t d ti at_ ar ci ks).d [.int .i64 1, .string t, .string d, .string ti, .string at_.id, .slice ac nc cc, .slice ap np cp, .slice aa na ca, .slice ai ni ci', .slice ak nk ck] HIN.out rfl one_ten HDN.out hdl (by decide) rfl rfl ?_)
            intro a' c' w5 hrow hg5
            have HROW := Lib.hid hrow
            rw [← HX2.out] at HROW
            clear hrow hg5
            go_wp2
            go_roundw
            case rel => exact ⟨k + 1, _, by omega, by go_num, HROW.out⟩
            case measure => simp [intOf]; omega
        · have q1 : (kd != 1) = true := neg_kd h1
          rw [HFB.out, decide_eq_false h1, if_pos (by simp)] at HX
          have HX2 := Lib.hid (show (fullL (l.take (k + 1))).map Inl.d = ds ++ [(Inl.mk kd t d ti at_ ar ci ks).d] by rw [HX.out, HDS.out, List.map_append]; rfl)
          clear h1 HFB HX
          go_wp2_with (at_builtin; refine wpList_put rfl _ _ 38 rfl iI _ 192 Tryz.underlying38 hiI hzI0 hzI1 hzI2 rfl (by decide) UA.out HB.out (Inl.mk kd t d ti at_ ar ci ks).d [.int .i64 kd, .string t, .string d, .string ti, .string at_.id, .slice ac nc cc, .slice ap np cp, .slice aa na ca, .slice ai ni ci', .slice ak nk ck] HIN.out rfl one_ten HDN.out hdl (by decide) rfl rfl ?_)
          intro a' c' w5 hrow hg5
          have HROW := Lib.hid hrow
          rw [← HX2.out] at HROW
          clear hrow hg5
          go_wp2
          go_roundw
          case rel => exact ⟨k + 1, _, by omega, by go_num, HROW.out⟩
          case measure => simp [intOf]; omega
      · have hkl : k = l.length := by omega
        subst hkl
        rw [HDS.out, List.take_length] at HROW
        go_wp2
        go_ret
        exact ⟨_, rfl, HROW.out.rd, hbel⟩
theorem FuPost.inside {ok : Nat → Prop} {w : World} {l : List Inl} {e : Ending} {w' : World} (h : FuPost (fun b => ok b ∧ b < w.heap.size) w l e w') : FuPost ok w l e w' := by
  obtain ⟨v, h1, h2, h3⟩ := h
  exact ⟨v, h1, h2.weaken (fun b hb => hb.imp And.left id), h3⟩
theorem full_any (l : List Inl) (ok : Nat → Prop) (v : Value) (w : World) (hn : l.length ≤ 1000000) (hrd : Rd ok w (inlsD l) [v]) :
    Calls Tryz.prog 64 #[v] w (FuPost ok w (fullL l)) :=
  (full_any0 l _ v w hn hrd.inside (fun _ h => h.2)).mono fun _ _ h => h.inside
end Go.Proofs.YtlbioncagkkkoaaGreatDoor
