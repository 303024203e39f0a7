/- Contracts of publisherref24.bare and fill. -/
import Derived.Test.YtlbioncagkkkoaaGreatDoorKRtG
import Derived.Test.YtlbioncagkkkoaaGreatDoorKRtQ
import Derived.Test.YtlbioncagkkkoaaGreatDoorKRtL
import Derived.Test.YtlbioncagkkkoaaGreatDoorKTcX
namespace Go.Proofs.YtlbioncagkkkoaaGreatDoor
open Go.RowKit
set_option linter.unusedVariables false
set_option linter.unusedSimpArgs false

def BrPost (B : Nat) (w : World) (l : List Blk) (e : Ending) (w' : World) : Prop := ∃ v, e = .returned v ∧ Rd (fun b => b < B ∨ w.heap.size ≤ b) w' (blksD l) [v] ∧ Below w.heap.size w w'
def BrRel (K : At → List Blk) (B : Nat) (w0 : World) (l : List Blk) (v vi : Value) (wr : World) : Prop :=
  ∃ (k : Nat) (rows : List (List Value)), k ≤ l.length ∧ vi = .int .i64 k ∧ RowU 53 11 (· < B) wr.heap.size w0 ((Blk.wkL K (l.take k)).map Blk.d) rows v wr
/-- The copy p of a block, the row of the blocks so far, all older blocks of the argument. -/
structure BrB (B p : Nat) (w0 wr : World) (cs : List Value) (ds : List D) (rows : List (List Value)) (v : Value) (wx : World) : Prop where
  bx : CB 53 p cs wx
  row : RowU 53 11 (· < B) p w0 ds rows v wx
  bel : Below B wr wx
theorem BrB.below {B p : Nat} {w0 wr : World} {cs : List Value} {ds : List D} {rows : List (List Value)} {v : Value} {wx wy : World} (h : BrB B p w0 wr cs ds rows v wx) (hB : B ≤ p) (hb : Below wx.heap.size wx wy) : BrB B p w0 wr cs ds rows v wy :=
  ⟨h.bx.below hb, h.row.below hb, h.bel.trans (hb.mono (by have := h.bx.lt; omega))⟩
theorem BrB.set {B p : Nat} {w0 wr : World} {cs : List Value} {ds : List D} {rows : List (List Value)} {v : Value} {wx : World} (h : BrB B p w0 wr cs ds rows v wx) (hB : B ≤ p) (j : Nat) (u : Value) : BrB B p w0 wr (cs.set j u) ds rows v (wx.setCell ⟨p, j, none⟩ u) :=
  ⟨cb_set h.bx j u, h.row.set (Nat.le_refl _) j u, h.bel.grown (grown_setc _ _ _ _) (by have := h.bx.lt; omega) (fun g e => by have := Option.some.inj e; omega)⟩
theorem wkL_emp (K : At → List Blk) : Blk.wkL K [] = [] := by rw [Blk.wkL]
theorem wk_bare (k lv : Int) (i t d ti : ByteArray) (a : At) (li : List Inl) (ks : List Blk) : (Blk.mk k lv i t d ti a li ks).wk (fun _ => []) = Blk.mk k lv i t d ti a li (Blk.wkL (fun _ => []) (if k = 13 ∧ i = tocS then [] else ks)) := by
  rw [Blk.wk]
  by_cases h : k = 13 ∧ i = tocS
  · rw [if_pos h, if_pos h, wkL_emp]
  · rw [if_neg h, if_neg h]

set_option maxRecDepth 100000 in
set_option maxHeartbeats 8000000 in
theorem rbare_any (n : Nat) : ∀ (l : List Blk) (v : Value) (B : Nat) (w : World), Blk.szL l ≤ n → n ≤ 1000000 → Rd (· < B) w (blksD l) [v] → B ≤ w.heap.size →
    Calls Tryz.prog 38 #[v] w (BrPost B w (Blk.wkL (fun _ => []) l)) := by
  induction n using Nat.strongRecOn with
  | _ n ih =>
    intro l v B w hn hnm hrd hB
    obtain ⟨iB, hiB, hzB0, hzB1, hzB2⟩ := info_parts infoBl
    obtain ⟨a, cap, hv, hs⟩ := Rd.sl_open hrd
    obtain rfl : v = .slice a l.length cap := by simpa using hv
    have hcap : l.length ≤ cap := by simpa using hs.le
    have hll := Blk.len_le l
    have hmx := hs.max
    unfold maxLen at hmx
    have HS := Lib.hid hs
    have IH := Lib.hid ih
    have R0 := Lib.hid (show BrRel (fun _ => []) B w l (.slice none 0 0) (.int .i64 0) w from ⟨0, [], Nat.zero_le _, rfl, by rw [List.take_zero, wkL_emp]; exact RowU.nil _ _ _ _⟩)
    clear hs hv hrd ih
    go_enter Tryz.func38, Tryz.ntmps38
    go_wp2
    go_loopw [3, 8] (fun v vi wr => BrRel (fun _ => []) B w l v vi wr) (fun _ i _ => l.length - (intOf i).toNat)
    case atStart => exact R0.out
    case round =>
      clear R0
      obtain ⟨k, rows, hk, rfl, hrow⟩ := hrel
      obtain ⟨ds, hds⟩ : ∃ ds, ds = (Blk.wkL (fun _ => []) (l.take k)).map Blk.d := ⟨_, rfl⟩
      rw [← hds] at hrow
      obtain ⟨m, hm⟩ : ∃ m, m = ds.length := ⟨_, rfl⟩
      have hmk : m ≤ k := by rw [hm, hds, List.length_map, wkL_len, List.length_take]; omega
      have HDN := Lib.hid hm.symm
      have HDS := Lib.hid hds
      obtain ⟨av, cv, rfl, -, -⟩ := hrow.cap hm.symm
      have hbel := hrow.bel
      have HROW := Lib.hid hrow
      clear hrow hm hds
      by_cases hlt : k < l.length
      · obtain ⟨x, hx⟩ : ∃ x, l[k]? = some x := ⟨_, List.getElem?_eq_getElem hlt⟩
        have hsn := wkL_snoc (fun _ => []) l k x hx
        have hsz := Blk.szL_get l k x hx
        obtain ⟨kd, lv, i, t, d, ti, at_, li, ks⟩ := x
        rw [Blk.sz] at hsz
        obtain ⟨g, off, vc, vp, vl, vk, rfl, hgo, hgl, hc, hR⟩ := blks_at (HS.out.below (hbel.mono hB)) hx
        obtain ⟨c0, c1, c2, c3, c4, c5, c6, c7, c8, c9, c10⟩ := hc
        obtain ⟨ac, nc, cc, rfl⟩ := Rd.sl_form hR.at_.cls
        obtain ⟨ap, np, cp, rfl⟩ := Rd.sl_form hR.at_.prs
        obtain ⟨al, nl, cl, rfl⟩ := Rd.sl_form hR.line
        obtain ⟨ak, nk, ck, rfl⟩ := Rd.sl_form hR.kids
        obtain ⟨p, hp⟩ : ∃ p, p = wr.heap.size := ⟨_, rfl⟩
        obtain ⟨wA, hwA⟩ : ∃ wA, wA = wr.alloc (.cells #[.int .i64 kd, .int .i64 lv, .string i, .string t, .string d, .string ti, .string at_.id, .slice ac nc cc, .slice ap np cp, .slice al nl cl, .slice ak nk ck] 53) := ⟨_, rfl⟩
        have hpw : w.heap.size ≤ p := by rw [hp]; exact hbel.size
        have hpB : B ≤ p := Nat.le_trans hB hpw
        have BA : BrB B p w wr [.int .i64 kd, .int .i64 lv, .string i, .string t, .string d, .string ti, .string at_.id, .slice ac nc cc, .slice ap np cp, .slice al nl cl, .slice ak nk ck] ds rows (.slice av m cv) wA := by
          rw [hwA, hp]
          exact ⟨CB.new _ _ _, HROW.out.alloc _, (Below.refl _ _).alloc (by omega) _⟩
        have HBA := Lib.hid BA
        have HR := Lib.hid hR
        have TC := Lib.hid (rToc_any kd lv i t d ti at_.id ac ap al ak nc cc np cp nl cl nk ck wA)
        obtain ⟨tb, htb⟩ : ∃ tb : Bool, tb = decide (kd = 13 ∧ i = tocS) := ⟨_, rfl⟩
        rw [← htb] at TC
        have HTB := Lib.hid htb
        obtain ⟨KS0, hKS0⟩ : ∃ KS, KS = (if kd = 13 ∧ i = tocS then [] else ks) := ⟨_, rfl⟩
        have HX2 : Hid ((Blk.wkL (fun _ => []) (l.take (k + 1))).map Blk.d = ds ++ [(Blk.mk kd lv i t d ti at_ li (Blk.wkL (fun _ => []) KS0)).d]) := by
          show _ = _
          rw [hsn, List.map_append, ← HDS.out, wk_bare, hKS0]; rfl
        have HKS : Hid (KS0 = if tb = true then [] else ks) := by
          show _ = _
          rw [hKS0, htb]; simp only [decide_eq_true_eq]
        have HKZ : Hid (Blk.szL KS0 < n) := by
          show _ < _
          rw [hKS0]; split
          · rw [Blk.szL]; omega
          · omega
        clear htb hKS0 hx hsn hgo hgl hR hbel
        go_upto_region 5 with (fail)
        rw [← hwA, ← hp]
        obtain ⟨e0, e1, e2, e3, e4, e5, e6, e7, e8, e9, e10⟩ := cb_elev BA.bx
        clear hwA hp c0 c1 c2 c3 c4 c5 c6 c7 c8 c9 c10 BA HROW
        go_wp2_with fail
        (with_reducible refine TC.out.mono ?_)
        rintro e w1 ⟨rfl, b1⟩
        have V1 := Lib.hid (HBA.out.below hpB b1)
        obtain ⟨e0, e1, e2, e3, e4, e5, e6, e7, e8, e9, e10⟩ := cb_elev V1.out.bx
        have f10 := cb_free V1.out.bx 10
        have hp1 := V1.out.bx.lt
        clear b1 TC HBA
        go_upto_if 13 with (fail)
        go_cut [] (fun wx => ∃ a2 n2 c2, BrB B p w wr [.int .i64 kd, .int .i64 lv, .string i, .string t, .string d, .string ti, .string at_.id, .slice ac nc cc, .slice ap np cp, .slice al nl cl, .slice a2 n2 c2] ds rows (.slice av m cv) wx ∧ Rd (· < B) wx (blksD KS0) [.slice a2 n2 c2])
        case first =>
          cases htoc : tb with
          | true =>
            have HT : Hid (KS0 = []) := by show _ = _; rw [HKS.out, htoc]; rfl
            clear htoc
            go_wp2
            go_meet
            exact ⟨none, 0, 0, V1.out.set hpB 10 _, by rw [HT.out]; exact Rd.nil_mk _ _ _⟩
          | false =>
            have HT : Hid (KS0 = ks) := by show _ = _; rw [HKS.out, htoc]; rfl
            clear htoc
            go_wp2
            go_meet
            exact ⟨ak, nk, ck, V1.out, by rw [HT.out]; exact HR.out.kids.below V1.out.bel⟩
        case rest =>
          obtain ⟨a2, n2, c2, C2, k2⟩ := hcut
          obtain ⟨w2, hw2⟩ : ∃ w2 : World, w2 = wc := ⟨_, rfl⟩
          subst hw2
          have hp2 := C2.bx.lt
          have IK := Lib.hid (IH.out (Blk.szL KS0) HKZ.out KS0 (.slice a2 n2 c2) B w2 (Nat.le_refl _) (by have := HKZ.out; omega) k2 (by omega))
          have e10 := C2.bx.cell 10 _ rfl
          have HC2 := Lib.hid C2
          clear C2 k2 e0 e1 e2 e3 e4 e5 e6 e7 e8 e9 f10 V1
          go_wp2_with fail
          (with_reducible refine IK.out.mono ?_)
          rintro e w3 ⟨v3, rfl, h3, b3⟩
          obtain ⟨a3, n3, c3, rfl⟩ := Rd.sl_form h3
          have V3 := HC2.out.below hpB b3
          have f10 := cb_free V3.bx 10
          have e10 := V3.bx.cell 10 _ rfl
          obtain ⟨w4, hw4⟩ : ∃ w4, w4 = w3.setCell ⟨p, 10, none⟩ (.slice a3 n3 c3) := ⟨_, rfl⟩
          have V4 : BrB B p w wr [.int .i64 kd, .int .i64 lv, .string i, .string t, .string d, .string ti, .string at_.id, .slice ac nc cc, .slice ap np cp, .slice al nl cl, .slice a3 n3 c3] ds rows (.slice av m cv) w4 := by rw [hw4]; exact V3.set hpB 10 _
          have K4 : Rd (fun b => b < B ∨ p < b) w4 (blksD (Blk.wkL (fun _ => []) KS0)) [.slice a3 n3 c3] :=
            Rd.keep (fun b hb hlt => ⟨hb.imp _root_.id (fun h => by omega), by rw [hw4]; exact Below.heap_setCell w3 ⟨p, 10, none⟩ _ b (by show b ≠ p; rcases hb with hb | hb <;> omega)⟩) _ _ h3
          have XD := Lib.hid (show Rd (fun b => b < B ∨ p ≤ b) w4 (Blk.mk kd lv i t d ti at_ li (Blk.wkL (fun _ => []) KS0)).d [.int .i64 kd, .int .i64 lv, .string i, .string t, .string d, .string ti, .string at_.id, .slice ac nc cc, .slice ap np cp, .slice al nl cl, .slice a3 n3 c3] from
            Blk.mk_ kd lv i t d ti (a := at_) ⟨⟨(HR.out.at_.cls.below V4.bel).weaken (fun b hb => .inl hb), (HR.out.at_.prs.below V4.bel).weaken (fun b hb => .inl hb)⟩, (HR.out.line.below V4.bel).weaken (fun b hb => .inl hb), K4.weaken (fun b hb => hb.imp _root_.id Nat.le_of_lt)⟩)
          have HW4 := Lib.hid hw4
          have HV4 := Lib.hid V4
          clear h3 b3 IK V3 K4 hw4 V4 HC2
          go_upto_region 8 with (fail)
          rw [← HW4.out]
          clear HW4 e10 f10
          obtain ⟨e0, e1, e2, e3, e4, e5, e6, e7, e8, e9, e10⟩ := cb_elev HV4.out.bx
          go_wp2_with (at_builtin; refine wpList_put rfl _ _ 23 rfl iB _ 192 Tryz.underlying23 hiB hzB0 hzB1 hzB2 rfl (by decide) HV4.out.row (fun b hb => Nat.lt_of_lt_of_le hb hB) (Blk.mk kd lv i t d ti at_ li (Blk.wkL (fun _ => []) KS0)).d [.int .i64 kd, .int .i64 lv, .string i, .string t, .string d, .string ti, .string at_.id, .slice ac nc cc, .slice ap np cp, .slice al nl cl, .slice a3 n3 c3] XD.out rfl one_elev HDN.out (by omega) (by decide) rfl rfl ?_)
          intro a' c' w9 hrow hg9
          have HROW := Lib.hid hrow
          rw [← HX2.out] at HROW
          clear hrow hg9
          go_wp2
          go_roundw
          case rel => exact ⟨k + 1, _, by omega, by go_num, HROW.out⟩
          case measure => simp [intOf]; omega
      · have hkl : k = l.length := by omega
        subst hkl
        rw [List.take_length] at HDS
        go_wp2
        go_ret
        have h1 := HROW.out.rd
        rw [HDS.out] at h1
        exact ⟨.slice av m cv, rfl, h1, HROW.out.bel⟩

set_option maxRecDepth 100000 in
set_option maxHeartbeats 8000000 in
theorem rfill_any (lb : List Blk) (hszb : Blk.szL lb ≤ 800000) (hilb : (Blk.inlsL lb).length ≤ 800000) (hlnb : ∀ b ∈ Blk.eachL lb, RLnOk b.lineOf) (hokb : ∀ dep : Int, REnsOk (tocL (numsL lb) dep)) (K : At → List Blk) (hK : ∀ a, K a = listR (tocL (numsL lb) (depthOf a))) (n : Nat) :
    ∀ (l : List Blk) (vm vb v : Value) (B : Nat) (w : World), Blk.szL l ≤ n → n ≤ 1000000 → (∃ a n c, vm = .slice a n c) → Rd (· < B) w (blksD lb) [vb] → Rd (· < B) w (blksD l) [v] → B ≤ w.heap.size →
    Calls Tryz.prog 39 #[.agg #[vm, vb], v] w (BrPost B w (Blk.wkL K l)) := by
  induction n using Nat.strongRecOn with
  | _ n ih =>
    intro l vm vb v B w hn hnm hm hdoc hrd hB
    obtain ⟨am, nm, cm, rfl⟩ := hm
    obtain ⟨ab, nb, cb, rfl⟩ := Rd.slf hdoc
    obtain ⟨S, hS⟩ : ∃ S, S = w.heap.size := ⟨_, rfl⟩
    obtain ⟨w0, hw0⟩ : ∃ w0, w0 = w.alloc (.cells #[.slice am nm cm, .slice ab nb cb] 25) := ⟨_, rfl⟩
    have b0 : Below w.heap.size w w0 := by rw [hw0]; exact (Below.refl _ _).alloc (Nat.le_refl _) _
    have k0 : CB 25 S [.slice am nm cm, .slice ab nb cb] w0 := by rw [hw0, hS]; exact CB.new _ _ _
    have hS0 := k0.lt
    have HDOC := Lib.hid (hdoc.below (b0.mono hB))
    have B0 := Lib.hid b0
    have K0 := Lib.hid k0
    have hB0 : B ≤ w0.heap.size := Nat.le_trans hB b0.size
    have HOKB := Lib.hid hokb
    have HLNB := Lib.hid hlnb
    have HKK := Lib.hid hK
    replace hrd := hrd.below (b0.mono hB)
    clear b0 k0 hdoc hokb hlnb hK
    obtain ⟨iB, hiB, hzB0, hzB1, hzB2⟩ := info_parts infoBl
    obtain ⟨a, cap, hv, hs⟩ := Rd.sl_open hrd
    obtain rfl : v = .slice a l.length cap := by simpa using hv
    have hcap : l.length ≤ cap := by simpa using hs.le
    have hll := Blk.len_le l
    have hmx := hs.max
    unfold maxLen at hmx
    have HS := Lib.hid hs
    have IH := Lib.hid ih
    have R0 := Lib.hid (show BrRel K B w0 l (.slice none 0 0) (.int .i64 0) w0 from ⟨0, [], Nat.zero_le _, rfl, by rw [List.take_zero, wkL_emp]; exact RowU.nil _ _ _ _⟩)
    clear hs hv hrd ih
    go_enter Tryz.func39, Tryz.ntmps39
    go_upto_region 1 with (fail)
    rw [← hw0, ← hS]
    clear hw0 hS
    go_wp2
    go_loopw [5, 13] (fun v vi wr => BrRel K B w0 l v vi wr) (fun _ i _ => l.length - (intOf i).toNat)
    case atStart => exact R0.out
    case round =>
      clear R0
      obtain ⟨k, rows, hk, rfl, hrow⟩ := hrel
      obtain ⟨ds, hds⟩ : ∃ ds, ds = (Blk.wkL K (l.take k)).map Blk.d := ⟨_, rfl⟩
      rw [← hds] at hrow
      obtain ⟨m, hm⟩ : ∃ m, m = ds.length := ⟨_, rfl⟩
      have hmk : m ≤ k := by rw [hm, hds, List.length_map, wkL_len, List.length_take]; omega
      have HDN := Lib.hid hm.symm
      have HDS := Lib.hid hds
      obtain ⟨av, cv, rfl, -, -⟩ := hrow.cap hm.symm
      have hbel := hrow.bel
      have HROW := Lib.hid hrow
      clear hrow hm hds
      by_cases hlt : k < l.length
      · obtain ⟨x, hx⟩ : ∃ x, l[k]? = some x := ⟨_, List.getElem?_eq_getElem hlt⟩
        have hsn := wkL_snoc K l k x hx
        have hsz := Blk.szL_get l k x hx
        obtain ⟨kd, lv, i, t, d, ti, at_, li, ks⟩ := x
        rw [Blk.sz] at hsz
        obtain ⟨g, off, vc, vp, vl, vk, rfl, hgo, hgl, hc, hR⟩ := blks_at (HS.out.below (hbel.mono hB0)) hx
        obtain ⟨c0, c1, c2, c3, c4, c5, c6, c7, c8, c9, c10⟩ := hc
        obtain ⟨ac, nc, cc, rfl⟩ := Rd.sl_form hR.at_.cls
        obtain ⟨ap, np, cp, rfl⟩ := Rd.sl_form hR.at_.prs
        obtain ⟨al, nl, cl, rfl⟩ := Rd.sl_form hR.line
        obtain ⟨ak, nk, ck, rfl⟩ := Rd.sl_form hR.kids
        obtain ⟨p, hp⟩ : ∃ p, p = wr.heap.size := ⟨_, rfl⟩
        obtain ⟨wA, hwA⟩ : ∃ wA, wA = wr.alloc (.cells #[.int .i64 kd, .int .i64 lv, .string i, .string t, .string d, .string ti, .string at_.id, .slice ac nc cc, .slice ap np cp, .slice al nl cl, .slice ak nk ck] 53) := ⟨_, rfl⟩
        have hpw : w0.heap.size ≤ p := by rw [hp]; exact hbel.size
        have hpB : B ≤ p := Nat.le_trans hB0 hpw
        have BA : BrB B p w0 wr [.int .i64 kd, .int .i64 lv, .string i, .string t, .string d, .string ti, .string at_.id, .slice ac nc cc, .slice ap np cp, .slice al nl cl, .slice ak nk ck] ds rows (.slice av m cv) wA := by
          rw [hwA, hp]
          exact ⟨CB.new _ _ _, HROW.out.alloc _, (Below.refl _ _).alloc (by omega) _⟩
        have HBA := Lib.hid BA
        have HR := Lib.hid hR
        have TC := Lib.hid (rToc_any kd lv i t d ti at_.id ac ap al ak nc cc np cp nl cl nk ck wA)
        obtain ⟨tb, htb⟩ : ∃ tb : Bool, tb = decide (kd = 13 ∧ i = tocS) := ⟨_, rfl⟩
        rw [← htb] at TC
        have HTB := Lib.hid htb
        obtain ⟨KS0, hKS0⟩ : ∃ KS, KS = (if kd = 13 ∧ i = tocS then K at_ else Blk.wkL K ks) := ⟨_, rfl⟩
        have HX2 : Hid ((Blk.wkL K (l.take (k + 1))).map Blk.d = ds ++ [(Blk.mk kd lv i t d ti at_ li KS0).d]) := by
          show _ = _
          rw [hsn, List.map_append, ← HDS.out, Blk.wk, hKS0]; rfl
        have HKS : Hid (KS0 = if tb = true then K at_ else Blk.wkL K ks) := by
          show _ = _
          rw [hKS0, htb]; simp only [decide_eq_true_eq]
        have hkz : Blk.szL ks < n := by omega
        have hSp : S < p := by omega
        clear htb hKS0 hx hsn hgo hgl hR hbel hsz
        go_upto_region 5 with (fail)
        rw [← hwA, ← hp]
        obtain ⟨e0, e1, e2, e3, e4, e5, e6, e7, e8, e9, e10⟩ := cb_elev BA.bx
        clear hwA hp c0 c1 c2 c3 c4 c5 c6 c7 c8 c9 c10 BA HROW
        go_wp2_with fail
        (with_reducible refine TC.out.mono ?_)
        rintro e w1 ⟨rfl, b1⟩
        have V1 := Lib.hid (HBA.out.below hpB b1)
        obtain ⟨e0, e1, e2, e3, e4, e5, e6, e7, e8, e9, e10⟩ := cb_elev V1.out.bx
        have hp1 := V1.out.bx.lt
        clear b1 TC HBA
        go_upto_if 18 with (fail)
        go_cut [] (fun wx => ∃ a2 n2 c2, BrB B p w0 wr [.int .i64 kd, .int .i64 lv, .string i, .string t, .string d, .string ti, .string at_.id, .slice ac nc cc, .slice ap np cp, .slice al nl cl, .slice a2 n2 c2] ds rows (.slice av m cv) wx ∧ Rd (fun b => b < B ∨ p < b) wx (blksD KS0) [.slice a2 n2 c2])
        case first =>
          cases htoc : tb with
          | true =>
            have HT : Hid (KS0 = K at_) := by show _ = _; rw [HKS.out, htoc]; rfl
            obtain ⟨dep, hdep⟩ : ∃ dep, dep = depthOf at_ := ⟨_, rfl⟩
            have HT2 : Hid (KS0 = listR (tocL (numsL lb) dep)) := by show _ = _; rw [HT.out, HKK.out, hdep]
            have HDEP : Hid (dep = depV (getP at_.prs ⟨#[100, 101, 112, 116, 104]⟩)) := hdep
            have GT := Lib.hid (rGet_any at_.id ⟨#[100, 101, 112, 116, 104]⟩ at_.prs ac nc cc (.slice ap np cp) w1 ((HR.out.at_.prs.below V1.out.bel).weaken (fun b hb => by omega)))
            clear htoc HT hdep
            go_wp2_with fail
            (with_reducible refine GT.out.mono ?_)
            rintro e w2 ⟨rfl, b2⟩
            have V2 := Lib.hid (V1.out.below hpB b2)
            have hp2 := V2.out.bx.lt
            clear b2 GT V1 e0 e1 e2 e3 e4 e5 e6 e7 e8 e9 e10
            go_upto_region 8 with (fail)
            generalize hoo : getP at_.prs ⟨#[100, 101, 112, 116, 104]⟩ = o at *
            clear hoo
            go_cut [40] (fun v wx => v = .bool (digB o) ∧ wx = w2)
            case first =>
              cases o with
              | none =>
                go_wp2
                go_meet
                exact ⟨rfl, rfl⟩
              | some v =>
                by_cases hv1 : v.size = 1
                · obtain ⟨c, rfl⟩ : ∃ c, v = ⟨#[c]⟩ := by
                    obtain ⟨⟨l⟩⟩ := v
                    match l, hv1 with
                    | [c], _ => exact ⟨c, rfl⟩
                  have HD : Hid (digB (some ⟨#[c]⟩) = (decide (49 ≤ c.toNat) && decide (c.toNat ≤ 54))) := rfl
                  have hc := c.toNat_lt
                  have ei : ∀ h : 0 < (⟨#[c]⟩ : ByteArray).size, (⟨#[c]⟩ : ByteArray)[0]'h = c := fun _ => rfl
                  by_cases hc1 : 49 ≤ c.toNat
                  · have qa : decide ((49 : Int) ≤ (c.toNat : Int)) = true := decide_eq_true (by omega)
                    by_cases hc2 : c.toNat ≤ 54
                    · have qb : decide ((c.toNat : Int) ≤ 54) = true := decide_eq_true (by omega)
                      go_wp2
                      go_meet
                      exact ⟨by rw [HD.out]; simp [hc1, hc2], rfl⟩
                    · have qb : decide ((c.toNat : Int) ≤ 54) = false := decide_eq_false (by omega)
                      go_wp2
                      go_meet
                      exact ⟨by rw [HD.out]; simp [hc2], rfl⟩
                  · have qa : decide ((49 : Int) ≤ (c.toNat : Int)) = false := decide_eq_false (by omega)
                    go_wp2
                    go_meet
                    exact ⟨by rw [HD.out]; simp [hc1], rfl⟩
                · have HD : Hid (digB (some v) = false) := by
                    show _ = _
                    unfold digB
                    obtain ⟨⟨l⟩⟩ := v
                    match l, hv1 with
                    | [], _ => rfl
                    | [c], h => exact absurd rfl h
                    | _ :: _ :: _, _ => rfl
                  have q1 : ((v.size : Int) == 1) = false := by rw [beq_eq_false_iff_ne]; omega
                  go_wp2
                  go_meet
                  exact ⟨by rw [HD.out], rfl⟩
            case rest =>
              obtain ⟨rfl, rfl⟩ := hcut
              go_upto_if 40 with (fail)
              go_cut [8] (fun v wx => v = .int .i64 dep ∧ wx = wc)
              case first =>
                cases hdg : digB o with
                | true =>
                  obtain ⟨c, rfl, hc1, hc2, hc3⟩ := digB_yes o hdg
                  have HD2 : Hid (dep = (c.toNat : Int) - 48) := HDEP.out.trans hc3
                  have hc := c.toNat_lt
                  have ei : ∀ h : 0 < (⟨#[c]⟩ : ByteArray).size, (⟨#[c]⟩ : ByteArray)[0]'h = c := fun _ => rfl
                  have qw : IntKind.u8.wrap ((c.toNat : Int) - 48) = (c.toNat : Int) - 48 := by unfold IntKind.wrap; simp [IntKind.bits]; omega
                  clear hc3 hdg
                  go_wp2
                  go_meet
                  exact ⟨by rw [HD2.out], rfl⟩
                | false =>
                  have HD2 : Hid (dep = 3) := HDEP.out.trans (digB_no o hdg)
                  clear hdg
                  go_wp2
                  go_meet
                  exact ⟨by rw [HD2.out], rfl⟩
              case rest =>
                obtain ⟨rfl, rfl⟩ := hcut
                obtain ⟨w3, hw3⟩ : ∃ w3 : World, w3 = wc := ⟨_, rfl⟩
                rw [← hw3] at V2 hp2 ⊢
                clear hw3
                have b03 := V2.out.row.bel
                have KD := K0.out.below b03
                have x0 := KD.cell 0 _ rfl
                have x1 := KD.cell 1 _ rfl
                have OFD := Lib.hid (rOf_any lb (.slice am nm cm) (.slice ab nb cb) dep B w3 ⟨_, _, _, rfl⟩ (HDOC.out.below (b03.mono hB0)) (by omega) hszb hilb HLNB.out)
                clear b03 KD HDEP
                go_wp2_with fail
                (with_reducible refine OFD.out.mono ?_)
                rintro e w5 ⟨v5, rfl, h5, b5⟩
                obtain ⟨E, hE⟩ : ∃ E, E = tocL (numsL lb) dep := ⟨_, rfl⟩
                rw [← hE] at h5 HT2
                have LI := Lib.hid (rList24_any E.length E v5 (fun b => (b < B ∨ w3.heap.size ≤ b) ∧ b < w5.heap.size) w5 (Nat.le_refl _) h5.inside (fun b hb => hb.2) (by rw [hE]; exact HOKB.out dep))
                have V5 := Lib.hid (V2.out.below hpB b5)
                have hw35 := b5.size
                clear h5 b5 OFD hE V2 x0 x1
                go_wp2_with fail
                (with_reducible refine LI.out.mono ?_)
                rintro e w6 ⟨v6, rfl, h6, b6⟩
                obtain ⟨a3, n3, c3, rfl⟩ := Rd.sl_form h6
                have V6 := V5.out.below hpB b6
                have f10 := cb_free V6.bx 10
                have e10 := V6.bx.cell 10 _ rfl
                have HV6 := Lib.hid V6
                have K6 := Lib.hid (h6.weaken (ok' := fun b => b < B ∨ p < b) (fun b hb => by
                  rcases hb with hb | hb
                  · exact hb.1.imp _root_.id (fun h => by omega)
                  · exact .inr (by omega)))
                clear h6 b6 LI V6 V5
                go_wp2
                go_meet
                refine ⟨a3, n3, c3, HV6.out.set hpB 10 _, ?_⟩
                rw [HT2.out]
                exact Rd.keep (fun b hb hlt => ⟨hb, Below.heap_setCell w6 ⟨p, 10, none⟩ _ b (by show b ≠ p; rcases hb with hb | hb <;> omega)⟩) _ _ K6.out
          | false =>
            have HT : Hid (KS0 = Blk.wkL K ks) := by show _ = _; rw [HKS.out, htoc]; rfl
            have b01 := V1.out.row.bel
            have KD := K0.out.below b01
            have x0 := KD.cell 0 _ rfl
            have x1 := KD.cell 1 _ rfl
            have IK := Lib.hid (IH.out (Blk.szL ks) hkz ks (.slice am nm cm) (.slice ab nb cb) (.slice ak nk ck) B w1 (Nat.le_refl _) (by omega) ⟨_, _, _, rfl⟩ (HDOC.out.below (b01.mono hB0)) (HR.out.kids.below V1.out.bel) (by omega))
            clear htoc b01 KD
            go_wp2_with fail
            (with_reducible refine IK.out.mono ?_)
            rintro e w3 ⟨v3, rfl, h3, b3⟩
            obtain ⟨a3, n3, c3, rfl⟩ := Rd.sl_form h3
            have V3 := V1.out.below hpB b3
            have f10 := cb_free V3.bx 10
            have e10 := V3.bx.cell 10 _ rfl
            have HV3 := Lib.hid V3
            have K3 := Lib.hid (h3.weaken (ok' := fun b => b < B ∨ p < b) (fun b hb => hb.imp _root_.id (fun h => by omega)))
            clear h3 b3 IK V3 e0 e1 e2 e3 e4 e5 e6 e7 e8 e9
            go_wp2
            go_meet
            refine ⟨a3, n3, c3, HV3.out.set hpB 10 _, ?_⟩
            rw [HT.out]
            exact Rd.keep (fun b hb hlt => ⟨hb, Below.heap_setCell w3 ⟨p, 10, none⟩ _ b (by show b ≠ p; rcases hb with hb | hb <;> omega)⟩) _ _ K3.out
        case rest =>
          obtain ⟨a3, n3, c3, V4, K4⟩ := hcut
          obtain ⟨w4, hw4⟩ : ∃ w4 : World, w4 = wc := ⟨_, rfl⟩
          subst hw4
          have XD := Lib.hid (show Rd (fun b => b < B ∨ p ≤ b) w4 (Blk.mk kd lv i t d ti at_ li KS0).d [.int .i64 kd, .int .i64 lv, .string i, .string t, .string d, .string ti, .string at_.id, .slice ac nc cc, .slice ap np cp, .slice al nl cl, .slice a3 n3 c3] from
            Blk.mk_ kd lv i t d ti (a := at_) ⟨⟨(HR.out.at_.cls.below V4.bel).weaken (fun b hb => .inl hb), (HR.out.at_.prs.below V4.bel).weaken (fun b hb => .inl hb)⟩, (HR.out.line.below V4.bel).weaken (fun b hb => .inl hb), K4.weaken (fun b hb => hb.imp _root_.id Nat.le_of_lt)⟩)
          have HV4 := Lib.hid V4
          obtain ⟨e0, e1, e2, e3, e4, e5, e6, e7, e8, e9, e10⟩ := cb_elev V4.bx
          clear K4 V4 V1
          go_wp2_with (at_builtin; refine wpList_put rfl _ _ 23 rfl iB _ 192 Tryz.underlying23 hiB hzB0 hzB1 hzB2 rfl (by decide) HV4.out.row (fun b hb => Nat.lt_of_lt_of_le hb hB0) (Blk.mk kd lv i t d ti at_ li KS0).d [.int .i64 kd, .int .i64 lv, .string i, .string t, .string d, .string ti, .string at_.id, .slice ac nc cc, .slice ap np cp, .slice al nl cl, .slice a3 n3 c3] XD.out rfl one_elev HDN.out (by omega) (by decide) rfl rfl ?_)
          intro a' c' w9 hrow hg9
          have HROW := Lib.hid hrow
          rw [← HX2.out] at HROW
          clear hrow hg9
          go_wp2
          go_roundw
          case rel => exact ⟨k + 1, _, by omega, by go_num, HROW.out⟩
          case measure => simp [intOf]; omega
      · have hkl : k = l.length := by omega
        subst hkl
        rw [List.take_length] at HDS
        go_wp2
        go_ret
        have h1 := HROW.out.rd
        rw [HDS.out] at h1
        exact ⟨.slice av m cv, rfl, h1.weaken (fun b hb => hb.imp _root_.id (fun h => by have := B0.out.size; omega)), below_trans_size B0.out HROW.out.bel⟩
end Go.Proofs.YtlbioncagkkkoaaGreatDoor
