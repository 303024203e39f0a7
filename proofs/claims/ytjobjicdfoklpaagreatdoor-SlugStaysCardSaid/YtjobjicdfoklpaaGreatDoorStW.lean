/- Proved: the tied card of publisherlaw21.SlugStays: it returns true at every document, and the argument reads as before; the tables of the library are what the program's text lays. No other condition. -/
import Derived.Test.YtjobjicdfoklpaaGreatDoorRpF
import Derived.Test.YtjobjicdfoklpaaGreatDoorPlStays
import Derived.Test.YtjobjicdfoklpaaGreatDoorAnch
import Derived.Test.YtjobjicdfoklpaaGreatDoorAwakeS
import Derived.Test.YtjobjicdfoklpaaGreatDoorSmPl
import Derived.Test.YtjobjicdfoklpaaGreatDoorRList
import Derived.Test.YtjobjicdfoklpaaGreatDoorSameBl
import Derived.Test.YtjobjicdfoklpaaGreatDoorLaid5
import Derived.ShutString
import Derived.SevenTiedAt
import Derived.ChangeOld
import Derived.Deep.RegionHeld3
import Derived.Deep.RegionWith
import Derived.Deep.DeepCutAuto
namespace Go.Proofs.YtjobjicdfoklpaaGreatDoor.LawSlugStays
open Go.ChangeShapes Go.WideShapes Go.ChangeAt Go.RowKit
set_option linter.unusedVariables false
set_option linter.unusedSimpArgs false

theorem any_lt {ok : Nat → Prop} {w : World} {k : Nat} {l : List D} {v : Value} (h : Rd ok w (.sl k l) [v]) : Rd (· < w.heap.size) w (.sl k l) [v] := Rd.keep (fun b _ h2 => ⟨h2, rfl⟩) _ _ h
theorem rList_rd (l : List Blk) (v : Value) (w : World) (hn : Blk.szL l ≤ 1000000) (h : Rd (· < w.heap.size) w (blksD l) [v]) :
    Calls Tryz.prog 28 #[v] w fun e w' => ∃ a c, e = .returned (.slice a (Blk.eachL l).length c) ∧ Rd (· < w'.heap.size) w' (blksD (Blk.eachL l)) [.slice a (Blk.eachL l).length c] ∧ Below w.heap.size w w' := by
  refine (list_any _ l w.heap.size v w (Nat.le_refl _) hn h (Nat.le_refl _)).mono ?_
  rintro e w' ⟨v', rows, rfl, hr⟩
  have ho := hr.own
  rw [List.length_map] at ho
  obtain ⟨a, c, rfl⟩ := own_slice ho
  refine ⟨a, c, rfl, ?_, hr.bel⟩
  unfold blksD
  refine Rd.sl_own (rows := rows) (B := w.heap.size) (e := 54) ?_ ?_ hr.len ?_
  · rw [List.length_map]; exact ho
  · exact RdL.keep (fun b h1 h2 => ⟨h2, rfl⟩) _ _ hr.red
  · intro g hg; exact (ho.lt g hg).2
theorem name_nonE {x : ByteArray} (h : nameOk x = true) : nonE x ∧ x.size ≤ 600 := by
  unfold nameOk at h
  simp only [Bool.and_eq_true, decide_eq_true_eq] at h
  obtain ⟨⟨⟨h1, h2⟩, -⟩, -⟩ := h
  refine ⟨?_, by omega⟩
  intro e
  have h3 : x.size = x.data.toList.length := by rw [Array.length_toList]; rfl
  rw [e, List.length_nil] at h3
  omega
mutual
theorem small_name : ∀ (x : Blk) (A : List ByteArray), x.bare ≤ A.length → (∀ a ∈ A, a.size ≤ 600) → x.small → (x.name A).1.small
  | .mk k lv i t d ti a li ks, A, hb, hA, h => by
    rw [Blk.bare] at hb
    unfold Blk.small at h
    obtain ⟨h1, h2, h3, h4, h5, h6, h7, h8⟩ := h
    rw [Blk.name]
    by_cases hc : k = 2 ∧ a.id.data.toList = []
    · rw [if_pos hc] at hb ⊢
      show Blk.small (.mk k lv i t d ti { a with id := A.headD a.id } li (Blk.nameL ks A.tail).1)
      unfold Blk.small
      refine ⟨h1, h2, h3, h4, ?_, h6, h7, smallL_name ks A.tail (by rw [List.length_tail]; omega) (fun b hb => hA b (List.mem_of_mem_tail hb)) h8⟩
      unfold At.short at h5 ⊢
      exact ⟨h5.1, h5.2.1, head_all (p := fun b => b.size ≤ 600) hA (by omega), h5.2.2.2⟩
    · rw [if_neg hc] at hb ⊢
      show Blk.small (.mk k lv i t d ti a li (Blk.nameL ks A).1)
      unfold Blk.small
      exact ⟨h1, h2, h3, h4, h5, h6, h7, smallL_name ks A (by omega) hA h8⟩
theorem smallL_name : ∀ (l : List Blk) (A : List ByteArray), Blk.bareL l ≤ A.length → (∀ a ∈ A, a.size ≤ 600) → Blk.smallL l → Blk.smallL (Blk.nameL l A).1
  | [], A, hb, hA, h => by rw [Blk.nameL]; exact h
  | x :: l, A, hb, hA, h => by
    rw [Blk.bareL] at hb
    unfold Blk.smallL at h
    rw [Blk.nameL]
    show Blk.smallL ((x.name A).1 :: (Blk.nameL l (x.name A).2).1)
    unfold Blk.smallL
    refine ⟨small_name x A (by omega) hA h.1, ?_⟩
    rw [Blk.name_drop]
    exact smallL_name l _ (by rw [List.length_drop]; omega) (drop_all _ hA) h.2
end
/-- What stands of the anchors of a small document. -/
theorem anch_facts {me : List Pr} {l : List Blk} (h : DocSm me l) : Blk.bareL l ≤ (allA (textB (Blk.eachL l)) (usedB (Blk.eachL l) ++ usedI (Blk.inlsL l))).length ∧ (∀ a ∈ (allA (textB (Blk.eachL l)) (usedB (Blk.eachL l) ++ usedI (Blk.inlsL l))), nameOk a = true) ∧ DocSm me (Blk.nameL l (allA (textB (Blk.eachL l)) (usedB (Blk.eachL l) ++ usedI (Blk.inlsL l)))).1 ∧ Blk.bareL (Blk.nameL l (allA (textB (Blk.eachL l)) (usedB (Blk.eachL l) ++ usedI (Blk.inlsL l)))).1 = 0 := by
  have hall := h.all
  have hsz := Blk.allL_sz l
  have hlen : (allA (textB (Blk.eachL l)) (usedB (Blk.eachL l) ++ usedI (Blk.inlsL l))).length = Blk.bareL l := by rw [allA_len, textB_eachL]
  have hN : ∀ a ∈ (allA (textB (Blk.eachL l)) (usedB (Blk.eachL l) ++ usedI (Blk.inlsL l))), nameOk a = true := by
    intro a ha
    obtain ⟨k, hk, rfl⟩ := List.getElem_of_mem ha
    refine (allA_each _ _ k _ (List.getElem?_eq_getElem hk) ?_).1
    have h1 := List.length_filterMap_le Blk.tx1 (Blk.eachL l)
    have h2 := List.length_filterMap_le Blk.id1 (Blk.eachL l)
    have h3 := List.length_filterMap_le Inl.id1 (Blk.inlsL l)
    have h4 := Blk.eachL_len l
    unfold textB usedB usedI
    rw [List.length_append]
    omega
  have hb : Blk.bareL l ≤ (allA (textB (Blk.eachL l)) (usedB (Blk.eachL l) ++ usedI (Blk.inlsL l))).length := by rw [hlen]; exact Nat.le_refl _
  exact ⟨hb, hN, ⟨h.meta_, h.mets, smallL_name l _ hb (fun a ha => (name_nonE (hN a ha)).2) h.blks, by rw [Blk.allL_name]; exact h.all⟩, Blk.nameL_bare l _ hb (fun a ha => (name_nonE (hN a ha)).1)⟩

/-- Both lists of blocks, read. -/
def LB (L1 L2 : List Blk) (w3 : World) (va vb : Value) (wx : World) : Prop :=
  ∃ a1 c1 a2 c2, va = .slice a1 L1.length c1 ∧ vb = .slice a2 L2.length c2 ∧ Rd (· < wx.heap.size) wx (blksD L1) [va] ∧ Rd (· < wx.heap.size) wx (blksD L2) [vb] ∧ Below w3.heap.size w3 wx

set_option maxRecDepth 100000 in
set_option maxHeartbeats 4000000 in
theorem walk (me : List Pr) (l : List Blk) (vm vb : Value) (w : World) (hm : Rd (· < w.heap.size) w (prsD me) [vm]) (hb : Rd (· < w.heap.size) w (blksD l) [vb])
    (hwm : ∀ p ∈ me, p.wf) (hwl : Blk.wfL l) (ht : PT w) :
    Calls Tryz.prog 8 #[.agg #[vm, vb]] w fun e w' => e = .returned (.bool true) ∧ Below w.heap.size w w' := by
  obtain ⟨am, cm, hvm, hsm⟩ := Rd.sl_open hm
  obtain rfl : vm = .slice am me.length cm := by simpa using hvm
  obtain ⟨ab, cb, hvb, hsb0⟩ := Rd.sl_open hb
  obtain rfl : vb = .slice ab l.length cb := by simpa using hvb
  obtain ⟨w1, hw1⟩ : ∃ w1, w1 = w.alloc (.cells #[.slice am me.length cm, .slice ab l.length cb] 25) := ⟨_, rfl⟩
  have b1 : Below w.heap.size w w1 := by rw [hw1]; exact (Below.refl _ _).alloc (Nat.le_refl _) _
  have k1 : CB 25 w.heap.size [.slice am me.length cm, .slice ab l.length cb] w1 := by rw [hw1]; exact CB.new _ _ _
  have x0 := k1.cell 0 _ rfl
  have x1 := k1.cell 1 _ rfl
  have SA := Lib.hid (small_any me l _ _ w1 (hm.up b1) (hb.up b1) hwm hwl)
  have HM := Lib.hid hm
  have HB := Lib.hid hb
  have K1_ := Lib.hid k1
  have B1_ := Lib.hid b1
  have HT := Lib.hid ht
  clear hm hb hwm hwl hvm hvb hsm hsb0 b1 k1 ht
  go_enter Tryz.func8, Tryz.ntmps8
  (try simp only [List.append_eq, List.cons_append, List.nil_append])
  go_upto_region 1 with (fail)
  rw [← hw1]
  clear hw1
  go_wp2_with fail
  refine SA.out.mono ?_
  rintro e w2 ⟨b, rfl, hsa, b2⟩
  have k2 := K1_.out.below b2
  have K2 := Lib.hid k2
  have B2 := Lib.hid (below_trans_size B1_.out b2)
  clear x0 x1 b2
  have x0 := k2.cell 0 _ rfl
  have x1 := k2.cell 1 _ rfl
  have hS := k2.lt
  clear k2
  cases b with
  | false =>
    clear hsa
    go_wp2_with fail
    refine (awake_any _ (HT.out.below B2.out)).mono ?_
    rintro e w3 ⟨rfl, b3⟩
    have HX := Lib.hid (below_trans_size B2.out b3)
    clear b3
    go_wp2
    go_ret
    exact ⟨rfl, HX.out⟩
  | true =>
  have hds := hsa rfl
  obtain ⟨fb, fN, fD, f0⟩ := anch_facts hds
  obtain ⟨g1, g2, g3, g4, g5, g6, g7⟩ := sm_bounds hds
  have AN := Lib.hid (anchors_any me l _ _ w2 (HM.out.up B2.out) (HB.out.up B2.out) (HT.out.below B2.out) g1 g2 g3 g4 g5 g6 g7)
  have HERR : Hid (docErr closesS me l = 0 → docErr closesS me (Blk.nameL l (allA (textB (Blk.eachL l)) (usedB (Blk.eachL l) ++ usedI (Blk.inlsL l)))).1 = 0) := docErr_name closesS me l _ fb fN
  have HKP : Hid (KeptL (Blk.eachL l) (Blk.eachL (Blk.nameL l (allA (textB (Blk.eachL l)) (usedB (Blk.eachL l) ++ usedI (Blk.inlsL l)))).1)) := Blk.nameL_kept l _
  generalize (Blk.nameL l (allA (textB (Blk.eachL l)) (usedB (Blk.eachL l) ++ usedI (Blk.inlsL l)))).1 = X at *
  have FD := Lib.hid fD
  have FS := Lib.hid hds
  have F0 := Lib.hid f0
  have G3 := Lib.hid g3
  clear hsa SA fb fN fD f0 g1 g2 g3 g4 g5 g6 g7 hds
  go_wp2_with fail
  refine AN.out.mono ?_
  rintro e w3 ⟨vm3, vb3, rfl, hm3, hb3, b3⟩
  obtain ⟨am3, cm3, hvm3, -⟩ := Rd.sl_open hm3
  obtain rfl : vm3 = .slice am3 me.length cm3 := by simpa using hvm3
  obtain ⟨ab3, cb3, hvb3, -⟩ := Rd.sl_open hb3
  obtain rfl : vb3 = .slice ab3 X.length cb3 := by simpa using hvb3
  obtain ⟨w4, hw4⟩ : ∃ w4, w4 = w3.alloc (.cells #[.slice am3 me.length cm3, .slice ab3 X.length cb3] 25) := ⟨_, rfl⟩
  have b4 : Below w3.heap.size w3 w4 := by rw [hw4]; exact (Below.refl _ _).alloc (Nat.le_refl _) _
  have kx : CB 25 w3.heap.size [.slice am3 me.length cm3, .slice ab3 X.length cb3] w4 := by rw [hw4]; exact CB.new _ _ _
  have HM4 := Lib.hid ((any_lt hm3).up b4)
  have HB4 := Lib.hid ((any_lt hb3).up b4)
  have B4 := Lib.hid (below_trans_size (below_trans_size B2.out b3) b4)
  have b24 := below_trans_size b3 b4
  have kd := K2.out.below b24
  have KX := Lib.hid kx
  have KD := Lib.hid kd
  clear x0 x1 AN hm3 hb3 b3 b4 b24 hvm3 hvb3
  have x0 := kd.cell 0 _ rfl
  have x1 := kd.cell 1 _ rfl
  have y0 := kx.cell 0 _ rfl
  have y1 := kx.cell 1 _ rfl
  have hdl := kd.lt
  have hxl := kx.lt
  clear kd kx
  have LA := Lib.hid (fun w' (h : Below w4.heap.size w4 w') => rList_rd l (.slice ab l.length cb) w' (by have := G3.out; omega) (HB.out.up (below_trans_size B4.out h)))
  have hsx : Blk.szL X ≤ 1000000 := by have h1 := Blk.allL_sz X; have h2 := FD.out.all; omega
  have LX := Lib.hid (fun w' (h : Below w4.heap.size w4 w') => rList_rd X (.slice ab3 X.length cb3) w' hsx (HB4.out.up h))
  have hlen := HKP.out.len
  obtain ⟨L1, hL1⟩ : ∃ L1, L1 = Blk.eachL l := ⟨_, rfl⟩
  obtain ⟨L2, hL2⟩ : ∃ L2, L2 = Blk.eachL X := ⟨_, rfl⟩
  have HBR : Hid (∀ y ∈ L2, y.kd = 2 → nonE y.idB) := by show ∀ y ∈ L2, _; rw [hL2]; exact Blk.bareL_each X F0.out
  rw [← hL1] at LA hlen HKP
  rw [← hL2] at LX hlen HKP
  have bD : Below w4.heap.size w4 w4.drew := ⟨rfl, rfl, rfl, Nat.le_refl _, fun _ _ => rfl⟩
  have BD := Lib.hid bD
  have HLN := Lib.hid hlen
  clear hL1 hL2 bD hsx hlen
  go_upto_region 4 with (fail)
  rw [← hw4]
  clear hw4
  go_cut [4, 5] (fun va vx wx => LB L1 L2 w4 va vx wx)
  case first =>
    go_region_with (first
      | (go_at_call 28; (with_reducible refine (LA.out _ (by first | exact BD.out | exact HLB.out)).mono ?_); rintro e wA ⟨aA, cA, rfl, hA, hbA⟩; have HLA := Lib.hid (by first | exact below_trans_size BD.out hbA | exact below_trans_size HLB.out hbA); have kda := KD.out.below HLA.out; have kxa := KX.out.below HLA.out; have z0 := kda.cell 0 _ rfl; have z1 := kda.cell 1 _ rfl; have z2 := kxa.cell 0 _ rfl; have z3 := kxa.cell 1 _ rfl)
      | (go_at_call 28; (with_reducible refine (LX.out _ (by first | exact BD.out | exact HLA.out)).mono ?_); rintro e wB ⟨aB, cB, rfl, hB, hbB⟩; have HLB := Lib.hid (by first | exact below_trans_size BD.out hbB | exact below_trans_size HLA.out hbB); have kda := KD.out.below HLB.out; have kxa := KX.out.below HLB.out; have z0 := kda.cell 0 _ rfl; have z1 := kda.cell 1 _ rfl; have z2 := kxa.cell 0 _ rfl; have z3 := kxa.cell 1 _ rfl))
    all_goals
      clear z0 z1 z2 z3 kda kxa
      go_wp2_with fail
      go_meet
      first
        | exact ⟨_, _, _, _, rfl, rfl, hA.up hbB, hB, HLB.out⟩
        | exact ⟨_, _, _, _, rfl, rfl, hA, hB.up hbA, HLA.out⟩
  case rest =>
    obtain ⟨a1, c1, a2, c2, rfl, rfl, h1, h2, hbc⟩ := hcut
    clear LA LX
    have H1 := Lib.hid h1
    have H2 := Lib.hid h2
    have KDC := Lib.hid (KD.out.below hbc)
    have KXC := Lib.hid (KX.out.below hbc)
    have BC := Lib.hid (below_trans_size B4.out hbc)
    have HM5 := Lib.hid (HM4.out.up hbc)
    have HB5 := Lib.hid (HB4.out.up hbc)
    have hle : ((L1.length : Int) != (L2.length : Int)) = false := by rw [HLN.out]; simp
    obtain ⟨g1, g2, g3, g4, g5, g6, g7⟩ := sm_bounds FD.out
    have AN2 : Hid (∀ w', Below wc.heap.size wc w' → Calls Tryz.prog 27 #[.agg #[.slice am3 me.length cm3, .slice ab3 X.length cb3]] w' fun e w'' => ∃ vm' vb', e = .returned (.agg #[vm', vb']) ∧ Rd (w'.heap.size ≤ ·) w'' (prsD me) [vm'] ∧ Rd (w'.heap.size ≤ ·) w'' (blksD X) [vb'] ∧ Below w'.heap.size w' w'') := by
      intro w' h
      have := anchors_any me X _ _ w' (HM5.out.up h) (HB5.out.up h) (HT.out.below (below_trans_size BC.out h)) g1 g2 g3 g4 g5 g6 g7
      rwa [Blk.nameL_self X _ F0.out] at this
    have bD : Below wc.heap.size wc wc.drew := ⟨rfl, rfl, rfl, Nat.le_refl _, fun _ _ => rfl⟩
    have BD2 := Lib.hid bD
    clear h1 h2 hbc g1 g2 g3 g4 g5 g6 g7 x0 x1 y0 y1 bD BD
    have y0 := KXC.out.cell 0 _ rfl
    have y1 := KXC.out.cell 1 _ rfl
    have hxl2 := KXC.out.lt
    go_upto_region 5 with (fail)
    go_cut [30] (fun v wy => v = .bool false ∧ Below wc.heap.size wc wy)
    case first =>
      go_region_with (first
        | (go_at_call 27; refine (AN2.out _ BD2.out).mono ?_; rintro e w5 ⟨vm5, vb5, rfl, hm5, hb5, b5⟩; obtain ⟨am5, nm5, cm5, rfl⟩ := Rd.slf hm5; obtain ⟨ab5, nb5, cb5, rfl⟩ := Rd.slf hb5; have B5 := Lib.hid (below_trans_size BD2.out b5); have kxb := KXC.out.below B5.out; have z0 := kxb.cell 0 _ rfl; have z1 := kxb.cell 1 _ rfl; clear kxb)
        | (go_at_call 15; refine (same_eq me X _ _ _ _ w5 (any_lt hm5) (HM5.out.up B5.out) (any_lt hb5) (HB5.out.up B5.out)).mono ?_; rintro e w6 ⟨rfl, b6⟩; have B6 := Lib.hid (below_trans_size B5.out b6)))
      all_goals
        clear hm5 hb5 b5 b6
        go_wp2_with fail
        go_meet
        exact ⟨rfl, B6.out⟩
    case rest =>
      obtain ⟨rfl, hcut⟩ := hcut
      have BY := Lib.hid hcut
      have BYW := Lib.hid (below_trans_size BC.out hcut)
      have H1Y := Lib.hid (H1.out.up hcut)
      have H2Y := Lib.hid (H2.out.up hcut)
      have KDY := Lib.hid (KDC.out.below hcut)
      have KXY := Lib.hid (KXC.out.below hcut)
      have HMY := Lib.hid (HM5.out.up hcut)
      have HBY := Lib.hid (HB5.out.up hcut)
      clear hcut AN2 y0 y1 H1 H2 KDC KXC HM5 HB5 hxl2
      obtain ⟨a1', c1', hv1, hs1⟩ := Rd.sl_open H1Y.out
      obtain ⟨rfl, rfl⟩ : a1 = a1' ∧ c1 = c1' := by simpa using hv1
      obtain ⟨a2', c2', hv2, hs2⟩ := Rd.sl_open H2Y.out
      obtain ⟨rfl, rfl⟩ : a2 = a2' ∧ c2 = c2' := by simpa using hv2
      have HS1 := Lib.hid hs1
      have HS2 := Lib.hid hs2
      have hc1 : L1.length ≤ c1 := by simpa using hs1.le
      have hc2 : L2.length ≤ c2 := by simpa using hs2.le
      have hm1 := hs1.max
      have hm2 := hs2.max
      unfold maxLen at hm1 hm2
      have R0 : Hid (∃ k q : Nat, k ≤ L1.length ∧ Value.int .i64 0 = .int .i64 k ∧ wc = wc.drewN q) := ⟨0, 0, Nat.zero_le _, rfl, rfl⟩
      clear hs1 hs2 hv1 hv2
      go_wp2
      go_loopw [6] (fun vi wr => ∃ k q : Nat, k ≤ L1.length ∧ vi = .int .i64 k ∧ wr = wc.drewN q) (fun vi _ => L1.length - (intOf vi).toNat)
      case atStart => exact R0.out
      case round =>
        clear R0
        obtain ⟨k, q, hk, rfl, rfl⟩ := hrel
        by_cases hlt : k < L1.length
        · obtain ⟨x, hx⟩ : ∃ x, L1[k]? = some x := ⟨_, List.getElem?_eq_getElem hlt⟩
          have hlt2 : k < L2.length := by have := HLN.out; omega
          obtain ⟨y, hy⟩ : ∃ y, L2[k]? = some y := ⟨_, List.getElem?_eq_getElem hlt2⟩
          have hkp := HKP.out.get hx hy
          have hbr := HBR.out y (List.mem_of_getElem? hy)
          obtain ⟨kd, lv, i, t, d, ti, at_, li, ks⟩ := x
          obtain ⟨kd', lv', i', t', d', ti', at', li', ks'⟩ := y
          obtain ⟨b, off, vc, vp, vl, vk, rfl, hok, hbl, hc, hR⟩ := blks_at HS1.out hx
          obtain ⟨b', off', vc', vp', vl', vk', rfl, hok', hbl', hc', hR'⟩ := blks_at HS2.out hy
          obtain ⟨id, cls, prs⟩ := at_
          obtain ⟨id', cls', prs'⟩ := at'
          have c0 : wc.cell? ⟨b', off' + k * 11, none⟩ = some (.int .i64 kd') := hc'.c0
          have c6' : wc.cell? ⟨b', off' + k * 11 + 6, none⟩ = some (.string id') := hc'.c6
          have c6 : wc.cell? ⟨b, off + k * 11 + 6, none⟩ = some (.string id) := hc.c6
          have hkk : kd' = kd := hkp.1
          have hid : nonE id → id' = id := hkp.2
          have hb2 : kd' = 2 → nonE id' := hbr
          have ge : ∀ s : ByteArray, nonE s → s.toList.isEmpty = false := by
            intro s h
            rw [emp_eq]
            exact decide_eq_false h
          have ge2 : ∀ s : ByteArray, ¬ nonE s → s.toList.isEmpty = true := by
            intro s h
            rw [emp_eq]
            exact decide_eq_true (Classical.not_not.1 h)
          have hcase : ((kd' : Int) == 2) = false ∨ (((kd' : Int) == 2) = true ∧ id'.toList.isEmpty = false) := by
            by_cases h2 : kd' = 2
            · exact .inr ⟨by rw [h2]; rfl, ge _ (hb2 h2)⟩
            · exact .inl (by rw [beq_eq_false_iff_ne]; exact h2)
          have hcase2 : id.toList.isEmpty = true ∨ (id.toList.isEmpty = false ∧ id' = id) := by
            by_cases h2 : nonE id
            · exact .inr ⟨ge _ h2, hid h2⟩
            · exact .inl (ge2 _ h2)
          clear hx hy hkp hbr hc hc' hR hR' hkk hid hb2 ge ge2 hbl hbl' hok hok'
          rcases hcase with e1 | ⟨e1, e2⟩ <;> rcases hcase2 with f1 | ⟨f1, rfl⟩
          all_goals
            (try have f2 : (id'.toList == id'.toList) = true := beq_self_eq_true _)
            (try have f3 : (id'.toList != id'.toList) = false := by simp)
            go_wp2_with fail
            go_quiet (fail)
            go_wp2
            go_roundw
            case rel => exact ⟨k + 1, _, by omega, by go_num, rfl⟩
            case measure => simp [intOf]; omega
        · have bq : Below wc.heap.size wc (wc.drewN q) := below_dN (Below.refl _ _) q
          have KDZ := Lib.hid (KDY.out.below bq)
          have KXZ := Lib.hid (KXY.out.below bq)
          have BZ := Lib.hid (below_trans_size BYW.out bq)
          have x0 := KDZ.out.cell 0 _ rfl
          have x1 := KDZ.out.cell 1 _ rfl
          have hds := FS.out
          have hdx := FD.out
          have a1_ := hds.all
          have a2_ := hds.meta_
          have a3_ := hdx.all
          have CK1 := Lib.hid (rCheck_any me l am ab cm _ cb _ (by omega) (fun p hp => ⟨Nat.le_trans (hds.mets p hp).1 (by decide), Nat.le_trans (hds.mets p hp).2 (by decide)⟩) (by omega) hds.blks (HM.out.up BZ.out) (HB.out.up BZ.out))
          have CK2 := Lib.hid (fun w' (h : Below (wc.drewN q).heap.size (wc.drewN q) w') => tCheck_any closesS me X am3 ab3 cm3 _ cb3 w' (by omega) (fun p hp => ⟨Nat.le_trans (hdx.mets p hp).1 (by decide), Nat.le_trans (hdx.mets p hp).2 (by decide)⟩) (by omega) hdx.blks (fun _ => math_any) ((HMY.out.up bq).up h) ((HBY.out.up bq).up h))
          have HTZ := Lib.hid (HT.out.below BZ.out)
          generalize docErr closesS me l = E at *
          generalize docErr closesS me X = E2 at *
          clear hds hdx bq
          by_cases hE : E = 0
          · obtain rfl : E2 = 0 := HERR.out hE
            subst hE
            go_wp2_with fail
            refine CK1.out.mono ?_
            rintro e w7 ⟨rfl, b7⟩
            have kxz := KXZ.out.below b7
            have z0 := kxz.cell 0 _ rfl
            have z1 := kxz.cell 1 _ rfl
            have B7 := Lib.hid b7
            clear x0 x1 kxz b7
            go_wp2_with fail
            refine (CK2.out _ B7.out).mono ?_
            rintro e w8 ⟨rfl, b8⟩
            have B8 := Lib.hid (below_trans_size B7.out b8)
            clear b8 z0 z1
            go_wp2_with fail
            refine (awake_any _ (HTZ.out.below B8.out)).mono ?_
            rintro e w9 ⟨rfl, b9⟩
            have B9 := Lib.hid (below_trans_size BZ.out (below_trans_size B8.out b9))
            clear b9
            go_wp2
            go_ret
            exact ⟨rfl, B9.out⟩
          · have e0 : ((E : Int) != 0) = true := by rw [bne_iff_ne]; omega
            clear hE
            go_wp2_with fail
            refine CK1.out.mono ?_
            rintro e w7 ⟨rfl, b7⟩
            have B7 := Lib.hid b7
            clear x0 x1 b7
            go_wp2_with fail
            refine (awake_any _ (HTZ.out.below B7.out)).mono ?_
            rintro e w9 ⟨rfl, b9⟩
            have B9 := Lib.hid (below_trans_size BZ.out (below_trans_size B7.out b9))
            clear b9
            go_wp2
            go_ret
            exact ⟨rfl, B9.out⟩

end Go.Proofs.YtjobjicdfoklpaaGreatDoor.LawSlugStays
