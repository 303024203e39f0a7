/- publisherref21.Anchors: the document in which headings have the next anchors. -/
import Derived.Test.YtjolhiofllpejaaDoorRIds
import Derived.Test.YtjolhiofllpejaaDoorGive
import Derived.Test.YtjolhiofllpejaaDoorRAll
import Derived.Test.YtjolhiofllpejaaDoorRPlain
import Derived.Test.YtjolhiofllpejaaDoorAnch
import Derived.Deep.RegionWith
namespace Go.Proofs.YtjolhiofllpejaaDoor
open Go.RowKit
set_option linter.unusedVariables false

theorem textB_snoc (l : List Blk) (k : Nat) (kd lv : Int) (i t d ti : ByteArray) (at_ : At) (li : List Inl) (ks : List Blk) (h : l[k]? = some (.mk kd lv i t d ti at_ li ks)) :
    textB (l.take (k + 1)) = textB (l.take k) ++ (if kd = 2 ∧ at_.id.data.toList = [] then [⟨(Inl.plainL li).toArray⟩] else []) := by
  unfold textB
  rw [List.take_add_one, h, List.filterMap_append]
  simp only [Option.toList_some, List.filterMap_cons, List.filterMap_nil, Blk.tx1]
  by_cases h1 : at_.id.data.toList = [] <;> by_cases h2 : kd = 2 <;> simp [h1, h2]
theorem textB_le (l : List Blk) (k : Nat) : (textB (l.take k)).length ≤ k := Nat.le_trans (List.length_filterMap_le _ _) (by simp; omega)
def RxRel (w2 : World) (bs : List Blk) (v vi : Value) (wr : World) : Prop := ∃ k : Nat, k ≤ bs.length ∧ vi = .int .i64 k ∧ SRow w2 (textB (bs.take k)) v wr

set_option maxRecDepth 100000 in
set_option maxHeartbeats 4000000 in
theorem rAnchors_any (me : List Pr) (l : List Blk) (vm vb : Value) (w : World) (hm : Rd (· < w.heap.size) w (prsD me) [vm]) (hb : Rd (· < w.heap.size) w (blksD l) [vb])
    (hsz : Blk.szL l ≤ 50000) (hln : (Blk.inlsL l).length ≤ 50000) (hpl : ∀ b ∈ Blk.eachL l, b.plLen ≤ 100000000) (hts : ∀ x ∈ textB (Blk.eachL l), x.size ≤ 100000000) :
    Calls Tryd.prog 17 #[.agg #[vm, vb]] w fun e w' => ∃ vb', e = .returned (.agg #[vm, vb']) ∧ Rd (· < w'.heap.size) w' (blksD (Blk.nameL l (allA (textB (Blk.eachL l)) (Blk.idsL l))).1) [vb'] ∧ Below w.heap.size w w' := by
  obtain ⟨am, nm, cm, rfl⟩ := Rd.slf hm
  obtain ⟨ab, nb, cb, rfl⟩ := Rd.slf hb
  obtain ⟨i0, hi0, hz0, hz1, hz2⟩ := info_parts infoS
  obtain ⟨S, hS⟩ : ∃ S, S = w.heap.size := ⟨_, rfl⟩
  rw [← hS] at hm hb
  obtain ⟨w1, hw1⟩ : ∃ w1, w1 = (w.alloc (.cells #[.slice am nm cm, .slice ab nb cb] 32)).alloc (.cells #[.slice none 0 0, .slice none 0 0] 32) := ⟨_, rfl⟩
  have hb1 : Below S w w1 := by rw [hw1, hS]; exact ((Below.refl _ _).alloc (Nat.le_refl _) _).alloc (by simp) _
  have k1 : CB 32 S [.slice am nm cm, .slice ab nb cb] w1 := by
    rw [hw1, hS]; exact (CB.new _ _ _).below ((Below.refl _ _).alloc (Nat.le_refl _) _)
  have k2 : CB 32 (S + 1) [.slice none 0 0, .slice none 0 0] w1 := by
    rw [hw1, hS]
    have := CB.new 32 [.slice none 0 0, .slice none 0 0] (w.alloc (.cells #[.slice am nm cm, .slice ab nb cb] 32))
    rwa [World.size_alloc] at this
  have hs1 : w1.heap.size = S + 2 := by rw [hw1, hS]; simp
  have x1 := k1.cell 1 _ rfl
  have LS := Lib.hid (list_any (Blk.szL l) l S _ w1 (Nat.le_refl _) (by omega) (Rd.keep (fun b h1 h2 => ⟨h1, hb1.block b h1⟩) _ _ hb) (by omega))
  have HK1 := Lib.hid k1
  have HK2 := Lib.hid k2
  have HB1 := Lib.hid hb1
  have HB := Lib.hid hb
  have HPL := Lib.hid hpl
  have HTS := Lib.hid hts
  clear hm k1 k2 hb1 hb hpl hts
  go_enter Tryd.func17, Tryd.ntmps17
  go_upto_region 1 with (fail)
  rw [← hS, ← hw1]
  have HSE := Lib.hid hS
  clear hw1 hS
  go_wp2_with fail
  refine LS.out.mono ?_
  rintro e w2 ⟨v2, rows, rfl, hrow⟩
  have hb2 := hrow.bel
  have hs2 := hb2.size
  have HS2 : Hid (Rd (· < w2.heap.size) w2 (blksD (Blk.eachL l)) [v2]) := Rd.sl_own hrow.own (RdL.keep (fun b h1 h2 => ⟨h2, rfl⟩) _ _ hrow.red) hrow.len (fun g hg => (hrow.own.lt g hg).2)
  have hel := Blk.eachL_sz l
  obtain ⟨bs, hbs⟩ : ∃ bs, bs = Blk.eachL l := ⟨_, rfl⟩
  rw [← hbs] at HS2 hel HPL HTS
  obtain ⟨a2, c2, hv2, hsl2⟩ := Rd.sl_open HS2.out
  obtain rfl : v2 = .slice a2 bs.length c2 := by simpa using hv2
  have hc2 : bs.length ≤ c2 := by simpa using hsl2.le
  have hm2 := hsl2.max
  unfold maxLen at hm2
  have HSL := Lib.hid hsl2
  have HBS := Lib.hid hbs
  have HW2 := Lib.hid hb2
  have R0 : Hid (RxRel w2 bs (.slice none 0 0) (.int .i64 0) w2) := ⟨0, Nat.zero_le _, rfl, by rw [List.take_zero]; exact SRow.nil _⟩
  clear hrow hb2 hbs hv2 hsl2 LS x1
  go_wp2
  go_loopw [3, 5] (fun v vi wr => RxRel w2 bs v vi wr) (fun _ i _ => bs.length - (intOf i).toNat)
  case atStart => exact R0.out
  case round =>
    clear R0
    obtain ⟨k, hk, rfl, hrow⟩ := hrel
    obtain ⟨av, cv, hve⟩ := own_slice hrow.own
    subst hve
    have htl := textB_le bs k
    by_cases hlt : k < bs.length
    · obtain ⟨x, hx⟩ : ∃ x, bs[k]? = some x := ⟨_, List.getElem?_eq_getElem hlt⟩
      obtain ⟨kd, lv, inf, t, d, ti, at_, li, ks⟩ := x
      obtain ⟨g, off, vc, vp, vl, vk, rfl, hok, hbl, hc, hR⟩ := blks_at HSL.out hx
      obtain ⟨al, nl, cl, rfl⟩ := Rd.slf hR.line
      obtain ⟨ac, nc, cc, rfl⟩ := Rd.slf hR.at_.cls
      obtain ⟨ap, np, cp, rfl⟩ := Rd.slf hR.at_.prs
      obtain ⟨ak, nk, ck, rfl⟩ := Rd.slf hR.kids
      obtain ⟨p0, p1, p2, p3, p4, p5, p6, p7, p8, p9, p10⟩ := hc.at4 (w' := wr) (hrow.bel.block g hbl)
      have HSN := Lib.hid (textB_snoc bs k _ _ _ _ _ _ _ _ _ hx)
      have hpl : (Inl.plainL li).length ≤ 100000000 := HPL.out _ (List.mem_of_getElem? hx)
      obtain ⟨tb, htb⟩ : ∃ tb, tb = textB (bs.take k) := ⟨_, rfl⟩
      rw [← htb] at hrow htl HSN ⊢
      have HTB := Lib.hid htb
      have HROW := Lib.hid hrow
      have HR := Lib.hid hR
      clear hx hc hR hrow htb
      have notHead : ∀ (h : ¬ (kd = 2 ∧ at_.id.data.toList = [])), RxRel w2 bs (.slice av tb.length cv) (.int .i64 ((k : Int) + 1)) wr := fun h =>
        ⟨k + 1, by omega, by go_num, by rw [HSN.out, if_neg h, List.append_nil]; exact HROW.out⟩
      have HNO := Lib.hid notHead
      clear notHead
      by_cases h2 : kd = 2
      · subst h2
        by_cases h0 : at_.id.data.toList = []
        · have q2 : at_.id.toList.isEmpty = true := by rw [Lib.toList_data, h0]; rfl
          have HP := Lib.hid (rPlain_any (Inl.szL li) li (· < w2.heap.size) (.slice al nl cl) wr (Nat.le_refl _) (Rd.keep (fun b h1 h2 => ⟨h1, HROW.out.bel.block b h1⟩) _ _ HR.out.line) (by omega))
          have HO := Lib.hid HROW.out.own
          have hws := HROW.out.bel.size
          go_wp2_with fail
          refine HP.out.mono ?_
          rintro e wp ⟨rfl, rfl⟩
          go_wp2_with (at_builtin; refine wpList_append_any _ rfl (.tmp 32) (.tmp 39) 25 rfl w2.heap.size 9 i0 _ 1 16 Tryd.underlying25 hi0 hz0 hz1 hz2 rfl (by decide) (.slice av tb.length cv) tb.length (tb.map Value.string) rfl (HO.out.alloc _) (wr.heap.size + 1) (some ⟨wr.heap.size, 0, none⟩) 1 1 [.string ⟨(Inl.plainL li).toArray⟩] rfl ?g1 ?g2 ?g3 ?g4 ?g5 ?_)
          case g1 => exact ⟨rfl, fun _ => ⟨_, rfl, by simp, new_cells wr [.string ⟨(Inl.plainL li).toArray⟩] _⟩⟩
          case g2 => intro u hu; simp at hu; subst hu; rfl
          case g3 => unfold maxLen; omega
          case g4 => omega
          case g5 => simp; omega
          intro v1 w1' hown1 hg1 _
          obtain ⟨a1, c1, rfl⟩ := own_slice hown1
          have R1 := Lib.hid ((HROW.out.up ((Below.refl _ _).alloc (Nat.le_refl _) _)).grown (ys := tb ++ [⟨(Inl.plainL li).toArray⟩]) (by simpa using hown1) hg1)
          clear hown1 hg1 p0 p1 p2 p3 p4 p5 p6 p7 p8 p9 p10 HO HP
          go_wp2_with fail
          go_roundw
          case rel => exact ⟨k + 1, by omega, by go_num, by rw [HSN.out, if_pos (by simp [h0])]; exact R1.out⟩
          case measure => simp [intOf]; omega
        · have q2 : at_.id.toList.isEmpty = false := by rw [Lib.toList_data]; cases h : at_.id.data.toList <;> simp_all
          have hno := HNO.out (fun h => h0 h.2)
          clear HNO
          go_wp2_with fail
          go_roundw
          case rel => exact hno
          case measure => simp [intOf]; omega
      · have q1 : (kd == 2) = false := beq_false_of_ne h2
        have hno := HNO.out (fun h => h2 h.1)
        clear HNO
        go_wp2_with fail
        go_roundw
        case rel => exact hno
        case measure => simp [intOf]; omega
    · have hkl : k = bs.length := by omega
      subst hkl
      rw [List.take_length] at hrow htl ⊢
      obtain ⟨tb, htb⟩ : ∃ tb, tb = textB bs := ⟨_, rfl⟩
      rw [← htb] at hrow htl HTS ⊢
      have hbw1 : Below w1.heap.size w1 wr := below_trans_size HW2.out hrow.bel
      have k1 := HK1.out.below hbw1
      have k2 := HK2.out.below hbw1
      have x1 := k1.cell 1 _ rfl
      have hz1 := hbw1.size
      have bD : Below wr.heap.size wr wr.drew := ⟨rfl, rfl, rfl, Nat.le_refl _, fun _ _ => rfl⟩
      have hSw : Below S w wr := HB1.out.trans (hbw1.mono (by omega))
      have hdl := Blk.idsL_len l
      have IK := Lib.hid (ids_any (Blk.szL l + (Blk.inlsL l).length) l S (.slice ab nb cb) wr.drew (Nat.le_refl _) (by omega) (Rd.keep (w := w) (w' := wr.drew) (fun b h1 h2 => ⟨h1, hSw.block b h1⟩) _ _ HB.out) (by show S ≤ wr.heap.size; omega))
      have AL : Hid (∀ w3 a3 c3, SRow wr.drew (Blk.idsL l) (.slice a3 (Blk.idsL l).length c3) w3 → Calls Tryd.prog 13 #[.slice av tb.length cv, .slice a3 (Blk.idsL l).length c3] w3 fun e w' => ∃ v, e = .returned v ∧ w'.ownsRow w3.heap.size 9 1 v (allA tb (Blk.idsL l)).length ((allA tb (Blk.idsL l)).map Value.string) ∧ Below w3.heap.size w3 w') := fun w3 a3 c3 h =>
        rAll_any tb (Blk.idsL l) _ _ w3 ((Sees.of_own hrow.own).below (w := wr) (w' := w3) (bD.trans h.bel)) (Sees.of_own h.own) (by omega) (by omega) HTS.out
      have hbare : Blk.bareL l ≤ (allA tb (Blk.idsL l)).length := by rw [allA_len, htb, HBS.out]; rw [textB_eachL]; exact Nat.le_refl _
      have GV : Hid (∀ w3 w4 a4 c4, Below wr.drew.heap.size wr.drew w3 → w4.ownsRow w3.heap.size 9 1 (.slice a4 (allA tb (Blk.idsL l)).length c4) (allA tb (Blk.idsL l)).length ((allA tb (Blk.idsL l)).map Value.string) → Below w3.heap.size w3 w4 → Calls Tryd.prog 43 #[.slice ab nb cb, .slice a4 (allA tb (Blk.idsL l)).length c4] w4 (GvPost S w4.heap.size w4 l (allA tb (Blk.idsL l)))) := fun w3 w4 a4 c4 h3 ho h4 => by
        have hb4 : Below S w w4 := hSw.trans ((below_trans_size (below_trans_size bD h3) h4).mono (by omega))
        refine give_any (Blk.szL l) l S w4.heap.size _ _ _ w4 (Nat.le_refl _) (by omega) (Rd.keep (w := w) (fun b h1 h2 => ⟨h1, hb4.block b h1⟩) _ _ HB.out) ?_ ?_ (Nat.le_refl _) hbare
        · have := (below_trans_size (below_trans_size bD h3) h4).size; omega
        · obtain ⟨-, a', cap', hv, hn, hm, -⟩ := Sees.of_own ho
          simp only [Value.slice.injEq] at hv
          obtain ⟨rfl, -, rfl⟩ := hv
          exact ⟨a4, c4, rfl, hn, hm, Reads.of_own ho⟩
      have K1D := Lib.hid (k1.below bD)
      have K2D := Lib.hid (k2.below bD)
      have y1 := K1D.out.cell 1 _ rfl
      have HSW := Lib.hid (hSw.trans (bD.mono (by omega)))
      obtain ⟨X, hX⟩ : ∃ X, X = allA tb (Blk.idsL l) := ⟨_, rfl⟩
      rw [← hX] at AL GV
      have HX : Hid (X = allA (textB (Blk.eachL l)) (Blk.idsL l)) := by show _ = _; rw [hX, htb, HBS.out]
      clear hX hbare
      have HTB2 := Lib.hid htb
      clear hrow k1 k2 bD hSw hbw1 hdl htb
      go_upto_region 8 with (fail)
      go_region_with (first
        | (go_at_call 44; refine IK.out.mono ?_; rintro e w3 ⟨v3, rfl, hr3⟩; obtain ⟨a3, c3, rfl⟩ := own_slice hr3.own; have k3 := K1D.out.below hr3.bel; have z1 := k3.cell 1 _ rfl)
        | (go_at_call 13; refine (AL.out w3 a3 c3 hr3).mono ?_; rintro e w4 ⟨v4, rfl, ho4, b4⟩; obtain ⟨a4, c4, rfl⟩ := own_slice ho4; have k4 := CB.below k3 b4; have z2 := k4.cell 1 _ rfl)
        | (go_at_call 43; refine (GV.out w3 w4 a4 c4 hr3.bel ho4 b4).mono ?_; rintro e w5 ⟨v5, vs5, rfl, hk5, -, b5⟩; obtain ⟨a5, n5, c5, rfl⟩ := Rd.sl_form hk5))
      all_goals
        have k5 := k4.below b5
        have j5 := ((K2D.out.below hr3.bel).below b4).below b5
        have u0 := k5.cell 0 _ rfl
        have h0 := j5.cell 0 _ rfl
        have h1 := j5.cell 1 _ rfl
        have f0 := j5.free 0
        have f1 := j5.free 1
        have j6 := Lib.hid ((j5.set 0 (.slice am nm cm)).set 1 (.slice a5 n5 c5))
        have hbz : Below S w w5 := HSW.out.trans ((below_trans_size (below_trans_size hr3.bel b4) b5).mono (by have := HSW.out.size; show S ≤ wr.heap.size; omega))
        have HBZ := Lib.hid hbz
        have HK5 := Lib.hid hk5
        have hs5 := hbz.size
        have HS4 : Hid (S + 2 ≤ w4.heap.size) := by have h1 := hr3.bel.size; have h2 := b4.size; have h3 : wr.drew.heap.size = wr.heap.size := rfl; show S + 2 ≤ w4.heap.size; omega
        clear hk5 hr3 ho4 b4 b5 k3 k4 k5 j5 hbz
        go_wp2
        have q0 := j6.out.cell 0 _ rfl
        have q1 := j6.out.cell 1 _ rfl
        have hlt6 := j6.out.lt
        refine bodyPost_ret (v := .agg #[.slice am nm cm, .slice a5 n5 c5]) (by simp [results, Tryd.results17, go_sem, q0, q1]) rfl ⟨_, rfl, ?_, ?_⟩
        · rw [← HX.out]
          refine Rd.keep (fun b hb hlt' => ⟨?_, ?_⟩) _ _ HK5.out
          · simpa [World.setCell] using hlt'
          · have hne : b ≠ S + 1 := by have := HS4.out; omega
            exact (Below.heap_setCell _ ⟨S + 1, 1, none⟩ _ b hne).trans (Below.heap_setCell _ ⟨S + 1, 0, none⟩ _ b hne)
        · rw [← HSE.out]; exact below_set (below_set HBZ.out (by omega)) (by omega)
end Go.Proofs.YtjolhiofllpejaaDoor
