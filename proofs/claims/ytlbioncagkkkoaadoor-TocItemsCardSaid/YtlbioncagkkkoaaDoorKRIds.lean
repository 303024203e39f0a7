/- publisherref21.IDs: the identifiers of blocks and of what is in them. -/
import Derived.Test.YtlbioncagkkkoaaDoorKRList
import Derived.Test.YtlbioncagkkkoaaDoorKSmPl
import Derived.Test.YtlbioncagkkkoaaDoorKAppend
namespace Go.Proofs.YtlbioncagkkkoaaDoor
open Go.RowKit
set_option linter.unusedVariables false
set_option linter.unusedSimpArgs false

/-- A row of one's own with texts, built since w0. -/
structure SRow (w0 : World) (xs : List ByteArray) (v : Value) (w : World) : Prop where
  own : w.ownsRow w0.heap.size 9 1 v xs.length (xs.map Value.string)
  bel : Below w0.heap.size w0 w
section
variable {w0 w w1 w2 : World} {xs ys : List ByteArray} {v v' : Value}
theorem SRow.nil (w0 : World) : SRow w0 [] (.slice none 0 0) w0 := ⟨⟨by simp, .inl ⟨rfl, rfl⟩⟩, Below.refl _ _⟩
theorem SRow.up (h : SRow w0 xs v w) (hb : Below w.heap.size w w1) : SRow w0 xs v w1 := ⟨own_below h.own hb, below_trans_size h.bel hb⟩
theorem SRow.grown (h : SRow w0 xs v w) (hown : w1.ownsRow w0.heap.size 9 1 v' ys.length (ys.map Value.string)) (hg : w.grownBy w1 v.ownBlock) : SRow w0 ys v' w1 := by
  refine ⟨hown, ?_⟩
  have hb := h.bel
  have hne : ∀ b, b < w0.heap.size → some b ≠ v.ownBlock := fun b hlt e => by have := (h.own.lt b e.symm).1; omega
  exact ⟨hg.os.trans hb.os, hg.tape.trans hb.tape, hg.output.trans hb.output, Nat.le_trans hb.size hg.size, fun b hlt => (hg.block b (Nat.lt_of_lt_of_le hlt hb.size) (hne b hlt)).trans (hb.block b hlt)⟩
end
/-- A row of inlines of one's own: the cells of its k-th. -/
theorem row_inl {ok : Nat → Prop} {W wr : World} {B : Nat} {v : Value} {inl : List Inl} {rows : List (List Value)} (hown : wr.ownsRow B 38 10 v inl.length rows.flatten) (hrd : RdL ok W (inl.map Inl.d) rows) (h10 : ∀ r ∈ rows, r.length = 10)
    {k : Nat} {kd : Int} {t d ti : ByteArray} {at_ : At} {ar : List ByteArray} {ci : List Ci} {ks : List Inl} (hx : inl[k]? = some (.mk kd t d ti at_ ar ci ks)) :
    ∃ g cap ac nc cc ap np cp aa na ca ai ni ci ak nk ck, v = .slice (some ⟨g, 0, none⟩) inl.length cap ∧ InCells wr g (k * 10) kd t d ti at_.id (.slice ac nc cc) (.slice ap np cp) (.slice aa na ca) (.slice ai ni ci) (.slice ak nk ck) := by
  have hlt : k < inl.length := (List.getElem?_eq_some_iff.1 hx).1
  obtain ⟨r, hr, hrd1⟩ := hrd.get k _ (by rw [List.getElem?_map, hx]; rfl)
  obtain ⟨vc, vp, va, vi, vk, hcs, hR⟩ := Inl.open_ hrd1
  obtain ⟨ac, nc, cc, rfl⟩ := Rd.sl_form hR.at_.cls
  obtain ⟨ap, np, cp, rfl⟩ := Rd.sl_form hR.at_.prs
  obtain ⟨aa, na, ca, rfl⟩ := Rd.sl_form hR.args
  obtain ⟨ai, ni, ci, rfl⟩ := Rd.sl_form hR.cites
  obtain ⟨ak, nk, ck, rfl⟩ := Rd.sl_form hR.kids
  obtain ⟨g, cap, rfl, hcap⟩ := own_form hown (by omega)
  refine ⟨g, cap, ac, nc, cc, ap, np, cp, aa, na, ca, ai, ni, ci, ak, nk, ck, rfl, InCells.of hcs fun j u hu => ?_⟩
  have hf := flat_get 10 rows h10 k j r u hr hu
  have hj : j < 10 := by
    have h5 := (List.getElem?_eq_some_iff.1 hu).1
    have := h10 r (List.mem_of_getElem? hr)
    omega
  exact (hown.cellAt (k * 10 + j) (by omega)).trans hf
theorem usedI_snoc' (l : List Inl) (k : Nat) (kd : Int) (t d ti : ByteArray) (at_ : At) (ar : List ByteArray) (ci : List Ci) (ks : List Inl) (h : l[k]? = some (.mk kd t d ti at_ ar ci ks)) : usedI (l.take (k + 1)) = usedI (l.take k) ++ idL at_ := by
  unfold usedI idL
  rw [List.take_add_one, h, List.filterMap_append]
  simp only [Option.toList_some, List.filterMap_cons, List.filterMap_nil, Inl.id1]
  by_cases h : at_.id.data.toList = []
  · simp only [if_pos h]
  · simp only [if_neg h]

def IdRel (w : World) (l : List Blk) (v vi : Value) (wr : World) : Prop := ∃ k : Nat, k ≤ l.length ∧ vi = .int .i64 k ∧ SRow w (Blk.idsL (l.take k)) v wr
def IeRel (w : World) (base : List ByteArray) (xs : List Inl) (rows : List (List Value)) (B : Nat) (v2 : Value) (v vi : Value) (wr : World) : Prop :=
  ∃ k : Nat, k ≤ xs.length ∧ vi = .int .i64 k ∧ SRow w (base ++ usedI (xs.take k)) v wr ∧ wr.ownsRow B 38 10 v2 xs.length rows.flatten ∧ (∀ g, v2.ownBlock = some g → v.ownBlock ≠ some g)

set_option maxRecDepth 100000 in
set_option maxHeartbeats 4000000 in
theorem ids_any (n : Nat) : ∀ (l : List Blk) (B : Nat) (v : Value) (w : World), Blk.szL l + (Blk.inlsL l).length ≤ n → n ≤ 200000 → Rd (· < B) w (blksD l) [v] → B ≤ w.heap.size →
    Calls Tryd.prog 11 #[v] w fun e w' => ∃ v', e = .returned v' ∧ SRow w (Blk.idsL l) v' w' := by
  induction n using Nat.strongRecOn with
  | _ n ih =>
    intro l B v w hn hnm hrd hB
    obtain ⟨i0, hi0, hz0, hz1, hz2⟩ := info_parts infoS
    obtain ⟨a, cap, hv, hs⟩ := Rd.sl_open hrd
    obtain rfl : v = .slice a l.length cap := by simpa using hv
    have hcap : l.length ≤ cap := by simpa using hs.le
    have hmx := hs.max
    unfold maxLen at hmx
    have HS := Lib.hid hs
    have IH := Lib.hid ih
    have R0 : Hid (IdRel w l (.slice none 0 0) (.int .i64 0) w) := ⟨0, Nat.zero_le _, rfl, by rw [List.take_zero, Blk.idsL]; exact SRow.nil _⟩
    clear hs hv hrd ih
    go_enter Tryd.func11, Tryd.ntmps11
    go_wp2
    go_loopw [3, 4] (fun v vi wr => IdRel w l v vi wr) (fun _ i _ => l.length - (intOf i).toNat)
    case atStart => exact R0.out
    case round =>
      clear R0
      obtain ⟨k, hk, rfl, hrow⟩ := hrel
      obtain ⟨av, cv, hve⟩ := own_slice hrow.own
      subst hve
      by_cases hlt : k < l.length
      · obtain ⟨x, hx⟩ : ∃ x, l[k]? = some x := ⟨_, List.getElem?_eq_getElem hlt⟩
        obtain ⟨kd, lv, inf, t, d, ti, at_, li, ks⟩ := x
        obtain ⟨g, off, vc, vp, vl, vk, rfl, hok, hbl, hc, hR⟩ := blks_at HS.out hx
        have hsz := Blk.szL_get l k _ hx
        rw [Blk.sz] at hsz
        have hil := Blk.inlsL_get l k _ hx
        rw [Blk.inls, List.length_append] at hil
        obtain ⟨al, nl, cl, rfl⟩ := Rd.slf hR.line
        obtain ⟨ac, nc, cc, rfl⟩ := Rd.slf hR.at_.cls
        obtain ⟨ap, np, cp, rfl⟩ := Rd.slf hR.at_.prs
        obtain ⟨ak, nk, ck, rfl⟩ := Rd.slf hR.kids
        have hgw : wr.heap[g]? = w.heap[g]? := hrow.bel.block g (by omega)
        obtain ⟨p0, p1, p2, p3, p4, p5, p6, p7, p8, p9, p10⟩ := hc.at4 (w' := wr) hgw
        have hlen0 := Blk.idsL_len (l.take k)
        have hlenT := Blk.idsL_takeLen l k
        obtain ⟨base, hbase⟩ : ∃ base, base = Blk.idsL (l.take k) := ⟨_, rfl⟩
        have HID := Lib.hid (Blk.idsL_snoc l k _ hx)
        rw [Blk.ids] at HID
        rw [← hbase] at hrow hlen0 hlenT HID ⊢
        have HBASE := Lib.hid hbase
        have HROW := Lib.hid hrow
        have HR := Lib.hid hR
        have HX := Lib.hid hx
        have HC := Lib.hid hc
        have hwz := hrow.bel.size
        clear hc hR hx hrow hbase
        have hbl2 : base.length ≤ 200000 := by omega
        go_upto_if 19 with (fail)
        go_cut [3] (fun v3 wx => SRow w (base ++ idL at_) v3 wx)
        case first =>
          by_cases h0 : at_.id.data.toList = []
          · have q2 : at_.id.toList.isEmpty = true := by rw [Lib.toList_data, h0]; rfl
            have hI : idL at_ = [] := by unfold idL; rw [if_pos h0]
            simp only [q2, Bool.not_true]
            go_wp2_with fail
            go_meet
            rw [hI, List.append_nil]; exact HROW.out
          · have q2 : at_.id.toList.isEmpty = false := by rw [Lib.toList_data]; cases h : at_.id.data.toList <;> simp_all
            have hI : idL at_ = [at_.id] := by unfold idL; rw [if_neg h0]
            have HO := Lib.hid HROW.out.own
            simp only [q2, Bool.not_false]
            go_wp2_with (at_builtin; refine wpList_append_any _ rfl (.tmp 20) (.tmp 27) 29 rfl w.heap.size 9 i0 _ 1 16 Tryd.underlying29 hi0 hz0 hz1 hz2 rfl (by decide) (.slice av base.length cv) base.length (base.map Value.string) rfl (HO.out.alloc _) (wr.heap.size + 1) (some ⟨wr.heap.size, 0, none⟩) 1 1 [.string at_.id] rfl ?g1 ?g2 ?g3 ?g4 ?g5 ?_)
            case g1 => exact ⟨rfl, fun _ => ⟨_, rfl, by simp, new_cells wr [.string at_.id] _⟩⟩
            case g2 => intro u hu; simp at hu; subst hu; rfl
            case g3 => unfold maxLen; omega
            case g4 => omega
            case g5 => simp; omega
            intro v1 w1 hown1 hg1 _
            obtain ⟨a1, c1, rfl⟩ := own_slice hown1
            have R1 := Lib.hid ((HROW.out.up ((Below.refl _ _).alloc (Nat.le_refl _) _)).grown (ys := base ++ idL at_) (by rw [hI]; simpa using hown1) hg1)
            clear hown1 hg1 p0 p1 p2 p3 p4 p5 p6 p7 p8 p9 p10
            go_wp2_with fail
            go_meet
            exact R1.out
        case rest =>
          obtain ⟨b1, hb1⟩ : ∃ b1, b1 = base ++ idL at_ := ⟨_, rfl⟩
          have hb1l : b1.length ≤ 200001 := by have := idL_len at_; rw [hb1, List.length_append]; omega
          rw [← hb1] at hcut
          have HB1 := Lib.hid hb1
          clear hb1
          obtain ⟨a3, c3, hu3⟩ := own_slice hcut.own
          subst hu3
          have hdn : Inl.szL li ≤ 200000 := by have := Inl.deepL_len li; omega
          have hgw2 : wc.heap[g]? = w.heap[g]? := hcut.bel.block g (by omega)
          have p9 := (HC.out.at4 (w' := wc) hgw2).c9
          have hwz2 := hcut.bel.size
          have hdl : (Inl.deepL li).length = Inl.szL li := Inl.deepL_len li
          have DP := Lib.hid (deep_any (Inl.szL li) li B (.slice al nl cl) wc (Nat.le_refl _) (by omega) (Rd.keep (fun b h1 h2 => ⟨h1, hcut.bel.block b h2⟩) _ _ HR.out.line) (by omega))
          have HCUT := Lib.hid hcut
          clear hcut HROW p0 p1 p2 p3 p4 p5 p6 p7 p8 p9 p10 hgw hgw2
          have p9 := (HC.out.at4 (w' := wc) (HCUT.out.bel.block g (by omega))).c9
          go_wp2_with fail
          refine DP.out.mono ?_
          rintro e w2 ⟨v2, rows, rfl, hrow2⟩
          obtain ⟨a2, c2, rfl⟩ := own_slice hrow2.own
          obtain ⟨xs, hxs⟩ : ∃ xs, xs = Inl.deepL li := ⟨_, rfl⟩
          rw [← hxs] at hrow2 hdl HID ⊢
          have hxl : (xs.map Inl.d).length = xs.length := List.length_map ..
          have R20 : Hid (IeRel w b1 xs rows wc.heap.size (.slice a2 (xs.map Inl.d).length c2) (.slice a3 b1.length c3) (.int .i64 0) w2) := by
            refine ⟨0, Nat.zero_le _, rfl, ?_, by have := hrow2.own; rw [hxl] at this ⊢; exact this, ?_⟩
            · rw [List.take_zero]; have := HCUT.out.up hrow2.bel; simpa [usedI] using this
            · intro g hg e
              have h1 := (hrow2.own.lt g hg).1
              have h2 := (HCUT.out.own.lt g e).2
              omega
          have HRED := Lib.hid hrow2.red
          have HLEN := Lib.hid hrow2.len
          have HXL := Lib.hid hxl
          have HXS := Lib.hid hxs
          have hxb : xs.length ≤ 200000 := by omega
          clear hrow2 DP p9 hxl hxs HCUT
          go_wp2
          go_loopw [3, 6] (fun v vi wr => IeRel w b1 xs rows wc.heap.size (.slice a2 (xs.map Inl.d).length c2) v vi wr) (fun _ i _ => xs.length - (intOf i).toNat)
          case atStart => exact R20.out
          case round =>
            clear R20
            obtain ⟨j, hj, rfl, hrowj, hown2, hnej⟩ := hrel
            obtain ⟨av3, cv3, hve3⟩ := own_slice hrowj.own
            subst hve3
            obtain ⟨wj, hwj⟩ : ∃ wj : World, wj = wr := ⟨_, rfl⟩
            subst hwj
            have hjl : (b1 ++ usedI (xs.take j)).length ≤ 700000 := by
              have h2 := usedI_le (xs.take j)
              rw [List.length_take] at h2
              simp only [List.length_append]; omega
            obtain ⟨bj, hbj⟩ : ∃ bj, bj = b1 ++ usedI (xs.take j) := ⟨_, rfl⟩
            rw [← hbj] at hrowj hjl hnej ⊢
            have HBJ := Lib.hid hbj
            have HRJ := Lib.hid hrowj
            have HO2 := Lib.hid hown2
            have HNE := Lib.hid hnej
            clear hbj hrowj hown2 hnej
            by_cases hjlt : j < xs.length
            · obtain ⟨y, hy⟩ : ∃ y, xs[j]? = some y := ⟨_, List.getElem?_eq_getElem hjlt⟩
              obtain ⟨kd', t', d', ti', at', ar', ci', ks'⟩ := y
              obtain ⟨g', cap', ac', nc', cc', ap', np', cp', aa', na', ca', ai', ni', ci2, ak', nk', ck', hve', hcells⟩ := row_inl HO2.out HRED.out HLEN.out hy
              simp only [Value.slice.injEq] at hve'
              obtain ⟨rfl, -, rfl⟩ := hve'
              obtain ⟨q0, q1, q2, q3, q4, q5, q6, q7, q8, q9⟩ := hcells
              have HSN := Lib.hid (usedI_snoc' xs j _ _ _ _ _ _ _ _ hy)
              clear hy
              by_cases h0 : at'.id.data.toList = []
              · have r2 : at'.id.toList.isEmpty = true := by rw [Lib.toList_data, h0]; rfl
                have hI : idL at' = [] := by unfold idL; rw [if_pos h0]
                go_wp2_with fail
                go_roundw
                case rel => exact ⟨j + 1, by omega, by go_num, by rw [HSN.out, hI, List.append_nil, ← HBJ.out]; exact HRJ.out, HO2.out, HNE.out⟩
                case measure => simp [intOf]; omega
              · have r2 : at'.id.toList.isEmpty = false := by rw [Lib.toList_data]; cases h : at'.id.data.toList <;> simp_all
                have hI : idL at' = [at'.id] := by unfold idL; rw [if_neg h0]
                have HO := Lib.hid HRJ.out.own
                have hws := HRJ.out.bel.size
                go_wp2_with (at_builtin; refine wpList_append_any _ rfl (.tmp 48) (.tmp 55) 29 rfl w.heap.size 9 i0 _ 1 16 Tryd.underlying29 hi0 hz0 hz1 hz2 rfl (by decide) (.slice av3 bj.length cv3) bj.length (bj.map Value.string) rfl (HO.out.alloc _) (wj.heap.size + 1) (some ⟨wj.heap.size, 0, none⟩) 1 1 [.string at'.id] rfl ?g1 ?g2 ?g3 ?g4 ?g5 ?_)
                case g1 => exact ⟨rfl, fun _ => ⟨_, rfl, by simp, new_cells wj [.string at'.id] _⟩⟩
                case g2 => intro u hu; simp at hu; subst hu; rfl
                case g3 => unfold maxLen; omega
                case g4 => omega
                case g5 => simp; omega
                intro v1 w1 hown1 hg1 hat1
                obtain ⟨a1, c1, rfl⟩ := own_slice hown1
                have R1 := Lib.hid ((HRJ.out.up ((Below.refl _ _).alloc (Nat.le_refl _) _)).grown (ys := bj ++ idL at') (by rw [hI]; simpa using hown1) hg1)
                have K1 := Lib.hid ((HO2.out.alloc (.cells #[.string at'.id] 9)).kept hg1 (.inr (fun e => HNE.out _ rfl e.symm)))
                have N1 : Hid (∀ g, (Value.slice (some ⟨g', 0, none⟩) (xs.map Inl.d).length c2).ownBlock = some g → (Value.slice a1 (bj.length + 1) c1).ownBlock ≠ some g) := by
                  intro g hg e
                  have h1 := (HO2.out.lt g hg).2
                  rcases hat1 with h | h
                  · rw [h] at e; exact HNE.out g hg e
                  · rw [h] at e; have := Option.some.inj e; omega
                clear hown1 hg1 hat1 q0 q1 q2 q3 q4 q5 q6 q7 q8 q9 HNE HO2
                go_wp2_with fail
                go_roundw
                case rel => exact ⟨j + 1, by omega, by go_num, by rw [HSN.out, hI, ← List.append_assoc, ← HBJ.out, ← hI]; exact R1.out, K1.out, N1.out⟩
                case measure => simp [intOf]; omega
            · have hjl2 : j = xs.length := by omega
              subst hjl2
              rw [List.take_length] at HBJ
              have hbJ := HRJ.out.bel
              have p10 := (HC.out.at4 (w' := wj) (hbJ.block g (by omega))).c10
              have hsz1 := hbJ.size
              have IK := Lib.hid (IH.out (Blk.szL ks + (Blk.inlsL ks).length) (by omega) ks B (.slice ak nk ck) wj (Nat.le_refl _) (by omega) (Rd.keep (fun b h1 h2 => ⟨h1, hbJ.block b h2⟩) _ _ HR.out.kids) (by omega))
              have hkl := Blk.idsL_len ks
              clear hbJ HO2 HNE HRED HLEN
              go_wp2_with fail
              refine IK.out.mono ?_
              rintro e w4 ⟨v4, rfl, hrow4⟩
              obtain ⟨a4, c4, rfl⟩ := own_slice hrow4.own
              have hb4 := hrow4.bel
              have hsz4 := hb4.size
              have R4 := Lib.hid (HRJ.out.up hb4)
              have RD4 := Lib.hid (Reads.of_own hrow4.own)
              have HO4 := Lib.hid R4.out.own
              clear hrow4 hb4 IK p10
              go_wp2_with (at_builtin; refine wpList_append_any _ rfl (.tmp 57) (.tmp 63) 29 rfl w.heap.size 9 i0 _ 1 16 Tryd.underlying29 hi0 hz0 hz1 hz2 rfl (by decide) (.slice av3 bj.length cv3) bj.length (bj.map Value.string) rfl HO4.out w4.heap.size a4 (Blk.idsL ks).length c4 ((Blk.idsL ks).map Value.string) rfl RD4.out ?k2 ?k3 ?k4 ?k5 ?_)
              case k2 => intro u hu; obtain ⟨y, _, rfl⟩ := List.mem_map.1 hu; rfl
              case k3 => unfold maxLen; omega
              case k4 => omega
              case k5 => omega
              intro v5 w5 hown5 hg5 _
              obtain ⟨a5, c5, rfl⟩ := own_slice hown5
              have R5 := Lib.hid (R4.out.grown (ys := bj ++ Blk.idsL ks) (by rw [List.length_append, List.map_append]; exact hown5) hg5)
              clear hown5 hg5 R4 RD4
              go_wp2
              go_roundw
              case rel =>
                refine ⟨k + 1, by omega, by go_num, ?_⟩
                have e : Blk.idsL (l.take (k + 1)) = bj ++ Blk.idsL ks := by rw [HID.out, HBJ.out, HB1.out]; simp only [List.append_assoc]
                rw [e]
                exact R5.out
              case measure => simp [intOf]; omega
      · have hkl : k = l.length := by omega
        subst hkl
        rw [List.take_length] at hrow ⊢
        have HROW := Lib.hid hrow
        clear hrow HS IH
        go_wp2
        go_ret
        exact ⟨.slice av _ cv, rfl, HROW.out⟩
end Go.Proofs.YtlbioncagkkkoaaDoor
