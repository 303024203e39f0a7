/- A row of one's own whose data lead to what was there at first or to what is newer, and not to the row itself. publisherref21.give: headings get the next identifiers. -/
import Derived.Test.YtjolhiofllpejaaDoorRList
import Derived.Test.YtjolhiofllpejaaDoorTake
namespace Go.Proofs.YtjolhiofllpejaaDoor
open Go.RowKit
set_option linter.unusedVariables false

/-- A row of one's own, built since w0; what its data lead to lies below B or is newer than w0, and not in the row itself. -/
structure RowG (T : TypeId) (k B : Nat) (w0 : World) (ds : List D) (rows : List (List Value)) (v : Value) (w : World) : Prop where
  own : w.ownsRow w0.heap.size T k v ds.length rows.flatten
  red : RdL (fun b => (b < B ∨ w0.heap.size ≤ b) ∧ v.ownBlock ≠ some b) w ds rows
  len : ∀ r ∈ rows, r.length = k
  bel : Below w0.heap.size w0 w
section
variable {T : TypeId} {k B : Nat} {w0 w w1 w2 : World} {ds es : List D} {rows rows2 : List (List Value)} {v v' : Value}
theorem RowG.nil (T : TypeId) (k B : Nat) (w0 : World) : RowG T k B w0 [] [] (.slice none 0 0) w0 := ⟨⟨by simp, .inl ⟨rfl, rfl⟩⟩, RdL.none, by simp, Below.refl _ _⟩
theorem RowG.up (h : RowG T k B w0 ds rows v w) (hb : Below w.heap.size w w1) : RowG T k B w0 ds rows v w1 :=
  ⟨own_below h.own hb, RdL.keep (fun b h1 h2 => ⟨h1, hb.block b h2⟩) _ _ h.red, h.len, below_trans_size h.bel hb⟩
theorem RowG.app (h : RowG T k B w0 ds rows v w1) (hB : B ≤ w0.heap.size) (hes : RdL (fun b => (b < B ∨ w0.heap.size ≤ b) ∧ v.ownBlock ≠ some b) w1 es rows2) (hl2 : ∀ r ∈ rows2, r.length = k)
    (hown : w2.ownsRow w0.heap.size T k v' (ds.length + es.length) (rows.flatten ++ rows2.flatten)) (hg : w1.grownBy w2 v.ownBlock) (hat : v'.ownBlock = v.ownBlock ∨ v'.ownBlock = some w1.heap.size) : RowG T k B w0 (ds ++ es) (rows ++ rows2) v' w2 := by
  have hne : ∀ b, b < w0.heap.size → some b ≠ v.ownBlock := fun b hb e => by have := (h.own.lt b e.symm).1; omega
  have hst : Stays (fun b => (b < B ∨ w0.heap.size ≤ b) ∧ v.ownBlock ≠ some b) (fun b => (b < B ∨ w0.heap.size ≤ b) ∧ v'.ownBlock ≠ some b) w1 w2 := fun b h1 h2 => by
    refine ⟨⟨h1.1, ?_⟩, hg.block b h2 (fun e => h1.2 e.symm)⟩
    rcases hat with e | e
    · rw [e]; exact h1.2
    · rw [e]; intro e'; have := Option.some.inj e'; omega
  refine ⟨by rw [List.length_append, List.flatten_append]; exact hown, RdL.app (RdL.keep hst _ _ h.red) (RdL.keep hst _ _ hes), ?_, ?_⟩
  · intro r hr
    rcases List.mem_append.1 hr with hr | hr
    · exact h.len r hr
    · exact hl2 r hr
  · have hb := h.bel
    exact ⟨hg.os.trans hb.os, hg.tape.trans hb.tape, hg.output.trans hb.output, Nat.le_trans hb.size hg.size, fun b hlt => (hg.block b (Nat.lt_of_lt_of_le hlt hb.size) (hne b hlt)).trans (hb.block b hlt)⟩
theorem RowG.rd (h : RowG T k B w0 ds rows v w) : Rd (fun b => b < B ∨ w0.heap.size ≤ b) w (.sl k ds) [v] :=
  Rd.sl_own h.own (RdL.keep (fun b hb _ => ⟨hb.1, rfl⟩) _ _ h.red) h.len (fun g hg => .inr (h.own.lt g hg).1)
end
section
variable {T : TypeId} {p : Nat} {cs : List Value} {w w' : World}
theorem CB.free (h : CB T p cs w) (j : Nat) : w.frozen? ⟨p, j, none⟩ = false := by
  unfold CB at h
  simp [World.frozen?, h]
theorem CB.set (h : CB T p cs w) (j : Nat) (u : Value) : CB T p (cs.set j u) (w.setCell ⟨p, j, none⟩ u) := by
  unfold CB at h ⊢
  simp [World.setCell, Array.getElem?_modify, h]
theorem CB.grown (h : CB T p cs w) {row : Option Nat} (hg : w.grownBy w' row) (hne : some p ≠ row) : CB T p cs w' := (hg.block p h.lt hne).trans h
end
/-- A store above what is kept. -/
theorem below_set {B : Nat} {a w : World} (h : Below B a w) {p j : Nat} {u : Value} (hp : B ≤ p) : Below B a (w.setCell ⟨p, j, none⟩ u) :=
  ⟨h.os, h.tape, h.output, by simpa [World.setCell] using h.size, fun i hi => (Below.heap_setCell w ⟨p, j, none⟩ u i (by show i ≠ p; omega)).trans (h.block i hi)⟩
end Go.Proofs.YtjolhiofllpejaaDoor

namespace Go.Proofs.YtjolhiofllpejaaDoor
open Go.RowKit
set_option linter.unusedVariables false

/-- A slice of texts below B. -/
def IdS (w : World) (B : Nat) (v : Value) (A : List ByteArray) : Prop := ∃ a cap, v = .slice a A.length cap ∧ A.length ≤ cap ∧ cap ≤ maxLen ∧ Reads w B 1 a A.length (A.map Value.string)
theorem IdS.below {w w' : World} {B : Nat} {v : Value} {A : List ByteArray} (h : IdS w B v A) (hb : Below B w w') : IdS w' B v A := by
  obtain ⟨a, cap, h1, h2, h3, h4⟩ := h
  exact ⟨a, cap, h1, h2, h3, h4.below hb⟩
theorem IdS.cut {w : World} {B cap : Nat} {a : Option Addr} {x : ByteArray} {A : List ByteArray} (h : IdS w B (.slice a (x :: A).length cap) (x :: A)) : IdS w B (.slice (if cap = 1 then a else a.map (·.add 1)) A.length (cap - 1)) A := by
  obtain ⟨a', cap', h1, h2, h3, h4⟩ := h
  simp only [Value.slice.injEq] at h1
  obtain ⟨rfl, -, rfl⟩ := h1
  refine ⟨_, _, rfl, by simp at h2; omega, by omega, ?_⟩
  have := h4.cut (k := 1) (cap := cap) (by simp) h2
  simpa using this
def GvRel (B C : Nat) (w : World) (l : List Blk) (A : List ByteArray) (vs v vi : Value) (wr : World) : Prop :=
  ∃ (k : Nat) (rows : List (List Value)), k ≤ l.length ∧ vi = .int .i64 k ∧ RowG 44 11 B w ((Blk.nameL (l.take k) A).1.map Blk.d) rows v wr ∧ IdS wr C vs (Blk.nameL (l.take k) A).2
def GvPost (B C : Nat) (w : World) (l : List Blk) (A : List ByteArray) (e : Ending) (w' : World) : Prop :=
  ∃ v vs, e = .returned (.tuple #[v, vs]) ∧ Rd (fun b => b < B ∨ w.heap.size ≤ b) w' (blksD (Blk.nameL l A).1) [v] ∧ IdS w' C vs (Blk.nameL l A).2 ∧ Below w.heap.size w w'

set_option maxRecDepth 100000 in
set_option maxHeartbeats 4000000 in
theorem give_any (n : Nat) : ∀ (l : List Blk) (B C : Nat) (A : List ByteArray) (v vs : Value) (w : World), Blk.szL l ≤ n → n ≤ 1000000 → Rd (· < B) w (blksD l) [v] → B ≤ w.heap.size → IdS w C vs A → C ≤ w.heap.size → Blk.bareL l ≤ A.length →
    Calls Tryd.prog 43 #[v, vs] w (GvPost B C w l A) := by
  induction n using Nat.strongRecOn with
  | _ n ih =>
    intro l B C A v vs w hn hnm hrd hB hids hC hbare
    obtain ⟨iI, hiI, hzI0, hzI1, hzI2⟩ := info_parts infoBl2
    obtain ⟨a, cap, hv, hs⟩ := Rd.sl_open hrd
    obtain rfl : v = .slice a l.length cap := by simpa using hv
    have hcap : l.length ≤ cap := by simpa using hs.le
    have hmx := hs.max
    have hll := Blk.len_le l
    unfold maxLen at hmx
    have HS := Lib.hid hs
    have IH := Lib.hid ih
    have HIDS := Lib.hid hids
    have R0 : Hid (GvRel B C w l A vs (.slice none 0 0) (.int .i64 0) w) := ⟨0, [], Nat.zero_le _, rfl, by rw [List.take_zero, Blk.nameL]; exact RowG.nil _ _ _ _, by rw [List.take_zero, Blk.nameL]; exact hids⟩
    obtain ⟨ax, cx, rfl, hcx1, hcx2, -⟩ := hids
    clear hs hv hrd ih
    go_enter Tryd.func43, Tryd.ntmps43
    go_wp2
    go_loopw [1, 6, 7] (fun vs v vi wr => GvRel B C w l A vs v vi wr) (fun _ _ i _ => l.length - (intOf i).toNat)
    case atStart => exact R0.out
    case round =>
      clear R0
      obtain ⟨k, rows, hk, rfl, hrow, hid⟩ := hrel
      obtain ⟨av, cv, hve⟩ := own_slice hrow.own
      subst hve
      rw [List.length_map, Blk.nameL_len, List.length_take, Nat.min_eq_left hk] at *
      by_cases hlt : k < l.length
      · obtain ⟨x, hx⟩ : ∃ x, l[k]? = some x := ⟨_, List.getElem?_eq_getElem hlt⟩
        obtain ⟨kd, lv, i, t, d, ti, at_, li, ks⟩ := x
        obtain ⟨g, off, vc, vp, vl, vk, rfl, hok, hbl, hc, hR⟩ := blks_at HS.out hx
        have hsz := Blk.szL_get l k _ hx
        rw [Blk.sz] at hsz
        obtain ⟨al, nl, cl, rfl⟩ := Rd.slf hR.line
        obtain ⟨ac, nc, cc, rfl⟩ := Rd.slf hR.at_.cls
        obtain ⟨ap, np, cp, rfl⟩ := Rd.slf hR.at_.prs
        obtain ⟨ak, nk, ck, rfl⟩ := Rd.slf hR.kids
        have hgw : wr.heap[g]? = w.heap[g]? := hrow.bel.block g (by omega)
        obtain ⟨p0, p1, p2, p3, p4, p5, p6, p7, p8, p9, p10⟩ := hc.at4 (w' := wr) hgw
        have hbk := Blk.bareL_get l k _ hx
        rw [Blk.bare] at hbk
        have hrest := Blk.nameL_rest (l.take k) A (by omega)
        have hdl := Blk.nameL_len (l.take k) A
        rw [List.length_take, Nat.min_eq_left (by omega)] at hdl
        have HTK := Lib.hid (Blk.nameL_take l A k _ hx)
        rw [Blk.name] at HTK
        generalize hpre : Blk.nameL (l.take k) A = pre at *
        obtain ⟨done, Ak⟩ := pre
        simp only at hrest hrow hid HTK hdl
        clear hpre
        have hwz := hrow.bel.size
        have HROW := Lib.hid hrow
        have HID := Lib.hid hid
        have HR := Lib.hid hR
        obtain ⟨id1, A1, hid1⟩ : ∃ id1 A1, (id1, A1) = if kd = 2 ∧ at_.id.data.toList = [] then (Ak.headD at_.id, Ak.tail) else (at_.id, Ak) := ⟨_, _, rfl⟩
        have HID1 := Lib.hid hid1
        have hA1 : Blk.bareL ks ≤ A1.length := by
          split at hid1
          · rename_i h; rw [if_pos h] at hbk; obtain ⟨rfl, rfl⟩ := Prod.mk.inj hid1; rw [List.length_tail]; omega
          · rename_i h; rw [if_neg h] at hbk; obtain ⟨rfl, rfl⟩ := Prod.mk.inj hid1; omega
        have HNM : Hid (Blk.nameL (l.take (k + 1)) A = (done ++ [.mk kd lv i t d ti { at_ with id := id1 } li (Blk.nameL ks A1).1], (Blk.nameL ks A1).2)) := by
          show _ = _
          rw [HTK.out]
          split at hid1
          · rename_i h; rw [if_pos h]; obtain ⟨rfl, rfl⟩ := Prod.mk.inj hid1; rfl
          · rename_i h; rw [if_neg h]; obtain ⟨rfl, rfl⟩ := Prod.mk.inj hid1; rfl
        obtain ⟨ai, ci, rfl, hci1, hci2, hrdi⟩ := hid
        clear hid1 HTK hc hR hx hrow
        go_upto_region 6 with (fail)
        obtain ⟨p, hp⟩ : ∃ p, p = wr.heap.size := ⟨_, rfl⟩
        obtain ⟨wA, hwA⟩ : ∃ wA, wA = wr.alloc (.cells #[.int .i64 kd, .int .i64 lv, .string i, .string t, .string d, .string ti, .string at_.id, .slice ac nc cc, .slice ap np cp, .slice al nl cl, .slice ak nk ck] 44) := ⟨_, rfl⟩
        have PA : CB 44 p [.int .i64 kd, .int .i64 lv, .string i, .string t, .string d, .string ti, .string at_.id, .slice ac nc cc, .slice ap np cp, .slice al nl cl, .slice ak nk ck] wA := by rw [hwA, hp]; exact CB.new _ _ _
        have BA : Below p wr wA := by rw [hwA, hp]; exact (Below.refl _ _).alloc (Nat.le_refl _) _
        rw [← hwA, ← hp]
        have hpw : w.heap.size ≤ p := by omega
        have HBA := Lib.hid BA
        have HPA := Lib.hid PA
        have e0 := PA.cell 0 _ rfl
        have e6 := PA.cell 6 _ rfl
        have HP := Lib.hid hp
        clear hp hwA BA PA p0 p1 p2 p3 p4 p5 p6 p7 p8 p9 p10 hgw
        go_upto_region 6 with (fail)
        go_cut [27] (fun s27 wx => s27 = .bool (decide (kd = 2 ∧ at_.id.data.toList = [])) ∧ wA = wx)
        case first =>
          by_cases h2 : kd = 2
          · subst h2
            by_cases h0 : at_.id.data.toList = []
            · have q1 : at_.id.toList = [] := by rw [Lib.toList_data]; exact h0
              have q2 : at_.id.toList.isEmpty = true := by rw [q1]; rfl
              go_wp2_with fail
              go_meet
              exact ⟨by simp [h0], rfl⟩
            · have q2 : at_.id.toList.isEmpty = false := by rw [Lib.toList_data]; cases h : at_.id.data.toList <;> simp_all
              go_wp2_with fail
              go_meet
              exact ⟨by simp [h0], rfl⟩
          · have q1 : (kd == 2) = false := beq_false_of_ne h2
            go_wp2_with fail
            go_meet
            exact ⟨by simp [h2], rfl⟩
        case rest =>
          obtain ⟨rfl, rfl⟩ := hcut
          clear e0 e6
          go_upto_if 27 with (fail)
          go_cut [1] (fun v1 wx => CB 44 p [.int .i64 kd, .int .i64 lv, .string i, .string t, .string d, .string ti, .string id1, .slice ac nc cc, .slice ap np cp, .slice al nl cl, .slice ak nk ck] wx ∧ IdS wx C v1 A1 ∧ Below p wr wx)
          case first =>
            by_cases hcnd : kd = 2 ∧ at_.id.data.toList = []
            · have hid2 := HID1.out
              rw [if_pos hcnd] at hid2
              obtain ⟨hi1, hi2⟩ := Prod.mk.inj hid2
              have hne : 1 ≤ Ak.length := by rw [if_pos hcnd] at hbk; omega
              obtain ⟨x1, A2, rfl⟩ : ∃ x1 A2, Ak = x1 :: A2 := by cases Ak with
                | nil => simp at hne
                | cons x l => exact ⟨_, _, rfl⟩
              simp only [List.headD_cons, List.tail_cons] at hi1 hi2
              subst hi1 hi2
              rw [show decide (kd = 2 ∧ at_.id.data.toList = []) = true from decide_eq_true hcnd]
              obtain ⟨ad, u, rfl, hadb, hu, hcell⟩ := hrdi.at_ (k := 0) (by simp)
              obtain rfl : u = .string id1 := by simpa using hu.symm
              have hB2 : C ≤ p := by omega
              have c0 : wA.cell? ad = some (.string id1) := by
                have e0 : ad.add 0 = ad := by simp [Addr.add]
                rw [e0] at hcell
                exact (HBA.out.cell (p := ad) (by omega)).trans hcell
              have f6 := HPA.out.free 6
              have e6 := HPA.out.cell 6 _ rfl
              have HBP := Lib.hid hB2
              clear hcell hid2 hrdi
              simp only [List.length_cons] at *
              have h1 := HID.out.cut.below (HBA.out.mono HBP.out)
              have h2 := Lib.hid (h1.below (w' := wA.setCell ⟨p, 6, none⟩ (.string id1)) (below_set (Below.refl _ _) HBP.out))
              clear h1
              obtain ⟨ab, ao, sp⟩ := ad
              obtain rfl : sp = none := World.cell?_spot c0
              rcases Nat.eq_or_lt_of_le (show 1 ≤ ci by omega) with hc1 | hc1
              · subst hc1
                obtain rfl : A1 = [] := List.eq_nil_of_length_eq_zero (by omega)
                go_wp2_with fail
                go_meet
                exact ⟨HPA.out.set 6 _, by simpa [Addr.add] using h2.out, below_set HBA.out (Nat.le_refl _)⟩
              · have hc2 : ¬ ci = 1 := by omega
                go_wp2_with fail
                go_meet
                exact ⟨HPA.out.set 6 _, by simpa [Addr.add, hc2] using h2.out, below_set HBA.out (Nat.le_refl _)⟩
            · have hid2 := HID1.out
              rw [if_neg hcnd] at hid2
              obtain ⟨rfl, rfl⟩ := Prod.mk.inj hid2
              rw [show decide (kd = 2 ∧ at_.id.data.toList = []) = false from decide_eq_false hcnd]
              go_wp2_with fail
              go_meet
              exact ⟨HPA.out, HID.out.below (HBA.out.mono (by omega)), HBA.out⟩
          case rest =>
            obtain ⟨PC, IC, BC⟩ := hcut
            have hB2 : B ≤ p := by omega
            have hlp := PC.lt
            have hkd : Rd (· < B) wc (blksD ks) [.slice ak nk ck] := Rd.keep (fun b h1 h2 => ⟨h1, (BC.block b (by omega)).trans (HROW.out.bel.block b (by omega))⟩) _ _ HR.out.kids
            have hz5 := BC.size
            have IK := Lib.hid (IH.out (Blk.szL ks) (by omega) ks B C A1 (.slice ak nk ck) _ wc (Nat.le_refl _) (by omega) hkd (by omega) IC (by omega) hA1)
            obtain ⟨aj, cj, hvj, -, -, -⟩ := IC
            subst hvj
            have d10 := PC.cell 10 _ rfl
            have HPC := Lib.hid PC
            have HBC := Lib.hid BC
            clear PC BC hkd HBA HPA HID HID1 hrdi hbk hrest
            go_wp2_with fail
            refine IK.out.mono ?_
            rintro e w5 ⟨vk1, vs2, rfl, hk1, hid5, hb5⟩
            obtain ⟨ak1, nk1, ck1, rfl⟩ := Rd.sl_form hk1
            have HI5 := Lib.hid hid5
            obtain ⟨a5, c5, rfl, -, -, -⟩ := hid5
            have P5 := HPC.out.below hb5
            have d10 := P5.cell 10 _ rfl
            have f10 := P5.free 10
            have HP5 := Lib.hid P5
            have HK1 := Lib.hid hk1
            have HB5 := Lib.hid hb5
            clear P5 hk1 hb5 HPC IK
            go_upto_region 10 with (fail)
            obtain ⟨w9, hw9⟩ : ∃ w9, w9 = w5.setCell ⟨p, 10, none⟩ (.slice ak1 nk1 ck1) := ⟨_, rfl⟩
            have B9 : Below wr.heap.size wr w9 := by rw [hw9]; have h1 := HBC.out; rw [HP.out] at h1 ⊢; exact below_set (h1.trans (HB5.out.mono h1.size)) (Nat.le_refl _)
            have P9 := HP5.out.set 10 (.slice ak1 nk1 ck1)
            rw [← hw9] at P9 ⊢
            have hB9 := HROW.out.bel
            have I9 : Hid (IdS w9 C (.slice a5 (Blk.nameL ks A1).2.length c5) (Blk.nameL ks A1).2) := by
              show IdS _ _ _ _
              rw [hw9]
              exact HI5.out.below (below_set (Below.refl _ _) (by omega))
            have BL9 : Hid (BlR (fun b => (b < B ∨ w.heap.size ≤ b) ∧ (Value.slice av k cv).ownBlock ≠ some b) w9 { at_ with id := id1 } li (Blk.nameL ks A1).1 (.slice ac nc cc) (.slice ap np cp) (.slice al nl cl) (.slice ak1 nk1 ck1)) := by
              have hst : Stays (· < B) (fun b => (b < B ∨ w.heap.size ≤ b) ∧ (Value.slice av k cv).ownBlock ≠ some b) w w9 := fun b h1 h2 =>
                ⟨⟨.inl h1, fun e => by have := (HROW.out.own.lt b e).1; omega⟩, (B9.block b (by omega)).trans (hB9.block b (by omega))⟩
              refine ⟨⟨Rd.keep hst _ _ HR.out.at_.cls, Rd.keep hst _ _ HR.out.at_.prs⟩, Rd.keep hst _ _ HR.out.line, ?_⟩
              refine Rd.keep (fun b h1 h2 => ?_) _ _ HK1.out
              refine ⟨⟨by omega, fun e => by have := HROW.out.own.lt b e; omega⟩, ?_⟩
              rw [hw9]
              exact Below.heap_setCell w5 ⟨p, 10, none⟩ _ b (by show b ≠ p; omega)
            have R9 := Lib.hid (HROW.out.up B9)
            have HOW9 := Lib.hid R9.out.own
            rw [List.length_map, hdl] at HOW9
            have e0 := P9.cell 0 _ rfl
            have e1 := P9.cell 1 _ rfl
            have e2 := P9.cell 2 _ rfl
            have e3 := P9.cell 3 _ rfl
            have e4 := P9.cell 4 _ rfl
            have e5 := P9.cell 5 _ rfl
            have e6 := P9.cell 6 _ rfl
            have e7 := P9.cell 7 _ rfl
            have e8 := P9.cell 8 _ rfl
            have e9 := P9.cell 9 _ rfl
            have e10 := P9.cell 10 _ rfl
            have hs9 := R9.out.bel.size
            clear hw9 P9 B9 hB9 d10 f10 HP5 HK1 HB5 HBC
            go_wp2_with (at_builtin; refine wpList_append_any _ rfl (.tmp 43) (.tmp 45) 30 rfl w.heap.size 44 iI _ 11 192 Tryd.underlying30 hiI hzI0 hzI1 hzI2 rfl (by decide) (.slice av k cv) k rows.flatten rfl (HOW9.out.alloc _) (w9.heap.size + 1) (some ⟨w9.heap.size, 0, none⟩) 1 1 [.int .i64 kd, .int .i64 lv, .string i, .string t, .string d, .string ti, .string id1, .slice ac nc cc, .slice ap np cp, .slice al nl cl, .slice ak1 nk1 ck1] rfl ?g1 ?g2 ?g3 ?g4 ?g5 ?_)
            case g1 => exact ⟨rfl, fun _ => ⟨_, rfl, by simp, new_cells w9 [.int .i64 kd, .int .i64 lv, .string i, .string t, .string d, .string ti, .string id1, .slice ac nc cc, .slice ap np cp, .slice al nl cl, .slice ak1 nk1 ck1] _⟩⟩
            case g2 => intro u hu; simp at hu; rcases hu with rfl | rfl | rfl | rfl | rfl | rfl | rfl | rfl | rfl | rfl | rfl <;> rfl
            case g3 => unfold maxLen; omega
            case g4 => omega
            case g5 => simp; omega
            intro v' wz hown' hgrow hat
            obtain ⟨az, cz, rfl⟩ := own_slice hown'
            have hal : Below w9.heap.size w9 (w9.alloc (.cells #[.int .i64 kd, .int .i64 lv, .string i, .string t, .string d, .string ti, .string id1, .slice ac nc cc, .slice ap np cp, .slice al nl cl, .slice ak1 nk1 ck1] 44)) := (Below.refl _ _).alloc (Nat.le_refl _) _
            have RZ := Lib.hid ((R9.out.up hal).app hB (RdL.one (Rd.keep (fun b h1 h2 => ⟨h1, hal.block b h2⟩) _ _ (Blk.mk_ kd lv i t d ti BL9.out))) (by simp) (by rw [List.length_singleton, List.flatten_singleton, List.length_map, hdl]; exact hown') hgrow (by rw [World.size_alloc]; exact hat))
            have IZ : Hid (IdS wz C (.slice a5 (Blk.nameL ks A1).2.length c5) (Blk.nameL ks A1).2) := by
              show IdS _ _ _ _
              refine I9.out.below ?_
              have h1 : Below w.heap.size w9 wz := ⟨hgrow.os, hgrow.tape, hgrow.output, by have := hgrow.size; simp at this; omega, fun b hb => (hgrow.block b (by simp; omega) (fun e => by have := (R9.out.own.lt b e.symm).1; omega)).trans (hal.block b (by omega))⟩
              exact h1.mono (by omega)
            clear hown' hgrow hat hal e0 e1 e2 e3 e4 e5 e6 e7 e8 e9 e10 I9 BL9
            go_wp2
            go_roundw
            case rel =>
              refine ⟨k + 1, rows ++ [[.int .i64 kd, .int .i64 lv, .string i, .string t, .string d, .string ti, .string id1, .slice ac nc cc, .slice ap np cp, .slice al nl cl, .slice ak1 nk1 ck1]], by omega, by go_num, ?_, ?_⟩
              · rw [HNM.out]; simpa using RZ.out
              · rw [HNM.out]; exact IZ.out
            case measure => simp [intOf]; omega
      · have hkl : k = l.length := by omega
        subst hkl
        rw [List.take_length] at hrow hid
        have HROW := Lib.hid hrow
        have HID := Lib.hid hid
        obtain ⟨ai, ci, rfl, -, -, -⟩ := hid
        clear hrow HS IH
        go_wp2
        exact bodyPost_ret (v := .tuple #[.slice av _ cv, .slice ai _ ci]) (by simp [results, Tryd.results43, go_sem]) rfl ⟨_, _, rfl, HROW.out.rd, HID.out, HROW.out.bel⟩
end Go.Proofs.YtjolhiofllpejaaDoor
