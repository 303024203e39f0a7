/- The contract of slug.named. slug.Anchors: what its second loop keeps. slug.Anchors. -/
import Derived.Test.YtjobjicdfoklpaaGreatDoorTake
import Derived.Deep.RegionWith
import Derived.Test.YtjobjicdfoklpaaGreatDoorAnchW
import Derived.Test.YtjobjicdfoklpaaGreatDoorSlugAll
import Derived.Test.YtjobjicdfoklpaaGreatDoorAppend
namespace Go.Proofs.YtjobjicdfoklpaaGreatDoor
open Go.RowKit
set_option linter.unusedVariables false
set_option linter.unusedSimpArgs false

/-- The state of a round of slug.named: as CL, and the box bx with the anchors that are left. -/
structure NL (w : World) (bx p : Nat) (cs : List Value) (v : Value) (n : Nat) (rows : List (List Value)) (l : List Blk) (A : List ByteArray) (wr : World) : Prop where
  own : wr.ownsRow w.heap.size 54 11 v n rows.flatten
  red : RdL (fun b => w.heap.size ≤ b ∧ v.ownBlock ≠ some b ∧ b ≠ p) wr (l.map Blk.d) rows
  pb : QB p cs wr
  gro : w.grownBy wr (some bx)
  box : BxAt wr bx A
section
variable {w : World} {bx p : Nat} {cs : List Value} {v : Value} {n : Nat} {rows : List (List Value)} {l : List Blk} {A A' : List ByteArray} {wr w' : World}
theorem NL.grown (h : NL w bx p cs v n rows l A wr) (hbx : bx < w.heap.size) (hg : wr.grownBy w' none) : NL w bx p cs v n rows l A w' :=
  ⟨h.own.kept hg (by cases v.ownBlock <;> simp), RdL.keep (fun b hb hlt => ⟨hb, hg.block b hlt (by simp)⟩) _ _ h.red, h.pb.grown hg (by simp),
    grown_trans h.gro ⟨hg.os, hg.tape, hg.output, hg.size, fun i hi _ => hg.block i hi (by simp)⟩, h.box.keep fun b hb => hg.block b (by have := h.gro.size; omega) (by simp)⟩
theorem NL.set (h : NL w bx p cs v n rows l A wr) (hp : w.heap.size ≤ p) (hbx : bx < w.heap.size) (hv : v.ownBlock ≠ some p) (j : Nat) (u : Value) : NL w bx p (cs.set j u) v n rows l A (wr.setCell ⟨p, j, none⟩ u) :=
  ⟨own_set h.own ⟨p, j, none⟩ u hv, RdL.keep (fun b hb hlt => ⟨hb, Below.heap_setCell wr ⟨p, j, none⟩ u b hb.2.2⟩) _ _ h.red, h.pb.set j u,
    ⟨h.gro.os, h.gro.tape, h.gro.output, by have := h.gro.size; simpa [World.setCell] using this, fun i hi hne => (Below.heap_setCell wr ⟨p, j, none⟩ u i (by show i ≠ p; omega)).trans (h.gro.block i hi hne)⟩,
    h.box.keep fun b hb => Below.heap_setCell wr ⟨p, j, none⟩ u b (by show b ≠ p; omega)⟩
theorem NL.took (h : NL w bx p cs v n rows l A wr) (hp : w.heap.size ≤ p) (hbx : bx < w.heap.size) (hg : wr.grownBy w' (some bx)) (hA : BxAt w' bx A') : NL w bx p cs v n rows l A' w' :=
  ⟨h.own.kept hg (.inr (fun e => by have := (h.own.lt bx e).1; omega)), RdL.keep (fun b hb hlt => ⟨hb, hg.block b hlt (by intro e; have := Option.some.inj e; omega)⟩) _ _ h.red, h.pb.grown hg (by intro e; have := Option.some.inj e; omega), grown_trans h.gro hg, hA⟩
theorem NL.drew (h : NL w bx p cs v n rows l A wr) : NL w bx p cs v n rows l A wr.drew :=
  ⟨h.own, RdL.keep (w := wr) (w' := wr.drew) (fun b hb _ => ⟨hb, rfl⟩) _ _ h.red, h.pb, ⟨h.gro.os, h.gro.tape, h.gro.output, h.gro.size, h.gro.block⟩, h.box.keep fun b _ => rfl⟩
theorem NL.below (h : NL w bx p cs v n rows l A wr) {B : Nat} (hB : B ≤ bx) (hbx : bx < w.heap.size) : Below B w wr :=
  ⟨h.gro.os, h.gro.tape, h.gro.output, h.gro.size, fun i hi => h.gro.block i (by omega) (by intro e; have := Option.some.inj e; omega)⟩
end
def NmRel (w wr : World) (bx : Nat) (l : List Blk) (A : List ByteArray) (v vi : Value) : Prop :=
  ∃ (k : Nat) (rows : List (List Value)), k ≤ l.length ∧ vi = .int .i64 k ∧ wr.ownsRow w.heap.size 54 11 v k rows.flatten ∧ RdL (fun b => w.heap.size ≤ b ∧ v.ownBlock ≠ some b) wr ((Blk.nameL (l.take k) A).1.map Blk.d) rows ∧ (∀ r ∈ rows, r.length = 11) ∧ w.grownBy wr (some bx) ∧ BxAt wr bx (Blk.nameL (l.take k) A).2
def NmPost (w : World) (bx : Nat) (l : List Blk) (A : List ByteArray) (e : Ending) (w' : World) : Prop :=
  ∃ v, e = .returned v ∧ Rd (w.heap.size ≤ ·) w' (blksD (Blk.nameL l A).1) [v] ∧ BxAt w' bx (Blk.nameL l A).2 ∧ w.grownBy w' (some bx)
theorem Blk.nameL_len : ∀ (l : List Blk) (A : List ByteArray), (Blk.nameL l A).1.length = l.length
  | [], A => by simp [Blk.nameL]
  | x :: l, A => by rw [Blk.nameL]; simp [Blk.nameL_len l]

/-- Behind the copies of the attributes and the line. -/
def Nm5 (w : World) (bx p : Nat) (kd lv : Int) (i t d ti : ByteArray) (at_ : At) (li : List Inl) (vk : Value) (v : Value) (n : Nat) (rows : List (List Value)) (l : List Blk) (A : List ByteArray) (wx : World) : Prop :=
  ∃ ac1 nc1 cc1 ap1 np1 cp1 al1 nl1 cl1, NL w bx p [.int .i64 kd, .int .i64 lv, .string i, .string t, .string d, .string ti, .string at_.id, .slice ac1 nc1 cc1, .slice ap1 np1 cp1, .slice al1 nl1 cl1, vk] v n rows l A wx ∧
    AtR (p < ·) wx at_ (.slice ac1 nc1 cc1) (.slice ap1 np1 cp1) ∧ Rd (p < ·) wx (inlsD li) [.slice al1 nl1 cl1]

set_option maxRecDepth 100000 in
set_option maxHeartbeats 8000000 in
theorem named_any (n : Nat) : ∀ (l : List Blk) (B bx : Nat) (A : List ByteArray) (v : Value) (w : World), Blk.szL l ≤ n → n ≤ 1000000 → Rd (· < B) w (blksD l) [v] → B ≤ bx → bx < w.heap.size → Blk.bdL l → BxAt w bx A → Blk.bareL l ≤ A.length →
    Calls Tryz.prog 79 #[v, .func (.func 78) #[] #[.pointer (some ⟨bx, 0, none⟩)]] w (NmPost w bx l A) := by
  induction n using Nat.strongRecOn with
  | _ n ih =>
    intro l B bx A v w hn hnm hrd hB hbx hbd hbox hbare
    obtain ⟨iI, hiI, hzI0, hzI1, hzI2⟩ := info_parts infoBl
    obtain ⟨a, cap, hv, hs⟩ := Rd.sl_open hrd
    obtain rfl : v = .slice a l.length cap := by simpa using hv
    have hcap : l.length ≤ cap := by simpa using hs.le
    have hll := Blk.len_le l
    have hmx := hs.max
    have HS := Lib.hid hs
    have IH := Lib.hid ih
    have HBD := Lib.hid hbd
    have R0 : Hid (NmRel w w bx l A (.slice none 0 0) (.int .i64 0)) := ⟨0, [], Nat.zero_le _, rfl, nil_owns _ _ _ _, by rw [List.take_zero, Blk.nameL]; exact RdL.none, by simp, World.grownBy.refl _ _, by rw [List.take_zero, Blk.nameL]; exact hbox⟩
    clear hs hv hrd ih hbd hbox
    unfold maxLen at hmx
    go_enter Tryz.func79, Tryz.ntmps79
    go_wp2
    go_loopw [5, 10] (fun v vi wr => NmRel w wr bx l A v vi) (fun _ i _ => l.length - (intOf i).toNat)
    case atStart => exact R0.out
    case round =>
      obtain ⟨k, rows, hk, rfl, hown, hred, hrl, hgro, hbox⟩ := hrel
      clear R0
      by_cases hlt : k < l.length
      · obtain ⟨x, hx⟩ : ∃ x, l[k]? = some x := ⟨_, List.getElem?_eq_getElem hlt⟩
        obtain ⟨kd, lv, i, t, d, ti, at_, li, ks⟩ := x
        obtain ⟨g, off, vc, vp, vl, vk, rfl, hok, hbl, hc, hR⟩ := blks_at HS.out hx
        obtain ⟨c0, c1, c2, c3, c4, c5, c6, c7, c8, c9, c10⟩ := hc.grown hgro (by intro e; have := Option.some.inj e; omega)
        clear hc
        have hb1 := Blk.bdL_get l k _ HBD.out hx
        rw [Blk.bd] at hb1
        obtain ⟨hn1, hn2, hn3, hn4, hn5⟩ := hb1
        have hsz := Blk.szL_get l k _ hx
        rw [Blk.sz] at hsz
        obtain ⟨av, cv, rfl⟩ := own_slice hown
        obtain ⟨ac, nc, cc, rfl⟩ : ∃ ac nc cc, vc = .slice ac nc cc := by obtain ⟨a', c', h', _⟩ := Rd.sl_open hR.at_.cls; exact ⟨_, _, _, by simpa using h'⟩
        obtain ⟨ap, np, cp, rfl⟩ : ∃ ac nc cc, vp = .slice ac nc cc := by obtain ⟨a', c', h', _⟩ := Rd.sl_open hR.at_.prs; exact ⟨_, _, _, by simpa using h'⟩
        obtain ⟨al, nl, cl, rfl⟩ : ∃ ac nc cc, vl = .slice ac nc cc := by obtain ⟨a', c', h', _⟩ := Rd.sl_open hR.line; exact ⟨_, _, _, by simpa using h'⟩
        obtain ⟨ak, nk, ck, rfl⟩ : ∃ ac nc cc, vk = .slice ac nc cc := by obtain ⟨a', c', h', _⟩ := Rd.sl_open hR.kids; exact ⟨_, _, _, by simpa using h'⟩
        have HR := Lib.hid hR
        have HRL := Lib.hid hrl
        have HX := Lib.hid hx
        have HOWN := Lib.hid hown
        have HRED := Lib.hid hred
        have HGRO := Lib.hid hgro
        have HBOX := Lib.hid hbox
        have hsz1 := hgro.size
        clear hR hrl hx hown hred hgro hbox
        go_upto_region 5 with (fail)
        obtain ⟨p, hp⟩ : ∃ p, p = wr.heap.size := ⟨_, rfl⟩
        obtain ⟨wA, hwA⟩ : ∃ wA, wA = wr.alloc (.cells #[.int .i64 kd, .int .i64 lv, .string i, .string t, .string d, .string ti, .string at_.id, .slice ac nc cc, .slice ap np cp, .slice al nl cl, .slice ak nk ck] 54) := ⟨_, rfl⟩
        have hpv : (Value.slice av k cv).ownBlock ≠ some p := by rw [hp]; exact own_ne HOWN.out (Nat.le_refl _)
        have hpw : w.heap.size ≤ p := by rw [hp]; exact hsz1
        have hvp : ∀ g, (Value.slice av k cv).ownBlock = some g → g < p := fun g hg => by rw [hp]; exact (HOWN.out.lt g hg).2
        have HVP := Lib.hid hvp
        have CA : NL w bx p [.int .i64 kd, .int .i64 lv, .string i, .string t, .string d, .string ti, .string at_.id, .slice ac nc cc, .slice ap np cp, .slice al nl cl, .slice ak nk ck] (.slice av k cv) k rows (Blk.nameL (l.take k) A).1 (Blk.nameL (l.take k) A).2 wA := by
          rw [hwA, hp]
          refine ⟨HOWN.out.alloc _, RdL.keep (fun b hb hlt' => ⟨⟨hb.1, hb.2, by omega⟩, Below.heap_alloc _ _ b hlt'⟩) _ _ HRED.out, heap_alloc_new wr _, grown_trans HGRO.out ⟨rfl, rfl, rfl, by simp, fun j hj _ => Below.heap_alloc _ _ j hj⟩, HBOX.out.keep fun b hb => Below.heap_alloc _ _ b (by omega)⟩
        have hpA : wA.heap.size = p + 1 := by rw [hwA, hp]; simp
        have HPA := Lib.hid hpA
        rw [← hwA, ← hp]
        clear hwA hp HOWN HRED HGRO HBOX c0 c1 c2 c3 c4 c5 c6 c7 c8 c9 c10 hsz1 hbl hpA hvp
        have HCA := Lib.hid CA
        clear CA
        go_cut [] (fun wx => Nm5 w bx p kd lv i t d ti at_ li (.slice ak nk ck) (.slice av k cv) k rows (Blk.nameL (l.take k) A).1 (Blk.nameL (l.take k) A).2 wx)
        case first =>
          have d6 := HCA.out.pb.cell 6 _ rfl
          have d7 := HCA.out.pb.cell 7 _ rfl
          have d8 := HCA.out.pb.cell 8 _ rfl
          have d9 := HCA.out.pb.cell 9 _ rfl
          have CT := Lib.hid (copyAttr_any at_ _ _ B wA.drew (HR.out.at_.below (HCA.out.drew.below hB hbx)) (Nat.le_trans (Nat.le_trans hB (Nat.le_of_lt hbx)) HCA.out.drew.gro.size) hn1 hn2)
          have CLN := Lib.hid (fun (wq : World) (h : NL w bx p [.int .i64 kd, .int .i64 lv, .string i, .string t, .string d, .string ti, .string at_.id, .slice ac nc cc, .slice ap np cp, .slice al nl cl, .slice ak nk ck] (.slice av k cv) k rows (Blk.nameL (l.take k) A).1 (Blk.nameL (l.take k) A).2 wq) => copyLine_any 1000000 li B (.slice al nl cl) wq hn4 (Nat.le_refl _) (HR.out.line.below (h.below hB hbx)) (Nat.le_trans (Nat.le_trans hB (Nat.le_of_lt hbx)) h.gro.size) hn3)
          go_region_with (first
            | (go_at_call 143; refine CT.out.mono ?_; rintro e w1 ⟨vc1, vp1, rfl, hat1, b1⟩; have C1 := HCA.out.drew.grown hbx (grown_below b1); have e9 := C1.pb.cell 9 _ rfl; obtain ⟨ac1, nc1, cc1, rfl⟩ := Rd.sl_form hat1.cls; obtain ⟨ap1, np1, cp1, rfl⟩ := Rd.sl_form hat1.prs)
            | (go_at_call 144; refine (CLN.out _ (by assumption)).mono ?_; rintro e w2 ⟨vl1, rfl, hli1, b2⟩; have C2 := NL.grown (by assumption) hbx (grown_below b2); have e6 := C2.pb.cell 6 _ rfl; have e7 := C2.pb.cell 7 _ rfl; have e8 := C2.pb.cell 8 _ rfl; have e9 := C2.pb.cell 9 _ rfl; have f6 := C2.pb.free 6; have f7 := C2.pb.free 7; have f8 := C2.pb.free 8; have f9 := C2.pb.free 9; obtain ⟨al1, nl1, cl1, rfl⟩ := Rd.sl_form hli1))
          all_goals
            have hpl := C1.pb.lt
            have at2 := (hat1.weaken (ok' := (p < ·)) (fun b hb => by have e : wA.drew.heap.size = p + 1 := HPA.out; omega)).above (Above.grown (grown_below b2))
            have li2 := hli1.weaken (ok' := (p < ·)) (fun b hb => by omega)
            have AT2 := Lib.hid at2
            have LI2 := Lib.hid li2
            have HC2 := Lib.hid C2
            clear hat1 hli1 at2 li2 C1 C2
            go_wp2_with fail
            go_meet
            exact ⟨ac1, nc1, cc1, ap1, np1, cp1, al1, nl1, cl1, (((HC2.out.set hpw hbx hpv 6 _).set hpw hbx hpv 7 _).set hpw hbx hpv 8 _).set hpw hbx hpv 9 _,
              (((AT2.out.above (Above.set 6 _)).above (Above.set 7 _)).above (Above.set 8 _)).above (Above.set 9 _), (((LI2.out.above (Above.set 6 _)).above (Above.set 7 _)).above (Above.set 8 _)).above (Above.set 9 _)⟩
        case rest =>
          obtain ⟨ac1, nc1, cc1, ap1, np1, cp1, al1, nl1, cl1, C5, at5, li5⟩ := hcut
          have HC5 := Lib.hid C5
          have AT5 := Lib.hid at5
          have LI5 := Lib.hid li5
          have hbk := Blk.bareL_get l k _ HX.out
          rw [Blk.bare] at hbk
          have hrest := Blk.nameL_rest (l.take k) A (by omega)
          have HTK := Lib.hid (Blk.nameL_take l A k _ HX.out)
          rw [Blk.name] at HTK
          clear C5 at5 li5 HCA
          generalize hpre : Blk.nameL (l.take k) A = pre at *
          obtain ⟨done, Ak⟩ := pre
          simp only at hrest HC5 HTK
          clear hpre
          obtain ⟨id1, A1, hid⟩ : ∃ id1 A1, (id1, A1) = if kd = 2 ∧ at_.id.data.toList = [] then (Ak.headD at_.id, Ak.tail) else (at_.id, Ak) := ⟨_, _, rfl⟩
          have HID := Lib.hid hid
          have hA1 : Blk.bareL ks ≤ A1.length := by
            split at hid
            · rename_i h; rw [if_pos h] at hbk; obtain ⟨rfl, rfl⟩ := Prod.mk.inj hid; rw [List.length_tail]; omega
            · rename_i h; rw [if_neg h] at hbk; obtain ⟨rfl, rfl⟩ := Prod.mk.inj hid; omega
          have HNM : Hid (Blk.nameL (l.take (k + 1)) A = (done ++ [.mk kd lv i t d ti { at_ with id := id1 } li (Blk.nameL ks A1).1], (Blk.nameL ks A1).2)) := by
            show _ = _
            rw [HTK.out]
            split at hid
            · rename_i h; rw [if_pos h]; obtain ⟨rfl, rfl⟩ := Prod.mk.inj hid; rfl
            · rename_i h; rw [if_neg h]; obtain ⟨rfl, rfl⟩ := Prod.mk.inj hid; rfl
          clear hid HTK
          have e0 := HC5.out.pb.cell 0 _ rfl
          have e6 := HC5.out.pb.cell 6 _ rfl
          obtain ⟨w5, hw5⟩ : ∃ w5 : World, w5 = wc := ⟨_, rfl⟩
          subst hw5
          go_upto_region 6 with (fail)
          go_cut [30] (fun s30 wx => s30 = .bool (decide (kd = 2 ∧ at_.id.data.toList = [])) ∧ w5 = wx)
          case first =>
            by_cases h2 : kd = 2
            · subst h2
              by_cases h0 : at_.id.data.toList = []
              · have q1 : at_.id.toList = [] := by rw [Lib.toList_data]; exact h0
                have q2 : at_.id.toList.isEmpty = true := by rw [q1]; rfl
                go_wp2_with fail
                go_meet
                exact ⟨by simp [h0], rfl⟩
              · have q2 : at_.id.toList.isEmpty = false := by rw [Lib.toList_data]; cases h : at_.id.data.toList <;> simp_all
                go_wp2_with fail
                go_meet
                exact ⟨by simp [h0], rfl⟩
            · have q1 : (kd == 2) = false := beq_false_of_ne h2
              go_wp2_with fail
              go_meet
              exact ⟨by simp [h2], rfl⟩
          case rest =>
            obtain ⟨rfl, rfl⟩ := hcut
            clear e0 e6
            go_upto_if 30 with (fail)
            go_cut [] (fun wx => NL w bx p [.int .i64 kd, .int .i64 lv, .string i, .string t, .string d, .string ti, .string id1, .slice ac1 nc1 cc1, .slice ap1 np1 cp1, .slice al1 nl1 cl1, .slice ak nk ck] (.slice av k cv) k rows done A1 wx ∧ Above p w5 wx)
            case first =>
              by_cases hcnd : kd = 2 ∧ at_.id.data.toList = []
              · have hid2 := HID.out
                rw [if_pos hcnd] at hid2
                obtain ⟨hi1, hi2⟩ := Prod.mk.inj hid2
                have hne : 1 ≤ Ak.length := by rw [if_pos hcnd] at hbk; omega
                obtain ⟨x1, A2, rfl⟩ : ∃ x1 A2, Ak = x1 :: A2 := by cases Ak with
                  | nil => simp at hne
                  | cons x l => exact ⟨_, _, rfl⟩
                simp only [List.headD_cons, List.tail_cons] at hi1 hi2
                subst hi1 hi2
                have TK := Lib.hid (take_any id1 A1 bx w5 HC5.out.box)
                rw [show decide (kd = 2 ∧ at_.id.data.toList = []) = true from decide_eq_true hcnd]
                clear hid2
                go_wp2_with fail
                refine TK.out.mono ?_
                rintro e w6 ⟨rfl, hb6, hg6⟩
                have C6 := HC5.out.took hpw hbx hg6 hb6
                have HC6 := Lib.hid C6
                have AB6 : Hid (Above p w5 w6) := fun b hb hlt' => hg6.block b hlt' (by intro e; have := Option.some.inj e; omega)
                have e6 := C6.pb.cell 6 _ rfl
                have f6 := C6.pb.free 6
                clear C6 hb6 hg6 TK
                go_wp2_with fail
                go_meet
                refine ⟨HC6.out.set hpw hbx hpv 6 _, fun b hb hlt' => ?_⟩
                exact (Above.set 6 _ b hb (lt_same (AB6.out b hb hlt') hlt')).trans (AB6.out b hb hlt')
              · have hid2 := HID.out
                rw [if_neg hcnd] at hid2
                obtain ⟨rfl, rfl⟩ := Prod.mk.inj hid2
                rw [show decide (kd = 2 ∧ at_.id.data.toList = []) = false from decide_eq_false hcnd]
                go_wp2_with fail
                go_meet
                exact ⟨HC5.out, fun b _ _ => rfl⟩
            case rest =>
              obtain ⟨C7, AB7⟩ := hcut
              obtain ⟨w7, hw7⟩ : ∃ w7 : World, w7 = wc := ⟨_, rfl⟩
              subst hw7
              have HC7 := Lib.hid C7
              have AT7 : Hid (AtR (p < ·) w7 { at_ with id := id1 } (.slice ac1 nc1 cc1) (.slice ap1 np1 cp1)) := ⟨(AT5.out.above AB7).cls, (AT5.out.above AB7).prs⟩
              have LI7 := Lib.hid (LI5.out.above AB7)
              have d10 := C7.pb.cell 10 _ rfl
              have hp7 := C7.pb.lt
              have IK := Lib.hid (IH.out (Blk.szL ks) (by omega) ks B bx A1 (.slice ak nk ck) w7 (Nat.le_refl _) (by omega) (HR.out.kids.below (C7.below hB hbx)) hB (by have := C7.gro.size; omega) hn5 C7.box hA1)
              clear C7 HC5 AT5 LI5 AB7 hbk hrest HID
              go_wp2_with fail
              refine IK.out.mono ?_
              rintro e w8 ⟨vk1, rfl, hk1, hb8, hg8⟩
              obtain ⟨ak1, nk1, ck1, rfl⟩ := Rd.sl_form hk1
              have C8 := HC7.out.took hpw hbx hg8 hb8
              have HC8 := Lib.hid C8
              have AB8 : Above p w7 w8 := fun b hb hlt' => hg8.block b hlt' (by intro e; have := Option.some.inj e; omega)
              have AT8 := Lib.hid (AT7.out.above AB8)
              have LI8 := Lib.hid (LI7.out.above AB8)
              have RK8 := Lib.hid (hk1.weaken (ok' := (p < ·)) (fun b hb => by omega))
              have d10 := C8.pb.cell 10 _ rfl
              have f10 := C8.pb.free 10
              clear C8 HC7 AT7 LI7 IK hk1 hb8 hg8 AB8 hp7
              go_upto_region 9 with (fail)
              obtain ⟨w9, hw9⟩ : ∃ w9, w9 = w8.setCell ⟨p, 10, none⟩ (.slice ak1 nk1 ck1) := ⟨_, rfl⟩
              have C9 : NL w bx p [.int .i64 kd, .int .i64 lv, .string i, .string t, .string d, .string ti, .string id1, .slice ac1 nc1 cc1, .slice ap1 np1 cp1, .slice al1 nl1 cl1, .slice ak1 nk1 ck1] (.slice av k cv) k rows done (Blk.nameL ks A1).2 w9 := by
                rw [hw9]; exact HC8.out.set hpw hbx hpv 10 _
              have BL9 : Hid (BlR (p < ·) w9 { at_ with id := id1 } li (Blk.nameL ks A1).1 (.slice ac1 nc1 cc1) (.slice ap1 np1 cp1) (.slice al1 nl1 cl1) (.slice ak1 nk1 ck1)) := by
                show BlR _ _ _ _ _ _ _ _ _
                rw [hw9]
                exact ⟨AT8.out.above (Above.set 10 _), LI8.out.above (Above.set 10 _), RK8.out.above (Above.set 10 _)⟩
              rw [← hw9]
              clear hw9 d10 f10 HC8 AT8 LI8 RK8
              have HC9 := Lib.hid C9
              have e0 := C9.pb.cell 0 _ rfl
              have e1 := C9.pb.cell 1 _ rfl
              have e2 := C9.pb.cell 2 _ rfl
              have e3 := C9.pb.cell 3 _ rfl
              have e4 := C9.pb.cell 4 _ rfl
              have e5 := C9.pb.cell 5 _ rfl
              have e6 := C9.pb.cell 6 _ rfl
              have e7 := C9.pb.cell 7 _ rfl
              have e8 := C9.pb.cell 8 _ rfl
              have e9 := C9.pb.cell 9 _ rfl
              have e10 := C9.pb.cell 10 _ rfl
              have hs9 := C9.gro.size
              clear C9
              go_wp2_with (at_builtin; refine wpList_append_any _ rfl (.tmp 40) (.tmp 42) 23 rfl w.heap.size 54 iI _ 11 192 Tryz.underlying23 hiI hzI0 hzI1 hzI2 rfl (by decide) (.slice av k cv) k rows.flatten rfl (HC9.out.own.alloc _) (w9.heap.size + 1) (some ⟨w9.heap.size, 0, none⟩) 1 1 [.int .i64 kd, .int .i64 lv, .string i, .string t, .string d, .string ti, .string id1, .slice ac1 nc1 cc1, .slice ap1 np1 cp1, .slice al1 nl1 cl1, .slice ak1 nk1 ck1] rfl ?g1 ?g2 ?g3 ?g4 ?g5 ?_)
              case g1 => exact ⟨rfl, fun _ => ⟨_, rfl, by simp, new_cells w9 [.int .i64 kd, .int .i64 lv, .string i, .string t, .string d, .string ti, .string id1, .slice ac1 nc1 cc1, .slice ap1 np1 cp1, .slice al1 nl1 cl1, .slice ak1 nk1 ck1] _⟩⟩
              case g2 => intro u hu; simp at hu; rcases hu with rfl | rfl | rfl | rfl | rfl | rfl | rfl | rfl | rfl | rfl | rfl <;> rfl
              case g3 => unfold maxLen; omega
              case g4 => omega
              case g5 => simp; omega
              intro v' wz hown' hgrow hat
              have hvb : (Value.slice av k cv).ownBlock ≠ some bx := fun e => by have := (HC9.out.own.lt bx e).1; omega
              have hh : ∀ b, b < w9.heap.size → (Value.slice av k cv).ownBlock ≠ some b → wz.heap[b]? = w9.heap[b]? := fun b hb hne =>
                (hgrow.block b (by rw [World.size_alloc]; omega) (fun e => hne e.symm)).trans (Below.heap_alloc _ _ b hb)
              have GZ : Hid (w.grownBy wz (some bx)) := by
                have g9 := HC9.out.gro
                refine ⟨hgrow.os.trans g9.os, hgrow.tape.trans g9.tape, hgrow.output.trans g9.output, by have := hgrow.size; rw [World.size_alloc] at this; omega, fun j hj hne => ?_⟩
                exact (hh j (by omega) (fun e => by have := (HC9.out.own.lt j e).1; omega)).trans (g9.block j hj hne)
              have BZ := Lib.hid (HC9.out.box.keep (w' := wz) fun b hb => hh b (by omega) (fun e => by have := (HC9.out.own.lt b e).1; omega))
              have RED : Hid (RdL (fun b => w.heap.size ≤ b ∧ v'.ownBlock ≠ some b) wz ((done ++ [Blk.mk kd lv i t d ti { at_ with id := id1 } li (Blk.nameL ks A1).1]).map Blk.d) (rows ++ [[.int .i64 kd, .int .i64 lv, .string i, .string t, .string d, .string ti, .string id1, .slice ac1 nc1 cc1, .slice ap1 np1 cp1, .slice al1 nl1 cl1, .slice ak1 nk1 ck1]])) := by
                have hv' : ∀ b, b < w9.heap.size → (Value.slice av k cv).ownBlock ≠ some b → v'.ownBlock ≠ some b := by
                  intro b hb hne
                  rcases hat with e | e
                  · rw [e]; exact hne
                  · rw [e]; intro h; have := Option.some.inj h; omega
                show RdL _ _ _ _
                rw [List.map_append]
                refine RdL.app (RdL.keep (fun b hb hlt' => ⟨⟨hb.1, hv' b hlt' hb.2.1⟩, hh b hlt' hb.2.1⟩) _ _ HC9.out.red) (RdL.one ?_)
                refine Rd.keep (fun b hb hlt' => ?_) _ _ (Blk.mk_ kd lv i t d ti BL9.out)
                have hne : (Value.slice av k cv).ownBlock ≠ some b := fun e => by have := HVP.out b e; omega
                exact ⟨⟨by omega, hv' b hlt' hne⟩, hh b hlt' hne⟩
              have HOW := Lib.hid hown'
              clear hown' hgrow hat hh hvb e0 e1 e2 e3 e4 e5 e6 e7 e8 e9 e10
              go_wp2
              go_roundw
              case rel =>
                refine ⟨k + 1, rows ++ [[.int .i64 kd, .int .i64 lv, .string i, .string t, .string d, .string ti, .string id1, .slice ac1 nc1 cc1, .slice ap1 np1 cp1, .slice al1 nl1 cl1, .slice ak1 nk1 ck1]], by omega, by go_num, ?_, ?_, ?_, GZ.out, ?_⟩
                · rw [List.flatten_append]; simpa using HOW.out
                · rw [HNM.out]; exact RED.out
                · intro r hr
                  rcases List.mem_append.1 hr with hr | hr
                  · exact HRL.out r hr
                  · simp at hr; subst hr; rfl
                · rw [HNM.out]; exact BZ.out
              case measure => simp [intOf]; omega
      · have hkl : k = l.length := by omega
        subst hkl
        rw [List.take_length] at hred hbox
        have HO := Lib.hid hown
        have HRE := Lib.hid hred
        have HRL := Lib.hid hrl
        have HBX := Lib.hid hbox
        clear hown hred hrl hbox
        go_wp2
        go_ret
        refine ⟨_, rfl, Rd.sl_own (rows := rows) (B := w.heap.size) (e := 54) ?_ (RdL.keep (fun b hb _ => ⟨hb.1, rfl⟩) _ _ HRE.out) HRL.out (fun g hg => (HO.out.lt g hg).1), HBX.out, hgro⟩
        rw [List.length_map, Blk.nameL_len]; exact HO.out
end Go.Proofs.YtjobjicdfoklpaaGreatDoor

namespace Go.Proofs.YtjobjicdfoklpaaGreatDoor
open Go.RowKit Go.Shelf
set_option linter.unusedVariables false
set_option linter.unusedSimpArgs false

theorem grown_of_below {w w' : World} (h : Below w.heap.size w w') : w.grownBy w' none := ⟨h.os, h.tape, h.output, h.size, fun b hlt _ => h.block b hlt⟩
theorem KpA.refl (S : Nat) (W : World) : KpA S W W := ⟨rfl, rfl, rfl, Nat.le_refl _, fun _ _ _ _ => rfl, fun _ _ _ _ h _ _ => h⟩
/-- A row of inlines of one's own, read later on. -/
theorem inl_row {W1 wr : World} {S B : Nat} {v : Value} {inl : List Inl} {rows : List (List Value)} (hown : W1.ownsRow B 47 10 v inl.length rows.flatten) (hrd : RdL (fun _ => True) W1 (inl.map Inl.d) rows) (h10 : ∀ r ∈ rows, r.length = 10) (hk : KpA S W1 wr)
    {k : Nat} {kd : Int} {t d ti : ByteArray} {at_ : At} {ar : List ByteArray} {ci : List Ci} {ks : List Inl} (hx : inl[k]? = some (.mk kd t d ti at_ ar ci ks)) :
    ∃ g cap ac nc cc ap np cp aa na ca ai ni ci ak nk ck, v = .slice (some ⟨g, 0, none⟩) inl.length cap ∧ InCells wr g (k * 10) kd t d ti at_.id (.slice ac nc cc) (.slice ap np cp) (.slice aa na ca) (.slice ai ni ci) (.slice ak nk ck) := by
  have hlt : k < inl.length := (List.getElem?_eq_some_iff.1 hx).1
  obtain ⟨r, hr, hrd1⟩ := hrd.get k _ (by rw [List.getElem?_map, hx]; rfl)
  obtain ⟨vc, vp, va, vi, vk, hcs, hR⟩ := Inl.open_ hrd1
  obtain ⟨ac, nc, cc, rfl⟩ := Rd.sl_form hR.at_.cls
  obtain ⟨ap, np, cp, rfl⟩ := Rd.sl_form hR.at_.prs
  obtain ⟨aa, na, ca, rfl⟩ := Rd.sl_form hR.args
  obtain ⟨ai, ni, ci, rfl⟩ := Rd.sl_form hR.cites
  obtain ⟨ak, nk, ck, rfl⟩ := Rd.sl_form hR.kids
  obtain ⟨g, cap, rfl, hcap⟩ := own_form hown (by omega)
  refine ⟨g, cap, ac, nc, cc, ap, np, cp, aa, na, ca, ai, ni, ci, ak, nk, ck, rfl, InCells.of hcs fun j u hu => ?_⟩
  have hf := flat_get 10 rows h10 k j r u hr hu
  obtain ⟨cur, hc⟩ := own_cells hown (r := g) rfl
  have hkc := hk.cel g cur 47 (0, 0) hc (by decide) (by decide)
  have h1 : wr.heap[g]? = W1.heap[g]? := hkc.trans hc.symm
  rw [cell_same h1]
  have hj : j < 10 := by
    have h5 := (List.getElem?_eq_some_iff.1 hu).1
    have := h10 r (List.mem_of_getElem? hr)
    omega
  exact (hown.cellAt (k * 10 + j) (by omega)).trans hf

/-- What the loop over the inlines holds. -/
def LpI (S D : Nat) (W0 W1 : World) (ub tb : List ByteArray) (vt : Value) (inl : List Inl) (vi : Value) (wr : World) : Prop :=
  ∃ (k : Nat) (vu : Value), k ≤ inl.length ∧ vi = .int .i64 k ∧ TB S (S + 2) (S + 3) W0 (ub ++ usedI (inl.take k)) tb vu vt wr ∧ KpA S W1 wr ∧ wr.heap[D]? = some (.deferred (some []))
theorem usedI_snoc (l : List Inl) (k : Nat) (x : Inl) (h : l[k]? = some x) : usedI (l.take (k + 1)) = usedI (l.take k) ++ (x.id1).toList := by
  unfold usedI
  rw [List.take_add_one, h, List.filterMap_append]
  cases e : x.id1 <;> simp [e]
theorem usedI_len (l : List Inl) (k : Nat) : (usedI (l.take k)).length ≤ k :=
  Nat.le_trans (List.length_filterMap_le _ _) (by simp; omega)
theorem stepIn_append_any {F : Fence} {nF : Nat} {P : Program} {w : World} {ops : Array Oper} {o : Oper} {a : Act} {K : Act → World → Prop} {Q : Exit → Act → World → Prop} {E : Prop} (hgd : o.guard = none) (s x : Operand) (t : TypeId)
    (ho : o.op = .call { callee := .builtin .append, args := #[s, x], argTypes := #[t, t] })
    (base : Nat) (e : TypeId) (i : TypeInfo) (z : Value) (size bytes : Nat) (ht : P.underlying t = some (.slice e)) (hi : P.info? e = some i) (hz : i.zero = some z)
    (hsize : i.size = size) (hby : i.bytes = bytes) (hzs : z.cells.size = size) (hsz : 0 < size)
    (v : Value) (n : Nat) (xs : List Value) (hs : a.eval s = v) (hown : w.ownsRow base e size v n xs)
    (B : Nat) (A : Option Addr) (m c : Nat) (news : List Value) (hx : a.eval x = .slice A m c) (hr : Reads w B size A m news) (h1 : ∀ u ∈ news, u.oneCell' = true)
    (h63 : n + m ≤ maxLen) (hbytes : (n + m) * bytes ≤ 140737488355328) (hbase : base ≤ w.heap.size)
    (h : ∀ v' w', w'.ownsRow base e size v' (n + m) (xs ++ news) → w.grownBy w' v.ownBlock → (v'.ownBlock = v.ownBlock ∨ v'.ownBlock = some w.heap.size) → K (a.put o.dst v') w') :
    if Region.wanted o (yielded ops a.tmps) = true then o.wpIn F nF P a w K Q else E := by
  rw [if_pos (by simp [Region.wanted, hgd])]
  obtain ⟨v', w', hrun, h2, h3, h4⟩ := run_append_any (P := P) w base t o.type e i z size bytes ht hi hz hsize hby hzs hsz v n xs hown B A m c news hr h1 h63 hbytes hbase
  unfold Oper.wpIn
  refine ⟨by simp [Oper.about, ho, resolve, Target.leads, Sem.run_pure], ?_⟩
  rw [Oper.semAt_plain F _ _ (by rw [ho]; intro c hc'; cases hc')]
  simp [execOp, ho, resolve, invoke, builtin, hs, hx, hrun, Result.andThen]
  exact h v' w' h2 h3 h4

theorem TB.bel {S p q : Nat} {w W0 W : World} {us ts : List ByteArray} {vu vt : Value} (h : TB S p q W0 us ts vu vt W) (hp : S ≤ p) (hq : S ≤ q) (hb : Below S w W0) (hS : S = w.heap.size) : Below S w W :=
  ⟨h.os.trans hb.os, h.tape.trans hb.tape, h.output.trans hb.output, by have := h.size; omega, fun b hlt => (h.blk b (by omega) (by omega) (by omega)).trans (hb.block b hlt)⟩
mutual
theorem textB_each : ∀ (x : Blk), (textB x.each).length = x.bare
  | .mk k _ _ _ _ _ a _ ks => by
    have h := textB_eachL ks
    unfold textB at h ⊢
    rw [Blk.each, Blk.bare, List.filterMap_cons]
    by_cases h1 : a.id.data.toList = []
    · by_cases h2 : k = 2
      · simp [Blk.tx1, h1, h2, h]; omega
      · simp [Blk.tx1, h1, h2, h]
    · simp [Blk.tx1, h1, h]
theorem textB_eachL : ∀ (l : List Blk), (textB (Blk.eachL l)).length = Blk.bareL l
  | [] => by rw [Blk.eachL, Blk.bareL]; rfl
  | x :: l => by
    have h1 := textB_each x
    have h2 := textB_eachL l
    unfold textB at h1 h2 ⊢
    rw [Blk.eachL, Blk.bareL, List.filterMap_append, List.length_append, h1, h2]
end
theorem allA_len (l used : List ByteArray) : (allA l used).length = l.length := by unfold allA; rw [allG_len, List.length_map]
/-- What is known ahead of slug.named. -/
structure AF (S D bx : Nat) (w : World) (A : List ByteArray) (vm vb : Value) (W : World) : Prop where
  bel : Below S w W
  doc : W.heap[S]? = some (.cells #[vm, vb] 25 (0, 0))
  res : W.heap[S + 1]? = some (.cells #[.slice none 0 0, .slice none 0 0] 25 (0, 0))
  box : BxAt W bx A
  dfr : W.heap[D]? = some (.deferred (some []))
  lt : bx < W.heap.size
section
variable {S D bx : Nat} {w W W' : World} {A : List ByteArray} {vm vb : Value}
theorem at_lt {o : Obj} {b : Nat} (h : W.heap[b]? = some o) : b < W.heap.size := (Array.getElem?_eq_some_iff.1 h).1
theorem AF.grown (h : AF S D bx w A vm vb W) (hg : W.grownBy W' none) (hS : S ≤ W.heap.size) : AF S D bx w A vm vb W' :=
  ⟨⟨hg.os.trans h.bel.os, hg.tape.trans h.bel.tape, hg.output.trans h.bel.output, Nat.le_trans h.bel.size hg.size, fun b hb => (hg.block b (by omega) (by simp)).trans (h.bel.block b hb)⟩,
    (hg.block _ (at_lt h.doc) (by simp)).trans h.doc, (hg.block _ (at_lt h.res) (by simp)).trans h.res, h.box.keep (fun b hb => hg.block b (by have := h.lt; omega) (by simp)), (hg.block _ (at_lt h.dfr) (by simp)).trans h.dfr, Nat.lt_of_lt_of_le h.lt hg.size⟩
theorem AF.c0 (h : AF S D bx w A vm vb W) : W.cell? ⟨S, 0, none⟩ = some vm := by simp [World.cell?, h.doc]
theorem AF.c1 (h : AF S D bx w A vm vb W) : W.cell? ⟨S, 1, none⟩ = some vb := by simp [World.cell?, h.doc]
/-- The world at the end. -/
def fin (S D : Nat) (w : World) (a b : Value) : World := ((w.setCell ⟨S + 1, 0, none⟩ a).setCell ⟨S + 1, 1, none⟩ b).putObj D (.deferred none)
theorem fin_same (a b : Value) {i : Nat} (h1 : i ≠ S + 1) (h2 : i ≠ D) : (fin S D w a b).heap[i]? = w.heap[i]? :=
  (World.putObj_heap_other (by omega)).trans ((Below.heap_setCell _ ⟨S + 1, 1, none⟩ b i h1).trans (Below.heap_setCell _ ⟨S + 1, 0, none⟩ a i h1))
theorem fin_res (a b : Value) {x y : Value} {t : TypeId} (h : w.heap[S + 1]? = some (.cells #[x, y] t (0, 0))) (h2 : D ≠ S + 1) : (fin S D w a b).heap[S + 1]? = some (.cells #[a, b] t (0, 0)) := by
  refine (World.putObj_heap_other (by omega)).trans ?_
  simp [World.setCell, Array.getElem?_modify, h]
theorem fin_dfr (a b : Value) {o : Obj} (h : w.heap[D]? = some o) (h2 : D ≠ S + 1) : ((w.setCell ⟨S + 1, 0, none⟩ a).setCell ⟨S + 1, 1, none⟩ b).heap[D]? = some o :=
  ((Below.heap_setCell _ ⟨S + 1, 1, none⟩ b D h2).trans (Below.heap_setCell _ ⟨S + 1, 0, none⟩ a D h2)).trans h
theorem fin_size (a b : Value) : (fin S D w a b).heap.size = w.heap.size := by simp [fin, World.putObj, World.setCell]
end
theorem pairs_one {ok : Nat → Prop} {w : World} {l : List Pr} {rows : List (List Value)} (h : RdL ok w (l.map Pr.d) rows) : ∀ u ∈ rows.flatten, u.oneCell' = true := by
  intro u hu
  obtain ⟨r, hr, hu⟩ := List.mem_flatten.1 hu
  obtain ⟨j, hj, rfl⟩ := List.mem_iff_getElem.1 hr
  have hj2 : j < (l.map Pr.d).length := by rw [← h.len]; exact hj
  obtain ⟨r', hr', hd⟩ := h.get j _ (List.getElem?_eq_getElem hj2)
  rw [List.getElem?_eq_getElem hj] at hr'
  obtain rfl := Option.some.inj hr'
  rw [List.getElem_map] at hd
  rw [Pr.open_ hd] at hu
  simp at hu
  rcases hu with rfl | rfl <;> rfl
theorem grown_drew2 {w w' : World} {r : Option Nat} (h : w.grownBy w' r) : w.grownBy w'.drew r := ⟨h.os, h.tape, h.output, h.size, h.block⟩
/-- What is asked only of the normal way. -/
def NormQ (Q : Exit → Act → World → Prop) : Exit → Act → World → Prop := fun e a w => e = .normal ∧ Q e a w
theorem wpInQ {F : Fence} {n : Nat} {P : Program} {Q Q' : Exit → Act → World → Prop} (hQ : ∀ e a w, Q e a w → Q' e a w) {o : Oper} {a : Act} {w : World} {K K' : Act → World → Prop} (h : ∀ a w, K a w → K' a w)
    (hh : o.wpIn F n P a w K Q) : o.wpIn F n P a w K' Q' := by
  unfold Oper.wpIn at *
  refine ⟨hh.1, ?_⟩
  have hh := hh.2
  generalize (o.semAt F.round a.eval).run P w = r at *
  cases r with
  | ok x w' =>
    cases x <;> simp only [Oper.uponIn] at hh ⊢ <;>
      first
        | exact h _ _ hh
        | exact ⟨hh.1, CallsIn.mono hh.2 (fun e w'' he => by
            cases e
            · exact h _ _ he
            · exact hQ _ _ _ he
            · obtain ⟨a', w3, h3⟩ := he; exact ⟨a', w3, hQ _ _ _ h3⟩)⟩
        | exact ⟨hh.1, RowsIn.mono hh.2 (fun _ _ he => h _ _ he)⟩
        | exact ⟨hh.1, RoundIn.mono hh.2 (fun e w'' he => by
            cases e
            · exact h _ _ he
            · exact hQ _ _ _ he
            · obtain ⟨a', w3, h3⟩ := he; exact ⟨a', w3, hQ _ _ _ h3⟩)⟩
  | halt x w' => cases x <;> simp only [Oper.uponIn] at hh ⊢ <;> first | exact hh | exact hQ _ _ _ hh
theorem wpOpInQ {F : Fence} {n : Nat} {P : Program} {ops : Array Oper} {Q Q' : Exit → Act → World → Prop} (hQ : ∀ e a w, Q e a w → Q' e a w) {i : Nat} {a : Act} {w : World} {K K' : Act → World → Prop} (h : ∀ a w, K a w → K' a w)
    (hh : wpOpIn F n P ops Q i K a w) : wpOpIn F n P ops Q' i K' a w := by
  unfold wpOpIn at *
  split
  · exact h _ _ (by simpa [*] using hh)
  · rename_i o ho
    simp only [ho] at hh
    split
    · rename_i hw; simp only [hw, if_true] at hh; exact wpInQ hQ h hh
    · rename_i hw; simp only [hw] at hh; exact ⟨hh.1, h _ _ hh.2⟩
theorem wpAnyInQ {F : Fence} {n : Nat} {P : Program} {md : Region.Mode} {ops : Array Oper} {Q Q' : Exit → Act → World → Prop} (hQ : ∀ e a w, Q e a w → Q' e a w) : ∀ (fuel : Nat) (listed : Array Bool) (a : Act) (w : World), wpAnyIn F n P md ops Q fuel listed a w → wpAnyIn F n P md ops Q' fuel listed a w
  | 0, _, _, _, h => ⟨h.1, hQ _ _ _ h.2⟩
  | fuel + 1, listed, a, w, h => ⟨fun e => hQ _ _ _ (h.1 e), fun i hi => wpOpInQ hQ (fun a' w' h' => wpAnyInQ hQ fuel _ a' w' h') (h.2 i hi)⟩
theorem wpAnyIn_norm {F : Fence} {n : Nat} {P : Program} {md : Region.Mode} {ops : Array Oper} {Q : Exit → Act → World → Prop} {fuel : Nat} {listed : Array Bool} {a : Act} {w : World} (h : wpAnyIn F n P md ops (NormQ Q) fuel listed a w) : wpAnyIn F n P md ops Q fuel listed a w :=
  wpAnyInQ (fun _ _ _ h => h.2) fuel listed a w h
theorem norm_panic {Q : Exit → Act → World → Prop} {d : Option Tmp} {v : Value} : ∀ c a w, NormQ Q (.panic c) (Act.put a d v) w → NormQ Q (.panic c) a w := fun _ _ _ h => by cases h.1
end Go.Proofs.YtjobjicdfoklpaaGreatDoor

namespace Go.Proofs.YtjobjicdfoklpaaGreatDoor
open Go.RowKit Go.Shelf
set_option linter.unusedVariables false
set_option linter.unusedSimpArgs false

attribute [local go_sem] Oper.semAt_some

def Blk.plLen : Blk → Nat
  | .mk _ _ _ _ _ _ _ li _ => (Inl.plainL li).length
/-- What the loop over the blocks holds. -/
def plOk (b : Blk) : Prop := b.plLen ≤ 100000000
def AnI (S : Nat) (w W0 : World) (pre : List (BW S w plOk)) (W : World) : Prop :=
  ∃ vu vt, TB S (S + 2) (S + 3) W0 (usedB (blksOf pre)) (textB (blksOf pre)) vu vt W

mutual
theorem Blk.each_len : ∀ (x : Blk), x.each.length ≤ x.sz
  | .mk _ _ _ _ _ _ _ _ ks => by rw [Blk.each, Blk.sz, List.length_cons]; have := Blk.eachL_len ks; omega
theorem Blk.eachL_len : ∀ (l : List Blk), (Blk.eachL l).length ≤ Blk.szL l
  | [] => by rw [Blk.eachL]; exact Nat.zero_le _
  | x :: l => by rw [Blk.eachL, Blk.szL, List.length_append]; have := Blk.each_len x; have := Blk.eachL_len l; omega
end
theorem at_new {w : World} {o : Obj} {n : Nat} (h : w.heap.size = n) : (w.alloc o).heap[n]? = some o := h ▸ heap_alloc_new w o
theorem at_old {w : World} {o o' : Obj} {n : Nat} (h : w.heap[n]? = some o') : (w.alloc o).heap[n]? = some o' := (Below.heap_alloc w o n (Array.getElem?_eq_some_iff.1 h).1).trans h
/-- The cells of a block. -/
def BV.cells (x : BV) : List Value := [.int .i64 x.kd, .int .i64 x.lv, .string x.i, .string x.t, .string x.d, .string x.ti, .string x.at_.id, x.vc, x.vp, x.vl, x.vk]
/-- The frame in a round: the block lies in a box. -/
def AnA (S : Nat) (vm vb : Value) (x : BV) (Bx : Nat) : Act :=
  { tmps := #[.agg #[vm, vb], .pointer (some ⟨S, 0, none⟩), .pointer (some ⟨S + 1, 0, none⟩), .pointer (some ⟨S + 2, 0, none⟩), .pointer (some ⟨S + 3, 0, none⟩), .pointer (some ⟨Bx, 0, none⟩), undef, undef, undef, undef, .pointer (some ⟨S, 1, none⟩), vb, .func (.func 136) #[] #[.pointer (some ⟨S + 4, 0, none⟩)], x.enc, undef, undef, undef, undef, undef, undef, undef, undef, undef, undef, undef, undef, undef, undef, undef, undef, undef, undef, undef, undef, undef, undef, undef, undef, undef, undef, undef, undef, undef, undef, undef, undef, undef, undef, undef, undef, undef, undef, undef, undef, undef, undef, undef, undef, undef, undef, undef, undef, undef, undef], defers := [] }
def AnX (S : Nat) (vm vb : Value) (x : BV) (a' : Act) (W : World) : Prop := ∃ Bx, S + 5 ≤ Bx ∧ QB Bx x.cells W ∧ a' = AnA S vm vb x Bx

theorem AnI.own {S : Nat} {w W0 : World} {B : Nat} (hB : S + 5 ≤ B) : OwnFrom B (AnI S w W0) := fun s W W' row ⟨vu, vt, h⟩ hg hr => ⟨vu, vt, h.own (by omega) (by omega) hB hg hr⟩
theorem AnX.own {S B : Nat} {vm vb : Value} {x : BV} {a' : Act} : OwnFrom B (fun (_ : Unit) W => AnX S vm vb x a' W) := fun _ W W' row ⟨Bx, h1, h2, h3⟩ hg hr =>
  ⟨Bx, h1, h2.grown hg (fun e => by
    obtain ⟨_, o, k1, k2⟩ := hr Bx e.symm
    unfold QB at h2
    rw [h2] at k1; cases k1; cases k2), h3⟩
theorem AnI.grown {S : Nat} {w W0 W W' : World} {pre : List (BW S w plOk)} (h : AnI S w W0 pre W) (hg : W.grownBy W' none) : AnI S w W0 pre W' := by
  obtain ⟨vu, vt, h⟩ := h
  exact ⟨vu, vt, h.grown (by omega) (by omega) hg (fun r e => by cases e)⟩

set_option maxRecDepth 100000 in
set_option maxHeartbeats 4000000 in
theorem anchors_any (me : List Pr) (l : List Blk) (vm vb : Value) (w : World) (hm : Rd (· < w.heap.size) w (prsD me) [vm]) (hb : Rd (· < w.heap.size) w (blksD l) [vb]) (hPT : PT w)
    (hbd : Blk.bdL l) (hml : me.length ≤ 1000000) (hsz : Blk.szL l ≤ 50000) (hln : (Blk.inlsL l).length ≤ 50000) (hpl : ∀ b ∈ Blk.eachL l, b.plLen ≤ 100000000) (hus : ∀ x ∈ usedB (Blk.eachL l) ++ usedI (Blk.inlsL l), x.size ≤ 100000000) (hts : ∀ x ∈ textB (Blk.eachL l), x.size ≤ 100000000) :
    Calls Tryz.prog 27 #[.agg #[vm, vb]] w fun e w' => ∃ vm' vb', e = .returned (.agg #[vm', vb']) ∧ Rd (w.heap.size ≤ ·) w' (prsD me) [vm'] ∧ Rd (w.heap.size ≤ ·) w' (blksD (Blk.nameL l (allA (textB (Blk.eachL l)) (usedB (Blk.eachL l) ++ usedI (Blk.inlsL l)))).1) [vb'] ∧ Below w.heap.size w w' := by
  obtain ⟨ma, mn, mc, rfl⟩ := Rd.sl_form hm
  obtain ⟨ba, bn, bc, rfl⟩ := Rd.sl_form hb
  obtain ⟨S, hS⟩ : ∃ S, S = w.heap.size := ⟨_, rfl⟩
  have HM := Lib.hid hm
  have HB := Lib.hid hb
  have HBD := Lib.hid hbd
  have HPT := Lib.hid hPT
  have HUS := Lib.hid hus
  have HTS := Lib.hid hts
  clear hm hb hbd hPT hus hts
  refine (callsIn_wide (n := 3)).1 ?_
  refine callsIn_of_wp_marks Tryz.func27 rfl trivial ?_ rfl
  simp only [Tryz.ntmps27, List.size_toArray, List.length_cons, List.length_nil, Nat.reduceAdd, Nat.reduceSub, Array.replicate_succ, Array.replicate_zero, List.push_toArray, List.append_toArray, List.nil_append, List.cons_append]
  gi_wp2_with (refine ⟨trivial, ?_⟩; gi_at_call 76; refine (callsIn_wide.2 (each_any _ _ _ _)).mono ?_; rintro e w' ⟨rfl, rfl⟩)
  obtain ⟨W0, hW0⟩ : ∃ W0, W0 = ((((w.alloc (.cells #[.slice ma mn mc, .slice ba bn bc] 25)).alloc (.cells #[.slice none 0 0, .slice none 0 0] 25)).alloc (.cells #[.slice none 0 0] 40)).alloc (.cells #[.slice none 0 0] 40)).alloc (.cells #[.slice ba bn bc] 23) := ⟨_, rfl⟩
  have sz0 : W0.heap.size = S + 5 := by rw [hW0, hS]; simp
  have dB : W0.heap[S]? = some (.cells #[.slice ma mn mc, .slice ba bn bc] 25 (0, 0)) := by rw [hW0]; exact at_old (at_old (at_old (at_old (at_new (by simp [hS])))))
  have rB : W0.heap[S + 1]? = some (.cells #[.slice none 0 0, .slice none 0 0] 25 (0, 0)) := by rw [hW0]; exact at_old (at_old (at_old (at_new (by simp [hS]))))
  have bU : Box1 (S + 2) (.slice none 0 0) 40 W0 := by rw [hW0]; exact at_old (at_old (at_new (by simp [hS])))
  have bT : Box1 (S + 3) (.slice none 0 0) 40 W0 := by rw [hW0]; exact at_old (at_new (by simp [hS]))
  have bL : Box1 (S + 4) (.slice ba bn bc) 23 W0 := by rw [hW0]; exact at_new (by simp [hS])
  have bl0 : Below S w W0 := by rw [hW0, hS]; exact (((((Below.refl _ _).alloc (Nat.le_refl _) _).alloc (by simp) _).alloc (by simp; omega) _).alloc (by simp; omega) _).alloc (by simp; omega) _
  simp only [Nat.add_assoc, Nat.reduceAdd]
  rw [← hW0, ← hS]
  have HS := Lib.hid hS
  rw [← hS] at HM HB
  have T0 : TB S (S + 2) (S + 3) W0 [] [] (.slice none 0 0) (.slice none 0 0) W0 := ⟨bU, bT, World.ownsRow_nil _ _ _ _, World.ownsRow_nil _ _ _ _, fun g h => (by cases h), rfl, rfl, rfl, by omega, fun _ _ _ _ => rfl⟩
  clear hW0 hS
  refine wpIn_rangeFunc_ownH (α := BW S w (plOk)) rfl (by decide) (gf := 136) (lb := #[.pointer (some ⟨S + 4, 0, none⟩)]) rfl trivial (enters_of Tryz.func136 (by kernel_rfl) rfl)
    (each_stops 2 (S + 4) S plOk l (.slice ba bn bc) w W0 (KpA S) (KpA.ok S) hpl HB.out bl0 (by omega) bL) (fun h k => h.trans k) (fun W l o o' h1 h2 h3 _ => KpA.obj W l o o' (by omega) h2 h3) (Below.refl _ _) (fun _ => rfl)
    (AnI S w W0) (fun _ _ _ => False) (AnI.own (by omega)) (fun c s A B row h _ _ => h) ⟨_, _, T0⟩
    (fun x a' W => AnX S (.slice ma mn mc) (.slice ba bn bc) x.1 a' W) (fun x a' => AnX.own) ?assign ?body ?done ?stop
  case stop => rintro D c pre W _ _ h _; exact h.elim
  case assign =>
    rintro l0 pre ⟨⟨kd, lv, i, t, d, ti, at_, li, ks, vc, vp, vl, vk⟩, hR, hpl1⟩ W K hi hK
    dsimp only at hR hK
    obtain ⟨ac, nc, cc, rfl⟩ := Rd.sl_form hR.at_.cls
    obtain ⟨ap, np, cp, rfl⟩ := Rd.sl_form hR.at_.prs
    obtain ⟨al, nl, cl, rfl⟩ := Rd.sl_form hR.line
    obtain ⟨ak, nk, ck, rfl⟩ := Rd.sl_form hR.kids
    have HI := Lib.hid hi
    have HK := Lib.hid hK
    clear hi hK
    dsimp only [BV.enc]
    gi_wp2
    obtain ⟨vu, vt, hT⟩ := HI.out
    have hsz := hT.size
    exact HK.out _ _ ((KeepsOthers.alloc _ _).from _) (KpA.grown (World.grownBy_alloc _ _ none) hsz) (HI.out.grown (World.grownBy_alloc _ _ none)) ⟨W.heap.size, hsz, heap_alloc_new W _, rfl⟩
  case body =>
    rintro l0 pre x a' W hl0 _ ⟨vu, vt, hT⟩ ⟨Bx, hBx, hQ, rfl⟩ hlen
    have hR := x.2.1
    have hpl1 : plOk x.1.blk := x.2.2
    obtain ⟨y, hy⟩ : ∃ y, y = x.1 := ⟨_, rfl⟩
    rw [← hy] at hR hQ hpl1 ⊢
    obtain ⟨kd, lv, i, t, d, ti, at_, li, ks, vc, vp, vl, vk⟩ := y
    dsimp only at hR
    have HY := Lib.hid hy
    clear hy
    obtain ⟨ac, nc, cc, rfl⟩ := Rd.sl_form hR.at_.cls
    obtain ⟨ap, np, cp, rfl⟩ := Rd.sl_form hR.at_.prs
    obtain ⟨al, nl, cl, rfl⟩ := Rd.sl_form hR.line
    obtain ⟨ak, nk, ck, rfl⟩ := Rd.sl_form hR.kids
    have q0 := hQ.cell 0 _ rfl
    have q6 := hQ.cell 6 _ rfl
    have q9 := hQ.cell 9 _ rfl
    dsimp only [BV.cells] at q0 q6 q9
    have cu := hT.bp.cell
    have fu := hT.bp.free
    have HT := Lib.hid hT
    have HR := Lib.hid hR
    have HQ := Lib.hid hQ
    have HL := Lib.hid hlen
    clear hT hR hQ hlen
    unfold AnA
    dsimp only [BV.enc]
    by_cases hid : at_.id.data.toList = []
    · have q1 : at_.id.toList = [] := by rw [Lib.toList_data]; exact hid
      have q2 : at_.id.toList.isEmpty = true := by rw [q1]; rfl
      have e1 : usedB (blksOf (pre ++ [x])) = usedB (blksOf pre) := by
        rw [blksOf_app]; unfold usedB; rw [List.filterMap_append]
        simp [blksOf, BV.blk, ← HY.out, Blk.id1, hid]
      by_cases hk : kd = 2
      · subst hk
        have hSW : S + 3 < W.drew.heap.size := by have := HT.out.size; show S + 3 < W.heap.size; omega
        have ct : W.drew.cell? ⟨S + 3, 0, none⟩ = some vt := HT.out.bq.cell
        have q9d : W.drew.cell? ⟨Bx, 9, none⟩ = some (.slice al nl cl) := q9
        have HPL : Hid (Calls Tryz.prog 62 #[.slice al nl cl] W.drew fun e w' => e = .returned (.string ⟨(Inl.plainL li).toArray⟩) ∧ Below W.drew.heap.size W.drew w') := by
          refine Lib.hid (tPlain_any li (.slice al nl cl) W.drew (Rd.keep (ok := (· < S)) (w := w) ?_ _ _ HR.out.line) (Nat.le_trans hpl1 (by decide)))
          intro b hb hlt
          have hz := HT.out.size
          refine ⟨by show b < W.heap.size; omega, ?_⟩
          show W.heap[b]? = _
          rw [HT.out.blk b (by omega) (by omega) (by omega)]
          exact bl0.block b hb
        obtain ⟨i0, hi0, hz0, hz1, hz2⟩ := info_parts infoS
        have htl : (textB (blksOf pre)).length + 1 ≤ 1000000 := by
          have h1 : (textB (blksOf pre)).length ≤ (blksOf pre).length := List.length_filterMap_le _ _
          rw [blksOf_len] at h1
          have h2 := HL.out
          have h3 := Blk.eachL_len l
          omega
        have hsz := HT.out.size
        have e2 : textB (blksOf (pre ++ [x])) = textB (blksOf pre) ++ [⟨(Inl.plainL li).toArray⟩] := by
          rw [blksOf_app]; unfold textB; rw [List.filterMap_append]; congr 1
          simp [blksOf, BV.blk, ← HY.out, Blk.tx1, hid]
        gi_upto_region 7 with (fail)
        refine wpIn_region_any (by kernel_rfl) ?_
        change wpAnyIn _ _ _ _ _ _ _ _ _ (World.drew _)
        refine wpAnyIn_ready (rs := [0, 1]) (by kernel_rfl) (by simp) ?_
        refine AllReadyIn.cons (o := { dst := some 27, op := Op.load 40 (Operand.tmp 4), type := 40, pos := "slug.go:80", after := #[], guard := none }) rfl (fun K hK => ?_) (AllReadyIn.cons (o := { dst := some 28, op := Op.fieldAddr 54 (Operand.tmp 5) 7, type := 0, pos := "slug.go:80", after := #[], guard := none }) rfl (fun K hK => ?_) AllReadyIn.nil)
        ·
          go_simp
          refine hK _ _ ?_
          clear hK K
          (try simp only [Act.put, List.setIfInBounds_toArray, List.set_cons_zero, List.set_cons_succ])
          refine wpAnyIn_ready (rs := [1]) (by kernel_rfl) (by simp) ?_
          refine AllReadyIn.cons (o := { dst := some 28, op := Op.fieldAddr 54 (Operand.tmp 5) 7, type := 0, pos := "slug.go:80", after := #[], guard := none }) rfl (fun K hK => ?_) AllReadyIn.nil
          go_simp
          refine hK _ _ ?_
          clear hK K
          (try simp only [Act.put, List.setIfInBounds_toArray, List.set_cons_zero, List.set_cons_succ])
          refine wpAnyIn_ready (rs := [2]) (by kernel_rfl) (by simp) ?_
          refine AllReadyIn.cons (o := { dst := some 29, op := Op.load 38 (Operand.tmp 28), type := 38, pos := "slug.go:80", after := #[{ on := 1, ground := Ground.data }], guard := none }) rfl (fun K hK => ?_) AllReadyIn.nil
          go_simp
          refine hK _ _ ?_
          clear hK K
          (try simp only [Act.put, List.setIfInBounds_toArray, List.set_cons_zero, List.set_cons_succ])
          refine wpAnyIn_ready (rs := [3]) (by kernel_rfl) (by simp) ?_
          refine AllReadyIn.cons (o := { dst := some 30, op := Op.call { callee := Callee.value (Operand.func 62), args := #[Operand.tmp 29], argTypes := #[38] }, type := 9, pos := "slug.go:80", after := #[{ on := 2, ground := Ground.data }], guard := none }) rfl (fun K hK => ?_) AllReadyIn.nil
          go_simp
          refine ⟨trivial, ?_⟩
          refine (CallsIn.inRound l0 (callsIn_wide.2 HPL.out)).mono ?_
          rintro e w1 ⟨rfl, hb1⟩
          have ct1 : w1.cell? ⟨S + 3, 0, none⟩ = some vt := (hb1.cell (p := ⟨S + 3, 0, none⟩) hSW).trans ct
          have hlt1 : S + 3 < w1.heap.size := Nat.lt_of_lt_of_le hSW hb1.size
          dsimp only
          refine hK _ _ ?_
          clear hK K
          (try simp only [Act.put, List.setIfInBounds_toArray, List.set_cons_zero, List.set_cons_succ])
          refine wpAnyIn_ready (rs := [4]) (by kernel_rfl) (by simp) ?_
          refine AllReadyIn.cons (o := { dst := some 31, op := Op.buildSlice 40 1 #[(0, Operand.tmp 30)], type := 40, pos := "slug.go:80", after := #[{ on := 3, ground := Ground.data }], guard := none }) rfl (fun K hK => ?_) AllReadyIn.nil
          go_simp
          refine hK _ _ ?_
          clear hK K
          (try simp only [Act.put, List.setIfInBounds_toArray, List.set_cons_zero, List.set_cons_succ])
          refine wpAnyIn_ready (rs := [5]) (by kernel_rfl) (by simp) ?_
          refine AllReadyIn.cons (o := { dst := some 32, op := Op.call { callee := Callee.builtin Builtin.append, args := #[Operand.tmp 27, Operand.tmp 31], argTypes := #[40, 40] }, type := 40, pos := "slug.go:80", after := #[{ on := 0, ground := Ground.data }, { on := 4, ground := Ground.data }, { on := 3, ground := Ground.chain }], guard := none }) rfl (fun K hK => ?_) AllReadyIn.nil
          have gW1 : W.grownBy w1 none := ⟨hb1.os, hb1.tape, hb1.output, hb1.size, fun b hlt _ => hb1.block b hlt⟩
          refine stepIn_append_at rfl (.tmp 27) (.tmp 31) 40 rfl (S + 5) 9 i0 _ 1 16 Tryz.underlying40 hi0 hz0 hz1 hz2 rfl (by decide) vt (textB (blksOf pre)).length ((textB (blksOf pre)).map Value.string) rfl ((HT.out.ot.kept gW1 (by cases vt.ownBlock <;> simp)).alloc _) ⟨w1.heap.size, 0, none⟩ 1 1 [.string ⟨(Inl.plainL li).toArray⟩] rfl rfl (cell_one_new _ _ _) ?o1 ?o2 ?o3 ?o4 ?_
          case o1 => simp [Value.oneCell']
          case o2 => unfold maxLen; omega
          case o3 => omega
          case o4 => have := hb1.size; simp; omega
          intro v' w2 hown' hgrow hat
          obtain ⟨g', cap', rfl⟩ := ownsRow_succ hown'
          have hP := HT.out.swap.push (x := ⟨(Inl.plainL li).toArray⟩) (.inr ⟨rfl, rfl⟩) (grown_trans gW1 (World.grownBy_alloc w1 _ none)) hown' hgrow hat W0.heap.size
          have b1 : Box1 (S + 3) vt 40 w2 := (hgrow.block (S + 3) (by have := hb1.size; simp; omega) (fun e => by have := (HT.out.ot.lt _ e.symm).1; omega)).trans ((HT.out.bq.grown gW1).alloc _)
          have k1 := b1.cell
          have k2 := b1.free
          refine hK _ _ ?_
          clear hK K
          (try simp only [Act.put, List.setIfInBounds_toArray, List.set_cons_zero, List.set_cons_succ])
          refine wpAnyIn_ready (rs := [6]) (by kernel_rfl) (by simp) ?_
          refine AllReadyIn.cons rfl (fun K hK => ?_) AllReadyIn.nil
          go_simp
          refine hK _ _ ?_
          clear hK K
          (try simp only [Act.put, List.setIfInBounds_toArray, List.set_cons_zero, List.set_cons_succ])
          refine wpAnyIn_done (by kernel_rfl) ?_ _
          gi_wp2_with fail
          refine ⟨hP.2.2, hP.2.1, ?_⟩
          unfold AnI
          rw [e1, e2]
          exact ⟨vu, _, hP.1.swap⟩
        ·
          go_simp
          refine hK _ _ ?_
          clear hK K
          (try simp only [Act.put, List.setIfInBounds_toArray, List.set_cons_zero, List.set_cons_succ])
          refine wpAnyIn_ready (rs := [0, 2]) (by kernel_rfl) (by simp) ?_
          refine AllReadyIn.cons (o := { dst := some 27, op := Op.load 40 (Operand.tmp 4), type := 40, pos := "slug.go:80", after := #[], guard := none }) rfl (fun K hK => ?_) (AllReadyIn.cons (o := { dst := some 29, op := Op.load 38 (Operand.tmp 28), type := 38, pos := "slug.go:80", after := #[{ on := 1, ground := Ground.data }], guard := none }) rfl (fun K hK => ?_) AllReadyIn.nil)
          ·
            go_simp
            refine hK _ _ ?_
            clear hK K
            (try simp only [Act.put, List.setIfInBounds_toArray, List.set_cons_zero, List.set_cons_succ])
            refine wpAnyIn_ready (rs := [2]) (by kernel_rfl) (by simp) ?_
            refine AllReadyIn.cons (o := { dst := some 29, op := Op.load 38 (Operand.tmp 28), type := 38, pos := "slug.go:80", after := #[{ on := 1, ground := Ground.data }], guard := none }) rfl (fun K hK => ?_) AllReadyIn.nil
            go_simp
            refine hK _ _ ?_
            clear hK K
            (try simp only [Act.put, List.setIfInBounds_toArray, List.set_cons_zero, List.set_cons_succ])
            refine wpAnyIn_ready (rs := [3]) (by kernel_rfl) (by simp) ?_
            refine AllReadyIn.cons (o := { dst := some 30, op := Op.call { callee := Callee.value (Operand.func 62), args := #[Operand.tmp 29], argTypes := #[38] }, type := 9, pos := "slug.go:80", after := #[{ on := 2, ground := Ground.data }], guard := none }) rfl (fun K hK => ?_) AllReadyIn.nil
            go_simp
            refine ⟨trivial, ?_⟩
            refine (CallsIn.inRound l0 (callsIn_wide.2 HPL.out)).mono ?_
            rintro e w1 ⟨rfl, hb1⟩
            have ct1 : w1.cell? ⟨S + 3, 0, none⟩ = some vt := (hb1.cell (p := ⟨S + 3, 0, none⟩) hSW).trans ct
            have hlt1 : S + 3 < w1.heap.size := Nat.lt_of_lt_of_le hSW hb1.size
            dsimp only
            refine hK _ _ ?_
            clear hK K
            (try simp only [Act.put, List.setIfInBounds_toArray, List.set_cons_zero, List.set_cons_succ])
            refine wpAnyIn_ready (rs := [4]) (by kernel_rfl) (by simp) ?_
            refine AllReadyIn.cons (o := { dst := some 31, op := Op.buildSlice 40 1 #[(0, Operand.tmp 30)], type := 40, pos := "slug.go:80", after := #[{ on := 3, ground := Ground.data }], guard := none }) rfl (fun K hK => ?_) AllReadyIn.nil
            go_simp
            refine hK _ _ ?_
            clear hK K
            (try simp only [Act.put, List.setIfInBounds_toArray, List.set_cons_zero, List.set_cons_succ])
            refine wpAnyIn_ready (rs := [5]) (by kernel_rfl) (by simp) ?_
            refine AllReadyIn.cons (o := { dst := some 32, op := Op.call { callee := Callee.builtin Builtin.append, args := #[Operand.tmp 27, Operand.tmp 31], argTypes := #[40, 40] }, type := 40, pos := "slug.go:80", after := #[{ on := 0, ground := Ground.data }, { on := 4, ground := Ground.data }, { on := 3, ground := Ground.chain }], guard := none }) rfl (fun K hK => ?_) AllReadyIn.nil
            have gW1 : W.grownBy w1 none := ⟨hb1.os, hb1.tape, hb1.output, hb1.size, fun b hlt _ => hb1.block b hlt⟩
            refine stepIn_append_at rfl (.tmp 27) (.tmp 31) 40 rfl (S + 5) 9 i0 _ 1 16 Tryz.underlying40 hi0 hz0 hz1 hz2 rfl (by decide) vt (textB (blksOf pre)).length ((textB (blksOf pre)).map Value.string) rfl ((HT.out.ot.kept gW1 (by cases vt.ownBlock <;> simp)).alloc _) ⟨w1.heap.size, 0, none⟩ 1 1 [.string ⟨(Inl.plainL li).toArray⟩] rfl rfl (cell_one_new _ _ _) ?o1 ?o2 ?o3 ?o4 ?_
            case o1 => simp [Value.oneCell']
            case o2 => unfold maxLen; omega
            case o3 => omega
            case o4 => have := hb1.size; simp; omega
            intro v' w2 hown' hgrow hat
            obtain ⟨g', cap', rfl⟩ := ownsRow_succ hown'
            have hP := HT.out.swap.push (x := ⟨(Inl.plainL li).toArray⟩) (.inr ⟨rfl, rfl⟩) (grown_trans gW1 (World.grownBy_alloc w1 _ none)) hown' hgrow hat W0.heap.size
            have b1 : Box1 (S + 3) vt 40 w2 := (hgrow.block (S + 3) (by have := hb1.size; simp; omega) (fun e => by have := (HT.out.ot.lt _ e.symm).1; omega)).trans ((HT.out.bq.grown gW1).alloc _)
            have k1 := b1.cell
            have k2 := b1.free
            refine hK _ _ ?_
            clear hK K
            (try simp only [Act.put, List.setIfInBounds_toArray, List.set_cons_zero, List.set_cons_succ])
            refine wpAnyIn_ready (rs := [6]) (by kernel_rfl) (by simp) ?_
            refine AllReadyIn.cons rfl (fun K hK => ?_) AllReadyIn.nil
            go_simp
            refine hK _ _ ?_
            clear hK K
            (try simp only [Act.put, List.setIfInBounds_toArray, List.set_cons_zero, List.set_cons_succ])
            refine wpAnyIn_done (by kernel_rfl) ?_ _
            gi_wp2_with fail
            refine ⟨hP.2.2, hP.2.1, ?_⟩
            unfold AnI
            rw [e1, e2]
            exact ⟨vu, _, hP.1.swap⟩
          ·
            go_simp
            refine hK _ _ ?_
            clear hK K
            (try simp only [Act.put, List.setIfInBounds_toArray, List.set_cons_zero, List.set_cons_succ])
            refine wpAnyIn_ready (rs := [0, 3]) (by kernel_rfl) (by simp) ?_
            refine AllReadyIn.cons (o := { dst := some 27, op := Op.load 40 (Operand.tmp 4), type := 40, pos := "slug.go:80", after := #[], guard := none }) rfl (fun K hK => ?_) (AllReadyIn.cons (o := { dst := some 30, op := Op.call { callee := Callee.value (Operand.func 62), args := #[Operand.tmp 29], argTypes := #[38] }, type := 9, pos := "slug.go:80", after := #[{ on := 2, ground := Ground.data }], guard := none }) rfl (fun K hK => ?_) AllReadyIn.nil)
            ·
              go_simp
              refine hK _ _ ?_
              clear hK K
              (try simp only [Act.put, List.setIfInBounds_toArray, List.set_cons_zero, List.set_cons_succ])
              refine wpAnyIn_ready (rs := [3]) (by kernel_rfl) (by simp) ?_
              refine AllReadyIn.cons (o := { dst := some 30, op := Op.call { callee := Callee.value (Operand.func 62), args := #[Operand.tmp 29], argTypes := #[38] }, type := 9, pos := "slug.go:80", after := #[{ on := 2, ground := Ground.data }], guard := none }) rfl (fun K hK => ?_) AllReadyIn.nil
              go_simp
              refine ⟨trivial, ?_⟩
              refine (CallsIn.inRound l0 (callsIn_wide.2 HPL.out)).mono ?_
              rintro e w1 ⟨rfl, hb1⟩
              have ct1 : w1.cell? ⟨S + 3, 0, none⟩ = some vt := (hb1.cell (p := ⟨S + 3, 0, none⟩) hSW).trans ct
              have hlt1 : S + 3 < w1.heap.size := Nat.lt_of_lt_of_le hSW hb1.size
              dsimp only
              refine hK _ _ ?_
              clear hK K
              (try simp only [Act.put, List.setIfInBounds_toArray, List.set_cons_zero, List.set_cons_succ])
              refine wpAnyIn_ready (rs := [4]) (by kernel_rfl) (by simp) ?_
              refine AllReadyIn.cons (o := { dst := some 31, op := Op.buildSlice 40 1 #[(0, Operand.tmp 30)], type := 40, pos := "slug.go:80", after := #[{ on := 3, ground := Ground.data }], guard := none }) rfl (fun K hK => ?_) AllReadyIn.nil
              go_simp
              refine hK _ _ ?_
              clear hK K
              (try simp only [Act.put, List.setIfInBounds_toArray, List.set_cons_zero, List.set_cons_succ])
              refine wpAnyIn_ready (rs := [5]) (by kernel_rfl) (by simp) ?_
              refine AllReadyIn.cons (o := { dst := some 32, op := Op.call { callee := Callee.builtin Builtin.append, args := #[Operand.tmp 27, Operand.tmp 31], argTypes := #[40, 40] }, type := 40, pos := "slug.go:80", after := #[{ on := 0, ground := Ground.data }, { on := 4, ground := Ground.data }, { on := 3, ground := Ground.chain }], guard := none }) rfl (fun K hK => ?_) AllReadyIn.nil
              have gW1 : W.grownBy w1 none := ⟨hb1.os, hb1.tape, hb1.output, hb1.size, fun b hlt _ => hb1.block b hlt⟩
              refine stepIn_append_at rfl (.tmp 27) (.tmp 31) 40 rfl (S + 5) 9 i0 _ 1 16 Tryz.underlying40 hi0 hz0 hz1 hz2 rfl (by decide) vt (textB (blksOf pre)).length ((textB (blksOf pre)).map Value.string) rfl ((HT.out.ot.kept gW1 (by cases vt.ownBlock <;> simp)).alloc _) ⟨w1.heap.size, 0, none⟩ 1 1 [.string ⟨(Inl.plainL li).toArray⟩] rfl rfl (cell_one_new _ _ _) ?o1 ?o2 ?o3 ?o4 ?_
              case o1 => simp [Value.oneCell']
              case o2 => unfold maxLen; omega
              case o3 => omega
              case o4 => have := hb1.size; simp; omega
              intro v' w2 hown' hgrow hat
              obtain ⟨g', cap', rfl⟩ := ownsRow_succ hown'
              have hP := HT.out.swap.push (x := ⟨(Inl.plainL li).toArray⟩) (.inr ⟨rfl, rfl⟩) (grown_trans gW1 (World.grownBy_alloc w1 _ none)) hown' hgrow hat W0.heap.size
              have b1 : Box1 (S + 3) vt 40 w2 := (hgrow.block (S + 3) (by have := hb1.size; simp; omega) (fun e => by have := (HT.out.ot.lt _ e.symm).1; omega)).trans ((HT.out.bq.grown gW1).alloc _)
              have k1 := b1.cell
              have k2 := b1.free
              refine hK _ _ ?_
              clear hK K
              (try simp only [Act.put, List.setIfInBounds_toArray, List.set_cons_zero, List.set_cons_succ])
              refine wpAnyIn_ready (rs := [6]) (by kernel_rfl) (by simp) ?_
              refine AllReadyIn.cons rfl (fun K hK => ?_) AllReadyIn.nil
              go_simp
              refine hK _ _ ?_
              clear hK K
              (try simp only [Act.put, List.setIfInBounds_toArray, List.set_cons_zero, List.set_cons_succ])
              refine wpAnyIn_done (by kernel_rfl) ?_ _
              gi_wp2_with fail
              refine ⟨hP.2.2, hP.2.1, ?_⟩
              unfold AnI
              rw [e1, e2]
              exact ⟨vu, _, hP.1.swap⟩
            ·
              go_simp
              refine ⟨trivial, ?_⟩
              refine (CallsIn.inRound l0 (callsIn_wide.2 HPL.out)).mono ?_
              rintro e w1 ⟨rfl, hb1⟩
              have ct1 : w1.cell? ⟨S + 3, 0, none⟩ = some vt := (hb1.cell (p := ⟨S + 3, 0, none⟩) hSW).trans ct
              have hlt1 : S + 3 < w1.heap.size := Nat.lt_of_lt_of_le hSW hb1.size
              dsimp only
              refine hK _ _ ?_
              clear hK K
              (try simp only [Act.put, List.setIfInBounds_toArray, List.set_cons_zero, List.set_cons_succ])
              refine wpAnyIn_ready (rs := [0, 4]) (by kernel_rfl) (by simp) ?_
              refine AllReadyIn.cons (o := { dst := some 27, op := Op.load 40 (Operand.tmp 4), type := 40, pos := "slug.go:80", after := #[], guard := none }) rfl (fun K hK => ?_) (AllReadyIn.cons (o := { dst := some 31, op := Op.buildSlice 40 1 #[(0, Operand.tmp 30)], type := 40, pos := "slug.go:80", after := #[{ on := 3, ground := Ground.data }], guard := none }) rfl (fun K hK => ?_) AllReadyIn.nil)
              ·
                go_simp
                refine hK _ _ ?_
                clear hK K
                (try simp only [Act.put, List.setIfInBounds_toArray, List.set_cons_zero, List.set_cons_succ])
                refine wpAnyIn_ready (rs := [4]) (by kernel_rfl) (by simp) ?_
                refine AllReadyIn.cons (o := { dst := some 31, op := Op.buildSlice 40 1 #[(0, Operand.tmp 30)], type := 40, pos := "slug.go:80", after := #[{ on := 3, ground := Ground.data }], guard := none }) rfl (fun K hK => ?_) AllReadyIn.nil
                go_simp
                refine hK _ _ ?_
                clear hK K
                (try simp only [Act.put, List.setIfInBounds_toArray, List.set_cons_zero, List.set_cons_succ])
                refine wpAnyIn_ready (rs := [5]) (by kernel_rfl) (by simp) ?_
                refine AllReadyIn.cons (o := { dst := some 32, op := Op.call { callee := Callee.builtin Builtin.append, args := #[Operand.tmp 27, Operand.tmp 31], argTypes := #[40, 40] }, type := 40, pos := "slug.go:80", after := #[{ on := 0, ground := Ground.data }, { on := 4, ground := Ground.data }, { on := 3, ground := Ground.chain }], guard := none }) rfl (fun K hK => ?_) AllReadyIn.nil
                have gW1 : W.grownBy w1 none := ⟨hb1.os, hb1.tape, hb1.output, hb1.size, fun b hlt _ => hb1.block b hlt⟩
                refine stepIn_append_at rfl (.tmp 27) (.tmp 31) 40 rfl (S + 5) 9 i0 _ 1 16 Tryz.underlying40 hi0 hz0 hz1 hz2 rfl (by decide) vt (textB (blksOf pre)).length ((textB (blksOf pre)).map Value.string) rfl ((HT.out.ot.kept gW1 (by cases vt.ownBlock <;> simp)).alloc _) ⟨w1.heap.size, 0, none⟩ 1 1 [.string ⟨(Inl.plainL li).toArray⟩] rfl rfl (cell_one_new _ _ _) ?o1 ?o2 ?o3 ?o4 ?_
                case o1 => simp [Value.oneCell']
                case o2 => unfold maxLen; omega
                case o3 => omega
                case o4 => have := hb1.size; simp; omega
                intro v' w2 hown' hgrow hat
                obtain ⟨g', cap', rfl⟩ := ownsRow_succ hown'
                have hP := HT.out.swap.push (x := ⟨(Inl.plainL li).toArray⟩) (.inr ⟨rfl, rfl⟩) (grown_trans gW1 (World.grownBy_alloc w1 _ none)) hown' hgrow hat W0.heap.size
                have b1 : Box1 (S + 3) vt 40 w2 := (hgrow.block (S + 3) (by have := hb1.size; simp; omega) (fun e => by have := (HT.out.ot.lt _ e.symm).1; omega)).trans ((HT.out.bq.grown gW1).alloc _)
                have k1 := b1.cell
                have k2 := b1.free
                refine hK _ _ ?_
                clear hK K
                (try simp only [Act.put, List.setIfInBounds_toArray, List.set_cons_zero, List.set_cons_succ])
                refine wpAnyIn_ready (rs := [6]) (by kernel_rfl) (by simp) ?_
                refine AllReadyIn.cons rfl (fun K hK => ?_) AllReadyIn.nil
                go_simp
                refine hK _ _ ?_
                clear hK K
                (try simp only [Act.put, List.setIfInBounds_toArray, List.set_cons_zero, List.set_cons_succ])
                refine wpAnyIn_done (by kernel_rfl) ?_ _
                gi_wp2_with fail
                refine ⟨hP.2.2, hP.2.1, ?_⟩
                unfold AnI
                rw [e1, e2]
                exact ⟨vu, _, hP.1.swap⟩
              ·
                go_simp
                refine hK _ _ ?_
                clear hK K
                (try simp only [Act.put, List.setIfInBounds_toArray, List.set_cons_zero, List.set_cons_succ])
                refine wpAnyIn_ready (rs := [0]) (by kernel_rfl) (by simp) ?_
                refine AllReadyIn.cons (o := { dst := some 27, op := Op.load 40 (Operand.tmp 4), type := 40, pos := "slug.go:80", after := #[], guard := none }) rfl (fun K hK => ?_) AllReadyIn.nil
                go_simp
                refine hK _ _ ?_
                clear hK K
                (try simp only [Act.put, List.setIfInBounds_toArray, List.set_cons_zero, List.set_cons_succ])
                refine wpAnyIn_ready (rs := [5]) (by kernel_rfl) (by simp) ?_
                refine AllReadyIn.cons (o := { dst := some 32, op := Op.call { callee := Callee.builtin Builtin.append, args := #[Operand.tmp 27, Operand.tmp 31], argTypes := #[40, 40] }, type := 40, pos := "slug.go:80", after := #[{ on := 0, ground := Ground.data }, { on := 4, ground := Ground.data }, { on := 3, ground := Ground.chain }], guard := none }) rfl (fun K hK => ?_) AllReadyIn.nil
                have gW1 : W.grownBy w1 none := ⟨hb1.os, hb1.tape, hb1.output, hb1.size, fun b hlt _ => hb1.block b hlt⟩
                refine stepIn_append_at rfl (.tmp 27) (.tmp 31) 40 rfl (S + 5) 9 i0 _ 1 16 Tryz.underlying40 hi0 hz0 hz1 hz2 rfl (by decide) vt (textB (blksOf pre)).length ((textB (blksOf pre)).map Value.string) rfl ((HT.out.ot.kept gW1 (by cases vt.ownBlock <;> simp)).alloc _) ⟨w1.heap.size, 0, none⟩ 1 1 [.string ⟨(Inl.plainL li).toArray⟩] rfl rfl (cell_one_new _ _ _) ?o1 ?o2 ?o3 ?o4 ?_
                case o1 => simp [Value.oneCell']
                case o2 => unfold maxLen; omega
                case o3 => omega
                case o4 => have := hb1.size; simp; omega
                intro v' w2 hown' hgrow hat
                obtain ⟨g', cap', rfl⟩ := ownsRow_succ hown'
                have hP := HT.out.swap.push (x := ⟨(Inl.plainL li).toArray⟩) (.inr ⟨rfl, rfl⟩) (grown_trans gW1 (World.grownBy_alloc w1 _ none)) hown' hgrow hat W0.heap.size
                have b1 : Box1 (S + 3) vt 40 w2 := (hgrow.block (S + 3) (by have := hb1.size; simp; omega) (fun e => by have := (HT.out.ot.lt _ e.symm).1; omega)).trans ((HT.out.bq.grown gW1).alloc _)
                have k1 := b1.cell
                have k2 := b1.free
                refine hK _ _ ?_
                clear hK K
                (try simp only [Act.put, List.setIfInBounds_toArray, List.set_cons_zero, List.set_cons_succ])
                refine wpAnyIn_ready (rs := [6]) (by kernel_rfl) (by simp) ?_
                refine AllReadyIn.cons rfl (fun K hK => ?_) AllReadyIn.nil
                go_simp
                refine hK _ _ ?_
                clear hK K
                (try simp only [Act.put, List.setIfInBounds_toArray, List.set_cons_zero, List.set_cons_succ])
                refine wpAnyIn_done (by kernel_rfl) ?_ _
                gi_wp2_with fail
                refine ⟨hP.2.2, hP.2.1, ?_⟩
                unfold AnI
                rw [e1, e2]
                exact ⟨vu, _, hP.1.swap⟩
      · gi_wp2_with fail
        refine ⟨KeepsFrom.refl _ _, KpA.grown ⟨rfl, rfl, rfl, Nat.le_refl _, fun _ _ _ => rfl⟩ HT.out.size, vu, vt, ?_⟩
        have e2 : textB (blksOf (pre ++ [x])) = textB (blksOf pre) := by
          rw [blksOf_app]; unfold textB; rw [List.filterMap_append]
          simp [blksOf, BV.blk, ← HY.out, Blk.tx1, hid, hk]
        rw [e1, e2]
        exact HT.out
    · have q2 : at_.id.toList.isEmpty = false := by
        rw [Lib.toList_data]
        cases e : at_.id.data.toList with
        | nil => exact absurd e hid
        | cons _ _ => rfl
      have hul : (usedB (blksOf pre)).length + 1 ≤ 1000000 := by
        have h1 : (usedB (blksOf pre)).length ≤ (blksOf pre).length := List.length_filterMap_le _ _
        rw [blksOf_len] at h1
        have h2 := HL.out
        have h3 := Blk.eachL_len l
        omega
      obtain ⟨i0, hi0, hz0, hz1, hz2⟩ := info_parts infoS
      have hsz := HT.out.size
      gi_wp2_with (
        gi_at_builtin
        refine wpListIn_append_own_at _ rfl _ _ 40 rfl (S + 5) 9 i0 _ 1 16 Tryz.underlying40 hi0 hz0 hz1 hz2 rfl (by decide) vu (usedB (blksOf pre)).length ((usedB (blksOf pre)).map Value.string) rfl (HT.out.ou.alloc _) ⟨W.heap.size, 0, none⟩ 1 1 [.string at_.id] rfl rfl (cell_one_new _ _ _) ?o1 ?o2 ?o3 ?o4 ?_
        case o1 => simp [Value.oneCell']
        case o2 => unfold maxLen; omega
        case o3 => omega
        case o4 => simp; omega
        intro v' w1 hown' hgrow _ hat
        obtain ⟨g', cap', rfl⟩ := ownsRow_succ hown'
        have hP := HT.out.push (x := at_.id) (.inl ⟨rfl, rfl⟩) (World.grownBy_alloc W _ none) hown' hgrow hat W0.heap.size
        have b1 : Box1 (S + 2) vu 40 w1 := (hgrow.block (S + 2) (by simp; omega) (fun e => by have := (HT.out.ou.lt _ e.symm).1; omega)).trans (HT.out.bp.alloc _)
        have k1 := b1.cell
        have k2 := b1.free)
      have e1 : usedB (blksOf (pre ++ [x])) = usedB (blksOf pre) ++ [at_.id] := by
        rw [blksOf_app]; unfold usedB; rw [List.filterMap_append]; congr 1
        simp [blksOf, BV.blk, ← HY.out, Blk.id1, hid]
      have e2 : textB (blksOf (pre ++ [x])) = textB (blksOf pre) := by
        rw [blksOf_app]; unfold textB; rw [List.filterMap_append]
        simp [blksOf, BV.blk, ← HY.out, Blk.tx1, hid]
      refine ⟨hP.2.2, hP.2.1, ?_⟩
      unfold AnI
      rw [e1, e2]
      exact ⟨_, vt, hP.1⟩
  case done =>
    rintro D pre W hD hpre ⟨vu, vt, hT⟩ hK
    rw [hpre] at hT
    have hz := hT.size
    have dBW : W.heap[S]? = _ := (hT.blk S (by omega) (by omega) (by omega)).trans dB
    have cB : W.cell? ⟨S, 1, none⟩ = some (.slice ba bn bc) := by simp [World.cell?, dBW]
    have hbW : Below S w W := ⟨hT.os.trans bl0.os, hT.tape.trans bl0.tape, hT.output.trans bl0.output, by have := HS.out; omega, fun b hb => (hT.blk b (by omega) (by omega) (by omega)).trans (bl0.block b hb)⟩
    have HIN := Lib.hid (inlines_any l (.slice ba bn bc) W (Rd.keep (ok := (· < S)) (w := w) (fun b hb hlt => ⟨by show b < W.heap.size; omega, hbW.block b hb⟩) _ _ HB.out) HBD.out (by omega) (by omega))
    have HT := Lib.hid hT
    have HK := Lib.hid hK
    have HBW := Lib.hid hbW
    clear hT hK hbW
    gi_wp2_with (refine ⟨trivial, ?_⟩; gi_at_call 77; refine (callsIn_wide.2 HIN.out).mono ?_; rintro e W1 ⟨v1, rows, rfl, hown1, hrd1, hr10, hb1⟩; obtain ⟨a1, c1, rfl⟩ := own_slice hown1; have hk1 := KpA.grown (S := S) (grown_of_below hb1) hz; have R0 : Hid (LpI S D W0 W1 (usedB (Blk.eachL l)) (textB (Blk.eachL l)) vt (Blk.inlsL l) (.int .i64 0) W1) := ⟨0, vu, Nat.zero_le _, rfl, by rw [List.take_zero]; simpa [usedI] using HT.out.grown (by omega) (by omega) (grown_of_below hb1) (fun r e => by cases e), KpA.refl S W1, (hb1.block D (Array.getElem?_eq_some_iff.1 HK.out).1).trans HK.out⟩; have HO1 := Lib.hid hown1; have HR1 := Lib.hid hrd1; have HK1 := Lib.hid hk1; have HB1 := Lib.hid hb1; clear hown1 hrd1 hk1 hb1 HIN)
    gi_loopw [37] (fun vi wr => LpI S D W0 W1 (usedB (Blk.eachL l)) (textB (Blk.eachL l)) vt (Blk.inlsL l) vi wr) (fun i _ => (Blk.inlsL l).length - (intOf i).toNat)
    case atStart => exact R0.out
    case round =>
      obtain ⟨k, vu, hk, rfl, hT, hKp, hDr⟩ := hrel
      clear R0
      have hzr := hT.size
      have HTr := Lib.hid hT
      have HKp := Lib.hid hKp
      have HDr := Lib.hid hDr
      clear hT hKp hDr
      by_cases hlt : k < (Blk.inlsL l).length
      · obtain ⟨x, hx⟩ : ∃ x, (Blk.inlsL l)[k]? = some x := ⟨_, List.getElem?_eq_getElem hlt⟩
        obtain ⟨kd, t, d, ti, at_, ar, ci, ks⟩ := x
        obtain ⟨g, cap, ac, nc, cc, ap, np, cp, aa, na, ca, ai, ni, cci, ak, nk, ck, hv, hc⟩ := inl_row HO1.out HR1.out hr10 HKp.out hx
        cases hv
        obtain ⟨c0, c1, c2, c3, c4, c5, c6, c7, c8, c9⟩ := hc
        have HX := Lib.hid hx
        clear hx
        by_cases hid : at_.id.data.toList = []
        · have q2 : at_.id.toList.isEmpty = true := by rw [Lib.toList_data, hid]; rfl
          gi_wp2_with fail
          go_roundw
          case rel =>
            refine ⟨k + 1, vu, by omega, by go_num, ?_, HKp.out.trans (KpA.grown (World.grownBy_alloc _ _ none) hzr), (Below.heap_alloc _ _ D (Array.getElem?_eq_some_iff.1 HDr.out).1).trans HDr.out⟩
            rw [usedI_snoc _ k _ HX.out, Inl.id1, if_pos hid]
            simp only [Option.toList_none, List.append_nil]
            exact HTr.out.grown (by omega) (by omega) (World.grownBy_alloc _ _ none) (fun r e => by cases e)
          case measure => simp [intOf]; omega
        · have q2 : at_.id.toList.isEmpty = false := by
            rw [Lib.toList_data]
            cases e : at_.id.data.toList with
            | nil => exact absurd e hid
            | cons _ _ => rfl
          have hul : (usedB (Blk.eachL l) ++ usedI ((Blk.inlsL l).take k)).length + 1 ≤ 3000000 := by
            have h1 : (usedB (Blk.eachL l)).length ≤ (Blk.eachL l).length := List.length_filterMap_le _ _
            have h2 := usedI_len (Blk.inlsL l) k
            have h3 := Blk.eachL_len l
            rw [List.length_append]
            omega
          obtain ⟨U, hU⟩ : ∃ U, U = usedB (Blk.eachL l) ++ usedI ((Blk.inlsL l).take k) := ⟨_, rfl⟩
          rw [← hU] at HTr hul
          have HU := Lib.hid hU
          clear hU
          gi_upto_region 12 with (fail)
          obtain ⟨wa, hwa⟩ : ∃ wa, wa = wr.alloc (.cells #[.int .i64 kd, .string t, .string d, .string ti, .string at_.id, .slice ac nc cc, .slice ap np cp, .slice aa na ca, .slice ai ni cci, .slice ak nk ck] 47) := ⟨_, rfl⟩
          have gWa : wr.grownBy wa none := by rw [hwa]; exact World.grownBy_alloc _ _ none
          have ca4 : wa.cell? ⟨wr.heap.size, 4, none⟩ = some (.string at_.id) := by rw [hwa]; exact new_cell wr [.int .i64 kd, .string t, .string d, .string ti, .string at_.id, .slice ac nc cc, .slice ap np cp, .slice aa na ca, .slice ai ni cci, .slice ak nk ck] 47 4 _ rfl
          rw [← hwa]
          have hTa := HTr.out.grown (by omega) (by omega) gWa (fun r e => by cases e)
          have hza := hTa.size
          have cu := hTa.bp.cell
          have fu := hTa.bp.free
          have HTa := Lib.hid hTa
          clear hTa hwa c0 c1 c2 c3 c4 c5 c6 c7 c8 c9
          obtain ⟨i0, hi0, hz0, hz1, hz2⟩ := info_parts infoS
          gi_wp2_with (
            gi_at_builtin
            refine wpListIn_append_own_at _ rfl _ _ 40 rfl (S + 5) 9 i0 _ 1 16 Tryz.underlying40 hi0 hz0 hz1 hz2 rfl (by decide) vu U.length (U.map Value.string) rfl (HTa.out.ou.alloc _) ⟨wa.heap.size, 0, none⟩ 1 1 [.string at_.id] rfl rfl (cell_one_new _ _ _) ?o1 ?o2 ?o3 ?o4 ?_
            case o1 => simp [Value.oneCell']
            case o2 => unfold maxLen; omega
            case o3 => omega
            case o4 => simp; omega
            intro v' w1 hown' hgrow _ hat
            obtain ⟨g', cap', rfl⟩ := ownsRow_succ hown'
            have hP := HTa.out.push (x := at_.id) (.inl ⟨rfl, rfl⟩) (World.grownBy_alloc wa _ none) hown' hgrow hat W0.heap.size
            have b1 : Box1 (S + 2) vu 40 w1 := (hgrow.block (S + 2) (by simp; omega) (fun e => by have := (HTa.out.ou.lt _ e.symm).1; omega)).trans (HTa.out.bp.alloc _)
            have k1 := b1.cell
            have k2 := b1.free)
          go_roundw
          case rel =>
            refine ⟨k + 1, .slice (some ⟨g', 0, none⟩) (U.length + 1) cap', by omega, by go_num, ?_, (HKp.out.trans (KpA.grown gWa hzr)).trans hP.2.1, hP.2.2.same D _ hD ((gWa.block D (Array.getElem?_eq_some_iff.1 HDr.out).1 (by simp)).trans HDr.out) rfl⟩
            rw [usedI_snoc _ k _ HX.out, Inl.id1, if_neg hid, ← List.append_assoc, ← HU.out]
            exact hP.1
          case measure => simp [intOf]; omega
      · have hkl : k = (Blk.inlsL l).length := by omega
        subst hkl
        rw [List.take_length] at HTr
        have hbr := HTr.out.bel (by omega) (by omega) bl0 HS.out
        have hpt : PT wr := HPT.out.below (by rw [← HS.out]; exact hbr)
        have hlU : (usedB (Blk.eachL l) ++ usedI (Blk.inlsL l)).length ≤ 100000 := by
          have h1 : (usedB (Blk.eachL l)).length ≤ (Blk.eachL l).length := List.length_filterMap_le _ _
          have h2 : (usedI (Blk.inlsL l)).length ≤ (Blk.inlsL l).length := List.length_filterMap_le _ _
          have h3 := Blk.eachL_len l
          rw [List.length_append]
          omega
        have hlT : (textB (Blk.eachL l)).length ≤ 100000 := by
          have h1 : (textB (Blk.eachL l)).length ≤ (Blk.eachL l).length := List.length_filterMap_le _ _
          have h3 := Blk.eachL_len l
          omega
        obtain ⟨U, hU⟩ : ∃ U, U = usedB (Blk.eachL l) ++ usedI (Blk.inlsL l) := ⟨_, rfl⟩
        obtain ⟨T, hTe⟩ : ∃ T, T = textB (Blk.eachL l) := ⟨_, rfl⟩
        have hbare : Blk.bareL l ≤ (allA T U).length := by rw [allA_len, hTe, textB_eachL]; exact Nat.le_refl _
        rw [← hU] at HTr hlU HUS
        rw [← hTe] at HTr hlT HTS
        have HAL := Lib.hid (slAll_any T U vt vu wr (Sees.of_own HTr.out.ot) (Sees.of_own HTr.out.ou) hlT hlU HTS.out HUS.out hpt)
        have HE := Lib.hid (And.intro hU hTe)
        have HBR := Lib.hid hbr
        clear hU hTe hbr hpt
        obtain ⟨A, hA⟩ : ∃ A, A = allA T U := ⟨_, rfl⟩
        rw [← hA] at HAL hbare
        have HA := Lib.hid hA
        clear hA
        have cu := HTr.out.bp.cell
        have ct := HTr.out.bq.cell
        gi_wp2_with (refine ⟨trivial, ?_⟩; gi_at_call 74; refine (callsIn_wide.2 HAL.out).mono ?_; rintro e w2 ⟨v2, rfl, hown2, hb2⟩; obtain ⟨a2, c2, rfl⟩ := own_slice hown2; have HO2 := Lib.hid hown2; have HB2 := Lib.hid hb2; clear hown2 hb2 HAL)
        obtain ⟨wd, hwd⟩ : ∃ wd, wd = (w2.alloc (.cells #[.slice a2 A.length c2] 40)).drew := ⟨_, rfl⟩
        have hsd : wd.heap.size = w2.heap.size + 1 := by rw [hwd]; simp [World.drew]
        have hz2 := HB2.out.size
        have gwd : wr.grownBy wd none := by rw [hwd]; exact grown_drew2 (grown_trans (grown_of_below HB2.out) (World.grownBy_alloc _ _ none))
        have afd : AF S D w2.heap.size w A (.slice ma mn mc) (.slice ba bn bc) wd := by
          refine ⟨?_, ?_, ?_, ?_, ?_, by omega⟩
          · have hb := HBR.out
            exact ⟨gwd.os.trans hb.os, gwd.tape.trans hb.tape, gwd.output.trans hb.output, Nat.le_trans hb.size gwd.size, fun b hlt => (gwd.block b (by omega) (by simp)).trans (hb.block b hlt)⟩
          · exact (gwd.block S (by omega) (by simp)).trans ((HTr.out.blk S (by omega) (by omega) (by omega)).trans dB)
          · exact (gwd.block (S + 1) (by omega) (by simp)).trans ((HTr.out.blk (S + 1) (by omega) (by omega) (by omega)).trans rB)
          · obtain ⟨_, a', c', hv, hcap3, hmax3, _⟩ := Sees.of_own HO2.out
            cases hv
            refine ⟨a2, c2, by rw [hwd]; exact heap_alloc_new w2 _, hcap3, hmax3, ?_⟩
            rw [hwd]
            exact (Reads.of_own HO2.out).alloc (Nat.le_refl _) _
          · exact (gwd.block D (at_lt HDr.out) (by simp)).trans HDr.out
        obtain ⟨Am, capm, rows2, hvm, hcm, hmxm, hrdm, h2m, hrm⟩ := Rd.reads HM.out
        obtain ⟨rfl, hmn, rfl⟩ : ma = Am ∧ mn = (me.map Pr.d).length ∧ mc = capm := by simpa using hvm
        rw [← hmn] at hrm
        have hrd := Lib.hid (hrm.below afd.bel)
        have h1m := Lib.hid (pairs_one hrdm)
        obtain ⟨iP, hiP, hzP0, hzP1, hzP2⟩ := info_parts infoPr
        have HAF := Lib.hid afd
        have hml2 : mn ≤ 1000000 := by rw [hmn]; simpa using hml
        have HMN := Lib.hid hmn
        clear hmn
        have cd0 := afd.c0
        have cd1 := afd.c1
        have hDS : S + 5 ≤ D := by omega
        refine wpIn_region_any (by kernel_rfl) ?_
        change wpAnyIn _ _ _ _ _ _ _ _ _ (World.drew _)
        rw [← hwd]
        clear hwd afd gwd hvm hrm
        refine wpAnyIn_norm ?_
        refine wpAnyIn_take (i := 0) (oi := { dst := some 56, op := Op.fieldAddr 25 (Operand.tmp 1) 0, type := 0, pos := "slug.go:94", after := #[], guard := none }) (v := ?v0) rfl rfl (by kernel_rfl) (by kernel_rfl) (by kernel_rfl) norm_panic ⟨Or.inl ⟨by rfl, ?y0⟩, fun _ => rfl⟩ ?_
        case y0 => (intro w; go_simp; try (with_reducible rfl))
        (try simp only [Act.put, List.setIfInBounds_toArray, List.set_cons_zero, List.set_cons_succ])
        refine wpAnyIn_take (i := 3) (oi := { dst := some 59, op := Op.fieldAddr 25 (Operand.tmp 1) 1, type := 0, pos := "slug.go:94", after := #[], guard := none }) (v := ?v3) rfl rfl (by kernel_rfl) (by kernel_rfl) (by kernel_rfl) norm_panic ⟨Or.inl ⟨by rfl, ?y3⟩, fun _ => rfl⟩ ?_
        case y3 => (intro w; go_simp; try (with_reducible rfl))
        (try simp only [Act.put, List.setIfInBounds_toArray, List.set_cons_zero, List.set_cons_succ])
        refine wpAnyIn_take (i := 5) (oi := { dst := some 61, op := Op.move (Operand.tmp 9), type := 98, pos := "slug.go:94", after := #[], guard := none }) (v := ?v5) rfl rfl (by kernel_rfl) (by kernel_rfl) (by kernel_rfl) norm_panic ⟨Or.inl ⟨by rfl, ?y5⟩, fun _ => rfl⟩ ?_
        case y5 => (intro w; go_simp; try (with_reducible rfl))
        (try simp only [Act.put, List.setIfInBounds_toArray, List.set_cons_zero, List.set_cons_succ])
        refine wpAnyIn_ready (rs := [1, 4]) (by kernel_rfl) (by simp) ?_
        refine AllReadyIn.cons rfl (fun K hK => ?_) (AllReadyIn.cons rfl (fun K hK => ?_) AllReadyIn.nil)
        ·
          go_simp
          refine hK _ _ ?_
          clear hK K
          (try simp only [Act.put, List.setIfInBounds_toArray, List.set_cons_zero, List.set_cons_succ])
          refine wpAnyIn_ready (rs := [2, 4]) (by kernel_rfl) (by simp) ?_
          refine AllReadyIn.cons rfl (fun K hK => ?_) (AllReadyIn.cons rfl (fun K hK => ?_) AllReadyIn.nil)
          ·
            refine stepIn_append_any rfl (.const (.slice none 0 0)) (.tmp 57) 22 rfl wd.heap.size 61 iP _ 2 32 Tryz.underlying22 hiP hzP0 hzP1 hzP2 rfl (by decide) (.slice none 0 0) 0 [] rfl (nil_owns _ _ _ _) S ma mn mc rows2.flatten rfl hrd.out h1m.out (by unfold maxLen; omega) (by omega) (Nat.le_refl _) ?_
            intro vm' w4 hoM hg4 _
            rw [Nat.zero_add, List.nil_append] at hoM
            obtain ⟨aM, cM, rfl⟩ := own_slice hoM
            have af4 := HAF.out.grown (W' := w4) hg4 (by have := HBR.out.size; have := HS.out; omega)
            have ce1 := af4.c1
            refine hK _ _ ?_
            clear hK K
            (try simp only [Act.put, List.setIfInBounds_toArray])
            refine wpAnyIn_ready (rs := [4]) (by kernel_rfl) (by simp) ?_
            refine AllReadyIn.cons rfl (fun K hK => ?_) AllReadyIn.nil
            go_simp
            refine hK _ _ ?_
            clear hK K
            (try simp only [Act.put, List.setIfInBounds_toArray, List.set_cons_zero, List.set_cons_succ])
            have hz4 := hg4.size
            have HNM := Lib.hid (named_any (Blk.szL l) l S w2.heap.size A (.slice ba bn bc) w4 (Nat.le_refl _) (by omega) (Rd.keep (ok := (· < S)) (w := w) (fun b hb hlt => ⟨hb, af4.bel.block b hb⟩) _ _ HB.out) (by have := HBR.out.size; have := HS.out; omega) af4.lt HBD.out af4.box hbare)
            refine wpAnyIn_ready (rs := [6]) (by kernel_rfl) (by simp) ?_
            refine AllReadyIn.cons rfl (fun K hK => ?_) AllReadyIn.nil
            go_simp
            refine ⟨trivial, ?_⟩
            refine (callsIn_wide.2 HNM.out).mono ?_
            rintro e w5 ⟨vb', rfl, hR5, _, hg5⟩
            obtain ⟨a5, n5, c5, rfl⟩ := Rd.sl_form hR5
            dsimp only
            refine hK _ _ ?_
            clear hK K
            (try simp only [Act.put, List.setIfInBounds_toArray, List.set_cons_zero, List.set_cons_succ])
            refine wpAnyIn_take (i := 7) (oi := { dst := some 63, op := Op.build 25 #[(0, Operand.tmp 58), (1, Operand.tmp 62)], type := 25, pos := "slug.go:94", after := #[{ on := 2, ground := Ground.data }, { on := 6, ground := Ground.data }], guard := none }) (v := .agg #[.slice aM mn cM, .slice a5 n5 c5]) rfl rfl (by kernel_rfl) (by kernel_rfl) (by kernel_rfl) norm_panic ⟨Or.inl ⟨by rfl, ?y7⟩, fun _ => rfl⟩ ?_
            case y7 => (intro w; go_simp; try (with_reducible rfl))
            (try simp only [Act.put, List.setIfInBounds_toArray, List.set_cons_zero, List.set_cons_succ])
            have r5 : w5.heap[S + 1]? = _ := (hg5.block (S + 1) (at_lt af4.res) (by intro e; have := Option.some.inj e; have := HBR.out.size; have := HS.out; omega)).trans af4.res
            have d5 : w5.heap[D]? = _ := (hg5.block D (at_lt af4.dfr) (by intro e; have := Option.some.inj e; have := at_lt HDr.out; omega)).trans af4.dfr
            have x0 : w5.cell? ⟨S + 1, 0, none⟩ = some (.slice none 0 0) := by simp [World.cell?, r5]
            have x1 : w5.cell? ⟨S + 1, 1, none⟩ = some (.slice none 0 0) := by simp [World.cell?, r5]
            have f0 : w5.frozen? ⟨S + 1, 0, none⟩ = false := by simp [World.frozen?, r5]
            have f1 : w5.frozen? ⟨S + 1, 1, none⟩ = false := by simp [World.frozen?, r5]
            refine wpAnyIn_ready (rs := [8]) (by kernel_rfl) (by simp) ?_
            refine AllReadyIn.cons rfl (fun K hK => ?_) AllReadyIn.nil
            go_simp
            refine hK _ _ ?_
            clear hK K
            (try simp only [Act.put, List.setIfInBounds_toArray, List.set_cons_zero, List.set_cons_succ])
            refine wpAnyIn_done (by kernel_rfl) ⟨rfl, ?_⟩ _
            gi_wp2
            refine ⟨by simp, .inl ⟨_, _, rfl, run_takeDeferred (fin_dfr _ _ d5 (by omega)), ?_⟩⟩
            have hS := HS.out
            have hDw := at_lt HDr.out
            have hM4 : Rd (wd.heap.size ≤ ·) w4 (prsD me) [.slice aM mn cM] := Rd.sl_own (rows := rows2) (B := wd.heap.size) (e := 61) (by rw [← HMN.out]; exact hoM) hrdm.prs_any h2m (fun g hg => (hoM.lt g hg).1)
            refine ⟨_, results_cell_row (p := 2) (ty := 25) (by kernel_rfl) _ (fin S D w5 _ _) (S + 1) 25 _ (0, 0) _ rfl (fin_res _ _ r5 (by omega)) Tryz.underlying25 rfl (by kernel_rfl), _, _, rfl, ?_, ?_, ?_⟩
            · exact Rd.keep (fun b hb hlt => ⟨by omega, (fin_same _ _ (by omega) (by omega)).trans (hg5.block b hlt (by intro e; have := Option.some.inj e; omega))⟩) _ _ hM4
            · have hR6 := hR5
              rw [HA.out, HE.out.1, HE.out.2] at hR6
              exact Rd.keep (fun b hb hlt => ⟨by omega, fin_same _ _ (by omega) (by omega)⟩) _ _ hR6
            · rw [← hS]
              have hb4 := af4.bel
              refine ⟨hg5.os.trans hb4.os, hg5.tape.trans hb4.tape, hg5.output.trans hb4.output, ?_, fun b hlt => (fin_same _ _ (by omega) (by omega)).trans ((hg5.block b (by omega) (by intro e; have := Option.some.inj e; omega)).trans (hb4.block b hlt))⟩
              show w.heap.size ≤ (fin S D w5 _ _).heap.size
              rw [fin_size]
              exact Nat.le_trans hb4.size hg5.size
          ·
            go_simp
            refine hK _ _ ?_
            clear hK K
            (try simp only [Act.put, List.setIfInBounds_toArray, List.set_cons_zero, List.set_cons_succ])
            refine wpAnyIn_ready (rs := [2]) (by kernel_rfl) (by simp) ?_
            refine AllReadyIn.cons rfl (fun K hK => ?_) AllReadyIn.nil
            refine stepIn_append_any rfl (.const (.slice none 0 0)) (.tmp 57) 22 rfl wd.heap.size 61 iP _ 2 32 Tryz.underlying22 hiP hzP0 hzP1 hzP2 rfl (by decide) (.slice none 0 0) 0 [] rfl (nil_owns _ _ _ _) S ma mn mc rows2.flatten rfl hrd.out h1m.out (by unfold maxLen; omega) (by omega) (Nat.le_refl _) ?_
            intro vm' w4 hoM hg4 _
            rw [Nat.zero_add, List.nil_append] at hoM
            obtain ⟨aM, cM, rfl⟩ := own_slice hoM
            have af4 := HAF.out.grown (W' := w4) hg4 (by have := HBR.out.size; have := HS.out; omega)
            have ce1 := af4.c1
            refine hK _ _ ?_
            clear hK K
            (try simp only [Act.put, List.setIfInBounds_toArray])
            have hz4 := hg4.size
            have HNM := Lib.hid (named_any (Blk.szL l) l S w2.heap.size A (.slice ba bn bc) w4 (Nat.le_refl _) (by omega) (Rd.keep (ok := (· < S)) (w := w) (fun b hb hlt => ⟨hb, af4.bel.block b hb⟩) _ _ HB.out) (by have := HBR.out.size; have := HS.out; omega) af4.lt HBD.out af4.box hbare)
            refine wpAnyIn_ready (rs := [6]) (by kernel_rfl) (by simp) ?_
            refine AllReadyIn.cons rfl (fun K hK => ?_) AllReadyIn.nil
            go_simp
            refine ⟨trivial, ?_⟩
            refine (callsIn_wide.2 HNM.out).mono ?_
            rintro e w5 ⟨vb', rfl, hR5, _, hg5⟩
            obtain ⟨a5, n5, c5, rfl⟩ := Rd.sl_form hR5
            dsimp only
            refine hK _ _ ?_
            clear hK K
            (try simp only [Act.put, List.setIfInBounds_toArray, List.set_cons_zero, List.set_cons_succ])
            refine wpAnyIn_take (i := 7) (oi := { dst := some 63, op := Op.build 25 #[(0, Operand.tmp 58), (1, Operand.tmp 62)], type := 25, pos := "slug.go:94", after := #[{ on := 2, ground := Ground.data }, { on := 6, ground := Ground.data }], guard := none }) (v := .agg #[.slice aM mn cM, .slice a5 n5 c5]) rfl rfl (by kernel_rfl) (by kernel_rfl) (by kernel_rfl) norm_panic ⟨Or.inl ⟨by rfl, ?y7⟩, fun _ => rfl⟩ ?_
            case y7 => (intro w; go_simp; try (with_reducible rfl))
            (try simp only [Act.put, List.setIfInBounds_toArray, List.set_cons_zero, List.set_cons_succ])
            have r5 : w5.heap[S + 1]? = _ := (hg5.block (S + 1) (at_lt af4.res) (by intro e; have := Option.some.inj e; have := HBR.out.size; have := HS.out; omega)).trans af4.res
            have d5 : w5.heap[D]? = _ := (hg5.block D (at_lt af4.dfr) (by intro e; have := Option.some.inj e; have := at_lt HDr.out; omega)).trans af4.dfr
            have x0 : w5.cell? ⟨S + 1, 0, none⟩ = some (.slice none 0 0) := by simp [World.cell?, r5]
            have x1 : w5.cell? ⟨S + 1, 1, none⟩ = some (.slice none 0 0) := by simp [World.cell?, r5]
            have f0 : w5.frozen? ⟨S + 1, 0, none⟩ = false := by simp [World.frozen?, r5]
            have f1 : w5.frozen? ⟨S + 1, 1, none⟩ = false := by simp [World.frozen?, r5]
            refine wpAnyIn_ready (rs := [8]) (by kernel_rfl) (by simp) ?_
            refine AllReadyIn.cons rfl (fun K hK => ?_) AllReadyIn.nil
            go_simp
            refine hK _ _ ?_
            clear hK K
            (try simp only [Act.put, List.setIfInBounds_toArray, List.set_cons_zero, List.set_cons_succ])
            refine wpAnyIn_done (by kernel_rfl) ⟨rfl, ?_⟩ _
            gi_wp2
            refine ⟨by simp, .inl ⟨_, _, rfl, run_takeDeferred (fin_dfr _ _ d5 (by omega)), ?_⟩⟩
            have hS := HS.out
            have hDw := at_lt HDr.out
            have hM4 : Rd (wd.heap.size ≤ ·) w4 (prsD me) [.slice aM mn cM] := Rd.sl_own (rows := rows2) (B := wd.heap.size) (e := 61) (by rw [← HMN.out]; exact hoM) hrdm.prs_any h2m (fun g hg => (hoM.lt g hg).1)
            refine ⟨_, results_cell_row (p := 2) (ty := 25) (by kernel_rfl) _ (fin S D w5 _ _) (S + 1) 25 _ (0, 0) _ rfl (fin_res _ _ r5 (by omega)) Tryz.underlying25 rfl (by kernel_rfl), _, _, rfl, ?_, ?_, ?_⟩
            · exact Rd.keep (fun b hb hlt => ⟨by omega, (fin_same _ _ (by omega) (by omega)).trans (hg5.block b hlt (by intro e; have := Option.some.inj e; omega))⟩) _ _ hM4
            · have hR6 := hR5
              rw [HA.out, HE.out.1, HE.out.2] at hR6
              exact Rd.keep (fun b hb hlt => ⟨by omega, fin_same _ _ (by omega) (by omega)⟩) _ _ hR6
            · rw [← hS]
              have hb4 := af4.bel
              refine ⟨hg5.os.trans hb4.os, hg5.tape.trans hb4.tape, hg5.output.trans hb4.output, ?_, fun b hlt => (fin_same _ _ (by omega) (by omega)).trans ((hg5.block b (by omega) (by intro e; have := Option.some.inj e; omega)).trans (hb4.block b hlt))⟩
              show w.heap.size ≤ (fin S D w5 _ _).heap.size
              rw [fin_size]
              exact Nat.le_trans hb4.size hg5.size
        ·
          go_simp
          refine hK _ _ ?_
          clear hK K
          (try simp only [Act.put, List.setIfInBounds_toArray, List.set_cons_zero, List.set_cons_succ])
          refine wpAnyIn_ready (rs := [1]) (by kernel_rfl) (by simp) ?_
          refine AllReadyIn.cons rfl (fun K hK => ?_) AllReadyIn.nil
          go_simp
          refine hK _ _ ?_
          clear hK K
          (try simp only [Act.put, List.setIfInBounds_toArray, List.set_cons_zero, List.set_cons_succ])
          refine wpAnyIn_ready (rs := [2]) (by kernel_rfl) (by simp) ?_
          refine AllReadyIn.cons rfl (fun K hK => ?_) AllReadyIn.nil
          refine stepIn_append_any rfl (.const (.slice none 0 0)) (.tmp 57) 22 rfl wd.heap.size 61 iP _ 2 32 Tryz.underlying22 hiP hzP0 hzP1 hzP2 rfl (by decide) (.slice none 0 0) 0 [] rfl (nil_owns _ _ _ _) S ma mn mc rows2.flatten rfl hrd.out h1m.out (by unfold maxLen; omega) (by omega) (Nat.le_refl _) ?_
          intro vm' w4 hoM hg4 _
          rw [Nat.zero_add, List.nil_append] at hoM
          obtain ⟨aM, cM, rfl⟩ := own_slice hoM
          have af4 := HAF.out.grown (W' := w4) hg4 (by have := HBR.out.size; have := HS.out; omega)
          have ce1 := af4.c1
          refine hK _ _ ?_
          clear hK K
          (try simp only [Act.put, List.setIfInBounds_toArray])
          have hz4 := hg4.size
          have HNM := Lib.hid (named_any (Blk.szL l) l S w2.heap.size A (.slice ba bn bc) w4 (Nat.le_refl _) (by omega) (Rd.keep (ok := (· < S)) (w := w) (fun b hb hlt => ⟨hb, af4.bel.block b hb⟩) _ _ HB.out) (by have := HBR.out.size; have := HS.out; omega) af4.lt HBD.out af4.box hbare)
          refine wpAnyIn_ready (rs := [6]) (by kernel_rfl) (by simp) ?_
          refine AllReadyIn.cons rfl (fun K hK => ?_) AllReadyIn.nil
          go_simp
          refine ⟨trivial, ?_⟩
          refine (callsIn_wide.2 HNM.out).mono ?_
          rintro e w5 ⟨vb', rfl, hR5, _, hg5⟩
          obtain ⟨a5, n5, c5, rfl⟩ := Rd.sl_form hR5
          dsimp only
          refine hK _ _ ?_
          clear hK K
          (try simp only [Act.put, List.setIfInBounds_toArray, List.set_cons_zero, List.set_cons_succ])
          refine wpAnyIn_take (i := 7) (oi := { dst := some 63, op := Op.build 25 #[(0, Operand.tmp 58), (1, Operand.tmp 62)], type := 25, pos := "slug.go:94", after := #[{ on := 2, ground := Ground.data }, { on := 6, ground := Ground.data }], guard := none }) (v := .agg #[.slice aM mn cM, .slice a5 n5 c5]) rfl rfl (by kernel_rfl) (by kernel_rfl) (by kernel_rfl) norm_panic ⟨Or.inl ⟨by rfl, ?y7⟩, fun _ => rfl⟩ ?_
          case y7 => (intro w; go_simp; try (with_reducible rfl))
          (try simp only [Act.put, List.setIfInBounds_toArray, List.set_cons_zero, List.set_cons_succ])
          have r5 : w5.heap[S + 1]? = _ := (hg5.block (S + 1) (at_lt af4.res) (by intro e; have := Option.some.inj e; have := HBR.out.size; have := HS.out; omega)).trans af4.res
          have d5 : w5.heap[D]? = _ := (hg5.block D (at_lt af4.dfr) (by intro e; have := Option.some.inj e; have := at_lt HDr.out; omega)).trans af4.dfr
          have x0 : w5.cell? ⟨S + 1, 0, none⟩ = some (.slice none 0 0) := by simp [World.cell?, r5]
          have x1 : w5.cell? ⟨S + 1, 1, none⟩ = some (.slice none 0 0) := by simp [World.cell?, r5]
          have f0 : w5.frozen? ⟨S + 1, 0, none⟩ = false := by simp [World.frozen?, r5]
          have f1 : w5.frozen? ⟨S + 1, 1, none⟩ = false := by simp [World.frozen?, r5]
          refine wpAnyIn_ready (rs := [8]) (by kernel_rfl) (by simp) ?_
          refine AllReadyIn.cons rfl (fun K hK => ?_) AllReadyIn.nil
          go_simp
          refine hK _ _ ?_
          clear hK K
          (try simp only [Act.put, List.setIfInBounds_toArray, List.set_cons_zero, List.set_cons_succ])
          refine wpAnyIn_done (by kernel_rfl) ⟨rfl, ?_⟩ _
          gi_wp2
          refine ⟨by simp, .inl ⟨_, _, rfl, run_takeDeferred (fin_dfr _ _ d5 (by omega)), ?_⟩⟩
          have hS := HS.out
          have hDw := at_lt HDr.out
          have hM4 : Rd (wd.heap.size ≤ ·) w4 (prsD me) [.slice aM mn cM] := Rd.sl_own (rows := rows2) (B := wd.heap.size) (e := 61) (by rw [← HMN.out]; exact hoM) hrdm.prs_any h2m (fun g hg => (hoM.lt g hg).1)
          refine ⟨_, results_cell_row (p := 2) (ty := 25) (by kernel_rfl) _ (fin S D w5 _ _) (S + 1) 25 _ (0, 0) _ rfl (fin_res _ _ r5 (by omega)) Tryz.underlying25 rfl (by kernel_rfl), _, _, rfl, ?_, ?_, ?_⟩
          · exact Rd.keep (fun b hb hlt => ⟨by omega, (fin_same _ _ (by omega) (by omega)).trans (hg5.block b hlt (by intro e; have := Option.some.inj e; omega))⟩) _ _ hM4
          · have hR6 := hR5
            rw [HA.out, HE.out.1, HE.out.2] at hR6
            exact Rd.keep (fun b hb hlt => ⟨by omega, fin_same _ _ (by omega) (by omega)⟩) _ _ hR6
          · rw [← hS]
            have hb4 := af4.bel
            refine ⟨hg5.os.trans hb4.os, hg5.tape.trans hb4.tape, hg5.output.trans hb4.output, ?_, fun b hlt => (fin_same _ _ (by omega) (by omega)).trans ((hg5.block b (by omega) (by intro e; have := Option.some.inj e; omega)).trans (hb4.block b hlt))⟩
            show w.heap.size ≤ (fin S D w5 _ _).heap.size
            rw [fin_size]
            exact Nat.le_trans hb4.size hg5.size
end Go.Proofs.YtjobjicdfoklpaaGreatDoor
