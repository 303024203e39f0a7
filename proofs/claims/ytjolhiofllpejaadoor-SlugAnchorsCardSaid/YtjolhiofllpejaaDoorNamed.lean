/- The contract of slug.named. -/
import Derived.Test.YtjolhiofllpejaaDoorTake
import Derived.Deep.RegionWith
namespace Go.Proofs.YtjolhiofllpejaaDoor
open Go.RowKit
set_option linter.unusedVariables false

theorem infoBl : (Tryd.prog.info? 44).map (fun i => (i.zero, i.size, i.bytes)) = some (some (.agg #[.int .i64 0, .int .i64 0, .string ByteArray.empty, .string ByteArray.empty, .string ByteArray.empty, .string ByteArray.empty, .string ByteArray.empty, .slice none 0 0, .slice none 0 0, .slice none 0 0, .slice none 0 0]), 11, 192) := by kernel_rfl
mutual
def Blk.bd : Blk → Prop
  | .mk _ _ _ _ _ _ a li ks => a.cls.length ≤ 1000000 ∧ a.prs.length ≤ 1000000 ∧ Inl.bdL li ∧ Inl.szL li ≤ 1000000 ∧ Blk.bdL ks
def Blk.bdL : List Blk → Prop
  | [] => True
  | x :: l => x.bd ∧ Blk.bdL l
end
theorem Blk.bdL_get : ∀ (l : List Blk) (k : Nat) (x : Blk), Blk.bdL l → l[k]? = some x → x.bd
  | [], _, _, _, h => by simp at h
  | y :: l, 0, x, hb, h => by simp at h; subst h; rw [Blk.bdL] at hb; exact hb.1
  | y :: l, k + 1, x, hb, h => by rw [Blk.bdL] at hb; exact Blk.bdL_get l k x hb.2 (by simpa using h)
theorem Blk.sz_pos (x : Blk) : 1 ≤ x.sz := by cases x; rw [Blk.sz]; omega
theorem Blk.len_le : ∀ (l : List Blk), l.length ≤ Blk.szL l
  | [] => by simp
  | x :: l => by have := Blk.len_le l; have := x.sz_pos; rw [Blk.szL]; simp; omega

def QB (p : Nat) (cs : List Value) (w : World) : Prop := w.heap[p]? = some (.cells cs.toArray 44 (0, 0))
section
variable {p : Nat} {cs : List Value} {w w' : World}
theorem QB.cell (h : QB p cs w) (j : Nat) (u : Value) (hu : cs[j]? = some u) : w.cell? ⟨p, j, none⟩ = some u := by
  unfold QB at h
  simp [World.cell?, h, hu]
theorem QB.free (h : QB p cs w) (j : Nat) : w.frozen? ⟨p, j, none⟩ = false := by
  unfold QB at h
  simp [World.frozen?, h]
theorem QB.set (h : QB p cs w) (j : Nat) (u : Value) : QB p (cs.set j u) (w.setCell ⟨p, j, none⟩ u) := by
  unfold QB at h ⊢
  simp [World.setCell, Array.getElem?_modify, h]
theorem QB.lt (h : QB p cs w) : p < w.heap.size := by unfold QB at h; exact (Array.getElem?_eq_some_iff.1 h).1
theorem QB.grown (h : QB p cs w) {row : Option Nat} (hg : w.grownBy w' row) (hne : some p ≠ row) : QB p cs w' := (hg.block p h.lt hne).trans h
end

/-- The state of a round of slug.named: as CL, and the box bx with the anchors that are left. -/
structure NL (w : World) (bx p : Nat) (cs : List Value) (v : Value) (n : Nat) (rows : List (List Value)) (l : List Blk) (A : List ByteArray) (wr : World) : Prop where
  own : wr.ownsRow w.heap.size 44 11 v n rows.flatten
  red : RdL (fun b => w.heap.size ≤ b ∧ v.ownBlock ≠ some b ∧ b ≠ p) wr (l.map Blk.d) rows
  pb : QB p cs wr
  gro : w.grownBy wr (some bx)
  box : BxAt wr bx A
section
variable {w : World} {bx p : Nat} {cs : List Value} {v : Value} {n : Nat} {rows : List (List Value)} {l : List Blk} {A A' : List ByteArray} {wr w' : World}
theorem NL.grown (h : NL w bx p cs v n rows l A wr) (hbx : bx < w.heap.size) (hg : wr.grownBy w' none) : NL w bx p cs v n rows l A w' :=
  ⟨h.own.kept hg (by cases v.ownBlock <;> simp), RdL.keep (fun b hb hlt => ⟨hb, hg.block b hlt (by simp)⟩) _ _ h.red, h.pb.grown hg (by simp),
    grown_trans h.gro ⟨hg.os, hg.tape, hg.output, hg.size, fun i hi _ => hg.block i hi (by simp)⟩, h.box.keep fun b hb => hg.block b (by have := h.gro.size; omega) (by simp)⟩
theorem NL.set (h : NL w bx p cs v n rows l A wr) (hp : w.heap.size ≤ p) (hbx : bx < w.heap.size) (hv : v.ownBlock ≠ some p) (j : Nat) (u : Value) : NL w bx p (cs.set j u) v n rows l A (wr.setCell ⟨p, j, none⟩ u) :=
  ⟨own_set h.own ⟨p, j, none⟩ u hv, RdL.keep (fun b hb hlt => ⟨hb, Below.heap_setCell wr ⟨p, j, none⟩ u b hb.2.2⟩) _ _ h.red, h.pb.set j u,
    ⟨h.gro.os, h.gro.tape, h.gro.output, by have := h.gro.size; simpa [World.setCell] using this, fun i hi hne => (Below.heap_setCell wr ⟨p, j, none⟩ u i (by show i ≠ p; omega)).trans (h.gro.block i hi hne)⟩,
    h.box.keep fun b hb => Below.heap_setCell wr ⟨p, j, none⟩ u b (by show b ≠ p; omega)⟩
theorem NL.took (h : NL w bx p cs v n rows l A wr) (hp : w.heap.size ≤ p) (hbx : bx < w.heap.size) (hg : wr.grownBy w' (some bx)) (hA : BxAt w' bx A') : NL w bx p cs v n rows l A' w' :=
  ⟨h.own.kept hg (.inr (fun e => by have := (h.own.lt bx e).1; omega)), RdL.keep (fun b hb hlt => ⟨hb, hg.block b hlt (by intro e; have := Option.some.inj e; omega)⟩) _ _ h.red, h.pb.grown hg (by intro e; have := Option.some.inj e; omega), grown_trans h.gro hg, hA⟩
theorem NL.drew (h : NL w bx p cs v n rows l A wr) : NL w bx p cs v n rows l A wr.drew :=
  ⟨h.own, RdL.keep (w := wr) (w' := wr.drew) (fun b hb _ => ⟨hb, rfl⟩) _ _ h.red, h.pb, ⟨h.gro.os, h.gro.tape, h.gro.output, h.gro.size, h.gro.block⟩, h.box.keep fun b _ => rfl⟩
theorem NL.below (h : NL w bx p cs v n rows l A wr) {B : Nat} (hB : B ≤ bx) (hbx : bx < w.heap.size) : Below B w wr :=
  ⟨h.gro.os, h.gro.tape, h.gro.output, h.gro.size, fun i hi => h.gro.block i (by omega) (by intro e; have := Option.some.inj e; omega)⟩
end
def NmRel (w wr : World) (bx : Nat) (l : List Blk) (A : List ByteArray) (v vi : Value) : Prop :=
  ∃ (k : Nat) (rows : List (List Value)), k ≤ l.length ∧ vi = .int .i64 k ∧ wr.ownsRow w.heap.size 44 11 v k rows.flatten ∧ RdL (fun b => w.heap.size ≤ b ∧ v.ownBlock ≠ some b) wr ((Blk.nameL (l.take k) A).1.map Blk.d) rows ∧ (∀ r ∈ rows, r.length = 11) ∧ w.grownBy wr (some bx) ∧ BxAt wr bx (Blk.nameL (l.take k) A).2
def NmPost (w : World) (bx : Nat) (l : List Blk) (A : List ByteArray) (e : Ending) (w' : World) : Prop :=
  ∃ v, e = .returned v ∧ Rd (w.heap.size ≤ ·) w' (blksD (Blk.nameL l A).1) [v] ∧ BxAt w' bx (Blk.nameL l A).2 ∧ w.grownBy w' (some bx)
theorem Blk.nameL_len : ∀ (l : List Blk) (A : List ByteArray), (Blk.nameL l A).1.length = l.length
  | [], A => by simp [Blk.nameL]
  | x :: l, A => by rw [Blk.nameL]; simp [Blk.nameL_len l]

theorem BlCells.grown {w w' : World} {b o : Nat} {k lv : Int} {i t d ti id : ByteArray} {vc vp vl vk : Value} (h : BlCells w b o k lv i t d ti id vc vp vl vk) {row : Option Nat} (hg : w.grownBy w' row) (hne : row ≠ some b) : BlCells w' b o k lv i t d ti id vc vp vl vk := by
  obtain ⟨c0, c1, c2, c3, c4, c5, c6, c7, c8, c9, c10⟩ := h
  exact ⟨grown_cell hg c0 hne, grown_cell hg c1 hne, grown_cell hg c2 hne, grown_cell hg c3 hne, grown_cell hg c4 hne, grown_cell hg c5 hne, grown_cell hg c6 hne, grown_cell hg c7 hne, grown_cell hg c8 hne, grown_cell hg c9 hne, grown_cell hg c10 hne⟩

theorem Rd.sl_form {ok : Nat → Prop} {w : World} {k : Nat} {l : List D} {v : Value} (h : Rd ok w (.sl k l) [v]) : ∃ a n c, v = .slice a n c := by
  obtain ⟨a', c', h', _⟩ := Rd.sl_open h
  exact ⟨_, _, _, by simpa using h'⟩

/-- Behind the copies of the attributes and the line. -/
def Nm5 (w : World) (bx p : Nat) (kd lv : Int) (i t d ti : ByteArray) (at_ : At) (li : List Inl) (vk : Value) (v : Value) (n : Nat) (rows : List (List Value)) (l : List Blk) (A : List ByteArray) (wx : World) : Prop :=
  ∃ ac1 nc1 cc1 ap1 np1 cp1 al1 nl1 cl1, NL w bx p [.int .i64 kd, .int .i64 lv, .string i, .string t, .string d, .string ti, .string at_.id, .slice ac1 nc1 cc1, .slice ap1 np1 cp1, .slice al1 nl1 cl1, vk] v n rows l A wx ∧
    AtR (p < ·) wx at_ (.slice ac1 nc1 cc1) (.slice ap1 np1 cp1) ∧ Rd (p < ·) wx (inlsD li) [.slice al1 nl1 cl1]

set_option maxRecDepth 100000 in
set_option maxHeartbeats 8000000 in
theorem named_any (n : Nat) : ∀ (l : List Blk) (B bx : Nat) (A : List ByteArray) (v : Value) (w : World), Blk.szL l ≤ n → n ≤ 1000000 → Rd (· < B) w (blksD l) [v] → B ≤ bx → bx < w.heap.size → Blk.bdL l → BxAt w bx A → Blk.bareL l ≤ A.length →
    Calls Tryd.prog 40 #[v, .func (.func 39) #[] #[.pointer (some ⟨bx, 0, none⟩)]] w (NmPost w bx l A) := by
  induction n using Nat.strongRecOn with
  | _ n ih =>
    intro l B bx A v w hn hnm hrd hB hbx hbd hbox hbare
    obtain ⟨iI, hiI, hzI0, hzI1, hzI2⟩ := info_parts infoBl
    obtain ⟨a, cap, hv, hs⟩ := Rd.sl_open hrd
    obtain rfl : v = .slice a l.length cap := by simpa using hv
    have hcap : l.length ≤ cap := by simpa using hs.le
    have hll := Blk.len_le l
    have hmx := hs.max
    have HS := Lib.hid hs
    have IH := Lib.hid ih
    have HBD := Lib.hid hbd
    have R0 : Hid (NmRel w w bx l A (.slice none 0 0) (.int .i64 0)) := ⟨0, [], Nat.zero_le _, rfl, nil_owns _ _ _ _, by rw [List.take_zero, Blk.nameL]; exact RdL.none, by simp, World.grownBy.refl _ _, by rw [List.take_zero, Blk.nameL]; exact hbox⟩
    clear hs hv hrd ih hbd hbox
    unfold maxLen at hmx
    go_enter Tryd.func40, Tryd.ntmps40
    go_wp2
    go_loopw [5, 10] (fun v vi wr => NmRel w wr bx l A v vi) (fun _ i _ => l.length - (intOf i).toNat)
    case atStart => exact R0.out
    case round =>
      obtain ⟨k, rows, hk, rfl, hown, hred, hrl, hgro, hbox⟩ := hrel
      clear R0
      by_cases hlt : k < l.length
      · obtain ⟨x, hx⟩ : ∃ x, l[k]? = some x := ⟨_, List.getElem?_eq_getElem hlt⟩
        obtain ⟨kd, lv, i, t, d, ti, at_, li, ks⟩ := x
        obtain ⟨g, off, vc, vp, vl, vk, rfl, hok, hbl, hc, hR⟩ := blks_at HS.out hx
        obtain ⟨c0, c1, c2, c3, c4, c5, c6, c7, c8, c9, c10⟩ := hc.grown hgro (by intro e; have := Option.some.inj e; omega)
        clear hc
        have hb1 := Blk.bdL_get l k _ HBD.out hx
        rw [Blk.bd] at hb1
        obtain ⟨hn1, hn2, hn3, hn4, hn5⟩ := hb1
        have hsz := Blk.szL_get l k _ hx
        rw [Blk.sz] at hsz
        obtain ⟨av, cv, rfl⟩ := own_slice hown
        obtain ⟨ac, nc, cc, rfl⟩ : ∃ ac nc cc, vc = .slice ac nc cc := by obtain ⟨a', c', h', _⟩ := Rd.sl_open hR.at_.cls; exact ⟨_, _, _, by simpa using h'⟩
        obtain ⟨ap, np, cp, rfl⟩ : ∃ ac nc cc, vp = .slice ac nc cc := by obtain ⟨a', c', h', _⟩ := Rd.sl_open hR.at_.prs; exact ⟨_, _, _, by simpa using h'⟩
        obtain ⟨al, nl, cl, rfl⟩ : ∃ ac nc cc, vl = .slice ac nc cc := by obtain ⟨a', c', h', _⟩ := Rd.sl_open hR.line; exact ⟨_, _, _, by simpa using h'⟩
        obtain ⟨ak, nk, ck, rfl⟩ : ∃ ac nc cc, vk = .slice ac nc cc := by obtain ⟨a', c', h', _⟩ := Rd.sl_open hR.kids; exact ⟨_, _, _, by simpa using h'⟩
        have HR := Lib.hid hR
        have HRL := Lib.hid hrl
        have HX := Lib.hid hx
        have HOWN := Lib.hid hown
        have HRED := Lib.hid hred
        have HGRO := Lib.hid hgro
        have HBOX := Lib.hid hbox
        have hsz1 := hgro.size
        clear hR hrl hx hown hred hgro hbox
        go_upto_region 5 with (fail)
        obtain ⟨p, hp⟩ : ∃ p, p = wr.heap.size := ⟨_, rfl⟩
        obtain ⟨wA, hwA⟩ : ∃ wA, wA = wr.alloc (.cells #[.int .i64 kd, .int .i64 lv, .string i, .string t, .string d, .string ti, .string at_.id, .slice ac nc cc, .slice ap np cp, .slice al nl cl, .slice ak nk ck] 44) := ⟨_, rfl⟩
        have hpv : (Value.slice av k cv).ownBlock ≠ some p := by rw [hp]; exact own_ne HOWN.out (Nat.le_refl _)
        have hpw : w.heap.size ≤ p := by rw [hp]; exact hsz1
        have hvp : ∀ g, (Value.slice av k cv).ownBlock = some g → g < p := fun g hg => by rw [hp]; exact (HOWN.out.lt g hg).2
        have HVP := Lib.hid hvp
        have CA : NL w bx p [.int .i64 kd, .int .i64 lv, .string i, .string t, .string d, .string ti, .string at_.id, .slice ac nc cc, .slice ap np cp, .slice al nl cl, .slice ak nk ck] (.slice av k cv) k rows (Blk.nameL (l.take k) A).1 (Blk.nameL (l.take k) A).2 wA := by
          rw [hwA, hp]
          refine ⟨HOWN.out.alloc _, RdL.keep (fun b hb hlt' => ⟨⟨hb.1, hb.2, by omega⟩, Below.heap_alloc _ _ b hlt'⟩) _ _ HRED.out, heap_alloc_new wr _, grown_trans HGRO.out ⟨rfl, rfl, rfl, by simp, fun j hj _ => Below.heap_alloc _ _ j hj⟩, HBOX.out.keep fun b hb => Below.heap_alloc _ _ b (by omega)⟩
        have hpA : wA.heap.size = p + 1 := by rw [hwA, hp]; simp
        have HPA := Lib.hid hpA
        rw [← hwA, ← hp]
        clear hwA hp HOWN HRED HGRO HBOX c0 c1 c2 c3 c4 c5 c6 c7 c8 c9 c10 hsz1 hbl hpA hvp
        have HCA := Lib.hid CA
        clear CA
        go_cut [] (fun wx => Nm5 w bx p kd lv i t d ti at_ li (.slice ak nk ck) (.slice av k cv) k rows (Blk.nameL (l.take k) A).1 (Blk.nameL (l.take k) A).2 wx)
        case first =>
          have d6 := HCA.out.pb.cell 6 _ rfl
          have d7 := HCA.out.pb.cell 7 _ rfl
          have d8 := HCA.out.pb.cell 8 _ rfl
          have d9 := HCA.out.pb.cell 9 _ rfl
          have CT := Lib.hid (copyAttr_any at_ _ _ B wA.drew (HR.out.at_.below (HCA.out.drew.below hB hbx)) (Nat.le_trans (Nat.le_trans hB (Nat.le_of_lt hbx)) HCA.out.drew.gro.size) hn1 hn2)
          have CLN := Lib.hid (fun (wq : World) (h : NL w bx p [.int .i64 kd, .int .i64 lv, .string i, .string t, .string d, .string ti, .string at_.id, .slice ac nc cc, .slice ap np cp, .slice al nl cl, .slice ak nk ck] (.slice av k cv) k rows (Blk.nameL (l.take k) A).1 (Blk.nameL (l.take k) A).2 wq) => copyLine_any 1000000 li B (.slice al nl cl) wq hn4 (Nat.le_refl _) (HR.out.line.below (h.below hB hbx)) (Nat.le_trans (Nat.le_trans hB (Nat.le_of_lt hbx)) h.gro.size) hn3)
          go_region_with (first
            | (go_at_call 70; refine CT.out.mono ?_; rintro e w1 ⟨vc1, vp1, rfl, hat1, b1⟩; have C1 := HCA.out.drew.grown hbx (grown_below b1); have e9 := C1.pb.cell 9 _ rfl; obtain ⟨ac1, nc1, cc1, rfl⟩ := Rd.sl_form hat1.cls; obtain ⟨ap1, np1, cp1, rfl⟩ := Rd.sl_form hat1.prs)
            | (go_at_call 71; refine (CLN.out _ (by assumption)).mono ?_; rintro e w2 ⟨vl1, rfl, hli1, b2⟩; have C2 := NL.grown (by assumption) hbx (grown_below b2); have e6 := C2.pb.cell 6 _ rfl; have e7 := C2.pb.cell 7 _ rfl; have e8 := C2.pb.cell 8 _ rfl; have e9 := C2.pb.cell 9 _ rfl; have f6 := C2.pb.free 6; have f7 := C2.pb.free 7; have f8 := C2.pb.free 8; have f9 := C2.pb.free 9; obtain ⟨al1, nl1, cl1, rfl⟩ := Rd.sl_form hli1))
          all_goals
            have hpl := C1.pb.lt
            have at2 := (hat1.weaken (ok' := (p < ·)) (fun b hb => by have e : wA.drew.heap.size = p + 1 := HPA.out; omega)).above (Above.grown (grown_below b2))
            have li2 := hli1.weaken (ok' := (p < ·)) (fun b hb => by omega)
            have AT2 := Lib.hid at2
            have LI2 := Lib.hid li2
            have HC2 := Lib.hid C2
            clear hat1 hli1 at2 li2 C1 C2
            go_wp2_with fail
            go_meet
            exact ⟨ac1, nc1, cc1, ap1, np1, cp1, al1, nl1, cl1, (((HC2.out.set hpw hbx hpv 6 _).set hpw hbx hpv 7 _).set hpw hbx hpv 8 _).set hpw hbx hpv 9 _,
              (((AT2.out.above (Above.set 6 _)).above (Above.set 7 _)).above (Above.set 8 _)).above (Above.set 9 _), (((LI2.out.above (Above.set 6 _)).above (Above.set 7 _)).above (Above.set 8 _)).above (Above.set 9 _)⟩
        case rest =>
          obtain ⟨ac1, nc1, cc1, ap1, np1, cp1, al1, nl1, cl1, C5, at5, li5⟩ := hcut
          have HC5 := Lib.hid C5
          have AT5 := Lib.hid at5
          have LI5 := Lib.hid li5
          have hbk := Blk.bareL_get l k _ HX.out
          rw [Blk.bare] at hbk
          have hrest := Blk.nameL_rest (l.take k) A (by omega)
          have HTK := Lib.hid (Blk.nameL_take l A k _ HX.out)
          rw [Blk.name] at HTK
          clear C5 at5 li5 HCA
          generalize hpre : Blk.nameL (l.take k) A = pre at *
          obtain ⟨done, Ak⟩ := pre
          simp only at hrest HC5 HTK
          clear hpre
          obtain ⟨id1, A1, hid⟩ : ∃ id1 A1, (id1, A1) = if kd = 2 ∧ at_.id.data.toList = [] then (Ak.headD at_.id, Ak.tail) else (at_.id, Ak) := ⟨_, _, rfl⟩
          have HID := Lib.hid hid
          have hA1 : Blk.bareL ks ≤ A1.length := by
            split at hid
            · rename_i h; rw [if_pos h] at hbk; obtain ⟨rfl, rfl⟩ := Prod.mk.inj hid; rw [List.length_tail]; omega
            · rename_i h; rw [if_neg h] at hbk; obtain ⟨rfl, rfl⟩ := Prod.mk.inj hid; omega
          have HNM : Hid (Blk.nameL (l.take (k + 1)) A = (done ++ [.mk kd lv i t d ti { at_ with id := id1 } li (Blk.nameL ks A1).1], (Blk.nameL ks A1).2)) := by
            show _ = _
            rw [HTK.out]
            split at hid
            · rename_i h; rw [if_pos h]; obtain ⟨rfl, rfl⟩ := Prod.mk.inj hid; rfl
            · rename_i h; rw [if_neg h]; obtain ⟨rfl, rfl⟩ := Prod.mk.inj hid; rfl
          clear hid HTK
          have e0 := HC5.out.pb.cell 0 _ rfl
          have e6 := HC5.out.pb.cell 6 _ rfl
          obtain ⟨w5, hw5⟩ : ∃ w5 : World, w5 = wc := ⟨_, rfl⟩
          subst hw5
          go_upto_region 6 with (fail)
          go_cut [30] (fun s30 wx => s30 = .bool (decide (kd = 2 ∧ at_.id.data.toList = [])) ∧ w5 = wx)
          case first =>
            by_cases h2 : kd = 2
            · subst h2
              by_cases h0 : at_.id.data.toList = []
              · have q1 : at_.id.toList = [] := by rw [Lib.toList_data]; exact h0
                have q2 : at_.id.toList.isEmpty = true := by rw [q1]; rfl
                go_wp2_with fail
                go_meet
                exact ⟨by simp [h0], rfl⟩
              · have q2 : at_.id.toList.isEmpty = false := by rw [Lib.toList_data]; cases h : at_.id.data.toList <;> simp_all
                go_wp2_with fail
                go_meet
                exact ⟨by simp [h0], rfl⟩
            · have q1 : (kd == 2) = false := beq_false_of_ne h2
              go_wp2_with fail
              go_meet
              exact ⟨by simp [h2], rfl⟩
          case rest =>
            obtain ⟨rfl, rfl⟩ := hcut
            clear e0 e6
            go_upto_if 30 with (fail)
            go_cut [] (fun wx => NL w bx p [.int .i64 kd, .int .i64 lv, .string i, .string t, .string d, .string ti, .string id1, .slice ac1 nc1 cc1, .slice ap1 np1 cp1, .slice al1 nl1 cl1, .slice ak nk ck] (.slice av k cv) k rows done A1 wx ∧ Above p w5 wx)
            case first =>
              by_cases hcnd : kd = 2 ∧ at_.id.data.toList = []
              · have hid2 := HID.out
                rw [if_pos hcnd] at hid2
                obtain ⟨hi1, hi2⟩ := Prod.mk.inj hid2
                have hne : 1 ≤ Ak.length := by rw [if_pos hcnd] at hbk; omega
                obtain ⟨x1, A2, rfl⟩ : ∃ x1 A2, Ak = x1 :: A2 := by cases Ak with
                  | nil => simp at hne
                  | cons x l => exact ⟨_, _, rfl⟩
                simp only [List.headD_cons, List.tail_cons] at hi1 hi2
                subst hi1 hi2
                have TK := Lib.hid (take_any id1 A1 bx w5 HC5.out.box)
                rw [show decide (kd = 2 ∧ at_.id.data.toList = []) = true from decide_eq_true hcnd]
                clear hid2
                go_wp2_with fail
                refine TK.out.mono ?_
                rintro e w6 ⟨rfl, hb6, hg6⟩
                have C6 := HC5.out.took hpw hbx hg6 hb6
                have HC6 := Lib.hid C6
                have AB6 : Hid (Above p w5 w6) := fun b hb hlt' => hg6.block b hlt' (by intro e; have := Option.some.inj e; omega)
                have e6 := C6.pb.cell 6 _ rfl
                have f6 := C6.pb.free 6
                clear C6 hb6 hg6 TK
                go_wp2_with fail
                go_meet
                refine ⟨HC6.out.set hpw hbx hpv 6 _, fun b hb hlt' => ?_⟩
                exact (Above.set 6 _ b hb (lt_same (AB6.out b hb hlt') hlt')).trans (AB6.out b hb hlt')
              · have hid2 := HID.out
                rw [if_neg hcnd] at hid2
                obtain ⟨rfl, rfl⟩ := Prod.mk.inj hid2
                rw [show decide (kd = 2 ∧ at_.id.data.toList = []) = false from decide_eq_false hcnd]
                go_wp2_with fail
                go_meet
                exact ⟨HC5.out, fun b _ _ => rfl⟩
            case rest =>
              obtain ⟨C7, AB7⟩ := hcut
              obtain ⟨w7, hw7⟩ : ∃ w7 : World, w7 = wc := ⟨_, rfl⟩
              subst hw7
              have HC7 := Lib.hid C7
              have AT7 : Hid (AtR (p < ·) w7 { at_ with id := id1 } (.slice ac1 nc1 cc1) (.slice ap1 np1 cp1)) := ⟨(AT5.out.above AB7).cls, (AT5.out.above AB7).prs⟩
              have LI7 := Lib.hid (LI5.out.above AB7)
              have d10 := C7.pb.cell 10 _ rfl
              have hp7 := C7.pb.lt
              have IK := Lib.hid (IH.out (Blk.szL ks) (by omega) ks B bx A1 (.slice ak nk ck) w7 (Nat.le_refl _) (by omega) (HR.out.kids.below (C7.below hB hbx)) hB (by have := C7.gro.size; omega) hn5 C7.box hA1)
              clear C7 HC5 AT5 LI5 AB7 hbk hrest HID
              go_wp2_with fail
              refine IK.out.mono ?_
              rintro e w8 ⟨vk1, rfl, hk1, hb8, hg8⟩
              obtain ⟨ak1, nk1, ck1, rfl⟩ := Rd.sl_form hk1
              have C8 := HC7.out.took hpw hbx hg8 hb8
              have HC8 := Lib.hid C8
              have AB8 : Above p w7 w8 := fun b hb hlt' => hg8.block b hlt' (by intro e; have := Option.some.inj e; omega)
              have AT8 := Lib.hid (AT7.out.above AB8)
              have LI8 := Lib.hid (LI7.out.above AB8)
              have RK8 := Lib.hid (hk1.weaken (ok' := (p < ·)) (fun b hb => by omega))
              have d10 := C8.pb.cell 10 _ rfl
              have f10 := C8.pb.free 10
              clear C8 HC7 AT7 LI7 IK hk1 hb8 hg8 AB8 hp7
              go_upto_region 9 with (fail)
              obtain ⟨w9, hw9⟩ : ∃ w9, w9 = w8.setCell ⟨p, 10, none⟩ (.slice ak1 nk1 ck1) := ⟨_, rfl⟩
              have C9 : NL w bx p [.int .i64 kd, .int .i64 lv, .string i, .string t, .string d, .string ti, .string id1, .slice ac1 nc1 cc1, .slice ap1 np1 cp1, .slice al1 nl1 cl1, .slice ak1 nk1 ck1] (.slice av k cv) k rows done (Blk.nameL ks A1).2 w9 := by
                rw [hw9]; exact HC8.out.set hpw hbx hpv 10 _
              have BL9 : Hid (BlR (p < ·) w9 { at_ with id := id1 } li (Blk.nameL ks A1).1 (.slice ac1 nc1 cc1) (.slice ap1 np1 cp1) (.slice al1 nl1 cl1) (.slice ak1 nk1 ck1)) := by
                show BlR _ _ _ _ _ _ _ _ _
                rw [hw9]
                exact ⟨AT8.out.above (Above.set 10 _), LI8.out.above (Above.set 10 _), RK8.out.above (Above.set 10 _)⟩
              rw [← hw9]
              clear hw9 d10 f10 HC8 AT8 LI8 RK8
              have HC9 := Lib.hid C9
              have e0 := C9.pb.cell 0 _ rfl
              have e1 := C9.pb.cell 1 _ rfl
              have e2 := C9.pb.cell 2 _ rfl
              have e3 := C9.pb.cell 3 _ rfl
              have e4 := C9.pb.cell 4 _ rfl
              have e5 := C9.pb.cell 5 _ rfl
              have e6 := C9.pb.cell 6 _ rfl
              have e7 := C9.pb.cell 7 _ rfl
              have e8 := C9.pb.cell 8 _ rfl
              have e9 := C9.pb.cell 9 _ rfl
              have e10 := C9.pb.cell 10 _ rfl
              have hs9 := C9.gro.size
              clear C9
              go_wp2_with (at_builtin; refine wpList_append_any _ rfl (.tmp 40) (.tmp 42) 30 rfl w.heap.size 44 iI _ 11 192 Tryd.underlying30 hiI hzI0 hzI1 hzI2 rfl (by decide) (.slice av k cv) k rows.flatten rfl (HC9.out.own.alloc _) (w9.heap.size + 1) (some ⟨w9.heap.size, 0, none⟩) 1 1 [.int .i64 kd, .int .i64 lv, .string i, .string t, .string d, .string ti, .string id1, .slice ac1 nc1 cc1, .slice ap1 np1 cp1, .slice al1 nl1 cl1, .slice ak1 nk1 ck1] rfl ?g1 ?g2 ?g3 ?g4 ?g5 ?_)
              case g1 => exact ⟨rfl, fun _ => ⟨_, rfl, by simp, new_cells w9 [.int .i64 kd, .int .i64 lv, .string i, .string t, .string d, .string ti, .string id1, .slice ac1 nc1 cc1, .slice ap1 np1 cp1, .slice al1 nl1 cl1, .slice ak1 nk1 ck1] _⟩⟩
              case g2 => intro u hu; simp at hu; rcases hu with rfl | rfl | rfl | rfl | rfl | rfl | rfl | rfl | rfl | rfl | rfl <;> rfl
              case g3 => unfold maxLen; omega
              case g4 => omega
              case g5 => simp; omega
              intro v' wz hown' hgrow hat
              have hvb : (Value.slice av k cv).ownBlock ≠ some bx := fun e => by have := (HC9.out.own.lt bx e).1; omega
              have hh : ∀ b, b < w9.heap.size → (Value.slice av k cv).ownBlock ≠ some b → wz.heap[b]? = w9.heap[b]? := fun b hb hne =>
                (hgrow.block b (by rw [World.size_alloc]; omega) (fun e => hne e.symm)).trans (Below.heap_alloc _ _ b hb)
              have GZ : Hid (w.grownBy wz (some bx)) := by
                have g9 := HC9.out.gro
                refine ⟨hgrow.os.trans g9.os, hgrow.tape.trans g9.tape, hgrow.output.trans g9.output, by have := hgrow.size; rw [World.size_alloc] at this; omega, fun j hj hne => ?_⟩
                exact (hh j (by omega) (fun e => by have := (HC9.out.own.lt j e).1; omega)).trans (g9.block j hj hne)
              have BZ := Lib.hid (HC9.out.box.keep (w' := wz) fun b hb => hh b (by omega) (fun e => by have := (HC9.out.own.lt b e).1; omega))
              have RED : Hid (RdL (fun b => w.heap.size ≤ b ∧ v'.ownBlock ≠ some b) wz ((done ++ [Blk.mk kd lv i t d ti { at_ with id := id1 } li (Blk.nameL ks A1).1]).map Blk.d) (rows ++ [[.int .i64 kd, .int .i64 lv, .string i, .string t, .string d, .string ti, .string id1, .slice ac1 nc1 cc1, .slice ap1 np1 cp1, .slice al1 nl1 cl1, .slice ak1 nk1 ck1]])) := by
                have hv' : ∀ b, b < w9.heap.size → (Value.slice av k cv).ownBlock ≠ some b → v'.ownBlock ≠ some b := by
                  intro b hb hne
                  rcases hat with e | e
                  · rw [e]; exact hne
                  · rw [e]; intro h; have := Option.some.inj h; omega
                show RdL _ _ _ _
                rw [List.map_append]
                refine RdL.app (RdL.keep (fun b hb hlt' => ⟨⟨hb.1, hv' b hlt' hb.2.1⟩, hh b hlt' hb.2.1⟩) _ _ HC9.out.red) (RdL.one ?_)
                refine Rd.keep (fun b hb hlt' => ?_) _ _ (Blk.mk_ kd lv i t d ti BL9.out)
                have hne : (Value.slice av k cv).ownBlock ≠ some b := fun e => by have := HVP.out b e; omega
                exact ⟨⟨by omega, hv' b hlt' hne⟩, hh b hlt' hne⟩
              have HOW := Lib.hid hown'
              clear hown' hgrow hat hh hvb e0 e1 e2 e3 e4 e5 e6 e7 e8 e9 e10
              go_wp2
              go_roundw
              case rel =>
                refine ⟨k + 1, rows ++ [[.int .i64 kd, .int .i64 lv, .string i, .string t, .string d, .string ti, .string id1, .slice ac1 nc1 cc1, .slice ap1 np1 cp1, .slice al1 nl1 cl1, .slice ak1 nk1 ck1]], by omega, by go_num, ?_, ?_, ?_, GZ.out, ?_⟩
                · rw [List.flatten_append]; simpa using HOW.out
                · rw [HNM.out]; exact RED.out
                · intro r hr
                  rcases List.mem_append.1 hr with hr | hr
                  · exact HRL.out r hr
                  · simp at hr; subst hr; rfl
                · rw [HNM.out]; exact BZ.out
              case measure => simp [intOf]; omega
      · have hkl : k = l.length := by omega
        subst hkl
        rw [List.take_length] at hred hbox
        have HO := Lib.hid hown
        have HRE := Lib.hid hred
        have HRL := Lib.hid hrl
        have HBX := Lib.hid hbox
        clear hown hred hrl hbox
        go_wp2
        go_ret
        refine ⟨_, rfl, Rd.sl_own (rows := rows) (B := w.heap.size) (e := 44) ?_ (RdL.keep (fun b hb _ => ⟨hb.1, rfl⟩) _ _ HRE.out) HRL.out (fun g hg => (HO.out.lt g hg).1), HBX.out, hgro⟩
        rw [List.length_map, Blk.nameL_len]; exact HO.out
end Go.Proofs.YtjolhiofllpejaaDoor
