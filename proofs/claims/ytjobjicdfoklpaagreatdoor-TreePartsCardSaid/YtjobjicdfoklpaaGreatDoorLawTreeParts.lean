/- Proved: the tied card of publisherlaw04.TreeParts: it returns true at every document and list of choices, and the arguments read as before; the tables of the library are what the program's text lays. No other condition. -/
import Derived.Test.YtjobjicdfoklpaaGreatDoorPaJ
import Derived.Test.YtjobjicdfoklpaaGreatDoorChW
import Derived.Test.YtjobjicdfoklpaaGreatDoorAwk
import Derived.Test.YtjobjicdfoklpaaGreatDoorSmLine
import Derived.Test.YtjobjicdfoklpaaGreatDoorLaid4
import Derived.Test.YtjobjicdfoklpaaGreatDoorCards
import Derived.Test.YtjobjicdfoklpaaGreatDoorTie
import Derived.ShutString
import Derived.SevenTiedAt
import Derived.ChangeOld
import Derived.Deep.RegionHeld3
import Derived.Deep.AppendLies
namespace Go.Proofs.YtjobjicdfoklpaaGreatDoor.LawTreeParts
open Go.ChangeShapes Go.WideShapes Go.ChangeAt Go.RowKit
set_option linter.unusedVariables false
set_option linter.unusedSimpArgs false

/-- What stands in every world of the walk: both documents, in their boxes, and what they lead to. -/
structure Ts (p1 p2 : Nat) (me me' : List Pr) (l l' : List Blk) (vm vb um ub : Value) (w0 w : World) : Prop where
  k1 : CB 25 p1 [vm, vb] w
  k2 : CB 25 p2 [um, ub] w
  m1 : Rd (· < w.heap.size) w (prsD me) [vm]
  b1 : Rd (· < w.heap.size) w (blksD l) [vb]
  m2 : Rd (· < w.heap.size) w (prsD me') [um]
  b2 : Rd (· < w.heap.size) w (blksD l') [ub]
  bel : Below w0.heap.size w0 w
variable {p1 p2 : Nat} {me me' : List Pr} {l l' : List Blk} {vm vb um ub : Value} {w0 w w2 : World}
theorem Ts.next (h : Ts p1 p2 me me' l l' vm vb um ub w0 w) (hb : Below w.heap.size w w2) : Ts p1 p2 me me' l l' vm vb um ub w0 w2 :=
  ⟨h.k1.below hb, h.k2.below hb, h.m1.up hb, h.b1.up hb, h.m2.up hb, h.b2.up hb, below_trans_size h.bel hb⟩
theorem Ts.all (h : Ts p1 p2 me me' l l' vm vb um ub w0 w) : w.cell? ⟨p1, 0, none⟩ = some vm ∧ w.cell? ⟨p1, 1, none⟩ = some vb ∧ w.cell? ⟨p2, 0, none⟩ = some um ∧ w.cell? ⟨p2, 1, none⟩ = some ub ∧ Ts p1 p2 me me' l l' vm vb um ub w0 w :=
  ⟨h.k1.cell 0 _ rfl, h.k1.cell 1 _ rfl, h.k2.cell 0 _ rfl, h.k2.cell 1 _ rfl, h⟩
theorem Ts.drew (h : Ts p1 p2 me me' l l' vm vb um ub w0 w) : Ts p1 p2 me me' l l' vm vb um ub w0 w.drew := h.next ⟨rfl, rfl, rfl, Nat.le_refl _, fun _ _ => rfl⟩
theorem Ts.step (h : w.cell? ⟨p1, 0, none⟩ = some vm ∧ w.cell? ⟨p1, 1, none⟩ = some vb ∧ w.cell? ⟨p2, 0, none⟩ = some um ∧ w.cell? ⟨p2, 1, none⟩ = some ub ∧ Ts p1 p2 me me' l l' vm vb um ub w0 w) (hb : Below w.heap.size w w2) : w2.cell? ⟨p1, 0, none⟩ = some vm ∧ w2.cell? ⟨p1, 1, none⟩ = some vb ∧ w2.cell? ⟨p2, 0, none⟩ = some um ∧ w2.cell? ⟨p2, 1, none⟩ = some ub ∧ Ts p1 p2 me me' l l' vm vb um ub w0 w2 := (h.2.2.2.2.next hb).all
theorem blks_one {ok : Nat → Prop} {w : World} {l : List Blk} {rows : List (List Value)} (h : RdL ok w (l.map Blk.d) rows) : ∀ u ∈ rows.flatten, u.oneCell' = true :=
  rows_one h fun d hd r hr u hu => by
    obtain ⟨x, _, rfl⟩ := List.mem_map.1 hd
    obtain ⟨kd, lv, i, t, d, ti, at_, li, ks⟩ := x
    obtain ⟨vc, vp, vl, vk, rfl, hR⟩ := Blk.open_ hr
    obtain ⟨ac, nc, cc, rfl⟩ := Rd.sl_form hR.at_.cls
    obtain ⟨ap, np, cp, rfl⟩ := Rd.sl_form hR.at_.prs
    obtain ⟨al, nl, cl, rfl⟩ := Rd.sl_form hR.line
    obtain ⟨ak, nk, ck, rfl⟩ := Rd.sl_form hR.kids
    simp only [List.mem_cons, List.not_mem_nil, or_false] at hu
    rcases hu with rfl | rfl | rfl | rfl | rfl | rfl | rfl | rfl | rfl | rfl | rfl <;> rfl
theorem Ts.stepB {xs : List Blk} {v : Value} (h : w.cell? ⟨p1, 0, none⟩ = some vm ∧ w.cell? ⟨p1, 1, none⟩ = some vb ∧ w.cell? ⟨p2, 0, none⟩ = some um ∧ w.cell? ⟨p2, 1, none⟩ = some ub ∧ Ts p1 p2 me me' l l' vm vb um ub w0 w ∧ Rd (· < w.heap.size) w (blksD xs) [v]) (hb : Below w.heap.size w w2) : w2.cell? ⟨p1, 0, none⟩ = some vm ∧ w2.cell? ⟨p1, 1, none⟩ = some vb ∧ w2.cell? ⟨p2, 0, none⟩ = some um ∧ w2.cell? ⟨p2, 1, none⟩ = some ub ∧ Ts p1 p2 me me' l l' vm vb um ub w0 w2 ∧ Rd (· < w2.heap.size) w2 (blksD xs) [v] :=
  have h1 := (h.2.2.2.2.1.next hb).all
  ⟨h1.1, h1.2.1, h1.2.2.1, h1.2.2.2.1, h1.2.2.2.2, h.2.2.2.2.2.up hb⟩
theorem Ts.startB {xs : List Blk} {v : Value} (h : Ts p1 p2 me me' l l' vm vb um ub w0 w) (hx : Rd (· < w.heap.size) w (blksD xs) [v]) : w.drew.cell? ⟨p1, 0, none⟩ = some vm ∧ w.drew.cell? ⟨p1, 1, none⟩ = some vb ∧ w.drew.cell? ⟨p2, 0, none⟩ = some um ∧ w.drew.cell? ⟨p2, 1, none⟩ = some ub ∧ Ts p1 p2 me me' l l' vm vb um ub w0 w.drew ∧ Rd (· < w.drew.heap.size) w.drew (blksD xs) [v] :=
  have b : Below w.heap.size w w.drew := ⟨rfl, rfl, rfl, Nat.le_refl _, fun _ _ => rfl⟩
  ⟨h.drew.all.1, h.drew.all.2.1, h.drew.all.2.2.1, h.drew.all.2.2.2.1, h.drew, hx.up b⟩
theorem Ts.finB {xs : List Blk} {v : Value} (h : w.cell? ⟨p1, 0, none⟩ = some vm ∧ w.cell? ⟨p1, 1, none⟩ = some vb ∧ w.cell? ⟨p2, 0, none⟩ = some um ∧ w.cell? ⟨p2, 1, none⟩ = some ub ∧ Ts p1 p2 me me' l l' vm vb um ub w0 w ∧ Rd (· < w.heap.size) w (blksD xs) [v]) : Below w0.heap.size w0 w := h.2.2.2.2.1.bel

theorem errL_all (cl : ByteArray → Bool) : ∀ (l : List Blk), Blk.errL cl 0 0 l = 0 ↔ ∀ x ∈ l, x.err cl 0 0 = 0
  | [] => by rw [Blk.errL]; simp
  | x :: l => by
    rw [Blk.errL]
    by_cases h : x.err cl 0 0 ≠ 0
    · rw [if_pos h]
      exact ⟨fun e => absurd e h, fun e => absurd (e x (by simp)) h⟩
    · rw [if_neg h, errL_all cl l]
      have h : x.err cl 0 0 = 0 := by simpa using h
      simp [h]
theorem errL_sub {cl : ByteArray → Bool} {p l : List Blk} (h : p.Sublist l) (h0 : Blk.errL cl 0 0 l = 0) : Blk.errL cl 0 0 p = 0 :=
  (errL_all cl p).2 fun x hx => (errL_all cl l).1 h0 x (h.subset hx)
theorem allL_sub {p l : List Blk} (h : p.Sublist l) : Blk.allL p ≤ Blk.allL l := by
  induction h with
  | slnil => exact Nat.le_refl _
  | cons x _ ih => rw [Blk.allL]; omega
  | cons_cons x _ ih => rw [Blk.allL, Blk.allL]; omega
theorem smallL_sub {p l : List Blk} (h : p.Sublist l) (hs : Blk.smallL l) : Blk.smallL p := by
  induction h with
  | slnil => exact hs
  | cons x _ ih => unfold Blk.smallL at hs; exact ih hs.2
  | cons_cons x _ ih => unfold Blk.smallL at hs ⊢; exact ⟨hs.1, ih hs.2⟩
theorem docErr_sub {cl : ByteArray → Bool} {me : List Pr} {p l : List Blk} (h : p.Sublist l) (h0 : docErr cl me l = 0) : docErr cl me p = 0 := by
  unfold docErr at h0 ⊢
  by_cases h1 : 32768 < Blk.allL l ∨ 64 < me.length
  · rw [if_pos h1] at h0; cases h0
  rw [if_neg h1] at h0
  have := allL_sub h
  rw [if_neg (by omega)]
  by_cases h2 : metErr [] me ≠ 0
  · rw [if_pos h2] at h0; exact absurd h0 h2
  rw [if_neg h2] at h0 ⊢
  exact errL_sub h h0
theorem take_sub {p l : List Blk} {k : Nat} (h : p.Sublist (l.take k)) : p.Sublist (l.take (k + 1)) := h.trans (List.take_sublist_take_left (Nat.le_succ k))
theorem take_sub1 {p l : List Blk} {k : Nat} {x : Blk} (hx : l[k]? = some x) (h : p.Sublist (l.take k)) : (p ++ [x]).Sublist (l.take (k + 1)) := by
  rw [List.take_add_one, hx]
  exact h.append (List.Sublist.refl _)
theorem rd_bools {H : Type} {enc : TypeId × Value → H} {w : World} {base : Nat} {spare : Nat → Bool} {held : Bool} {fuel : Nat} {cs : List Value} {x : DataW H × List MemPlace} (h : DataW.trod enc Tryz.prog w base spare held fuel 52 cs = some x) (hw : Rch Tryz.prog 52 x.1) : ∃ l : List Bool, Rd (· < w.heap.size) w (.sl 1 (l.map D.bool)) cs := by
  obtain ⟨l, -, -, h3⟩ := rd_slice D.bool (fun _ => True) Tryz.underlying52 cB (by decide) (fun n cs' y _ hy hyw => by
    obtain ⟨b, rfl, _⟩ := DataW.trod_bool Tryz.underlying4 hy
    exact ⟨b, trivial, Rd.bool_mk _ _ _⟩) h hw
  exact ⟨l, h3⟩
theorem bools_at {ok : Nat → Prop} {w : World} {l : List Bool} {a : Option Addr} {cap : Nat} (h : SlAt ok w 1 (l.map D.bool) a cap) {k : Nat} {y : Bool} (hy : l[k]? = some y) :
    ∃ b off, a = some ⟨b, off, none⟩ ∧ ok b ∧ b < w.heap.size ∧ w.cell? ⟨b, off + k, none⟩ = some (.bool y) := by
  obtain ⟨b, off, ha, hok, hb, hc⟩ := h.at_ (by have := (List.getElem?_eq_some_iff.1 hy).1; simpa using Nat.lt_of_le_of_lt (Nat.zero_le _) this)
  obtain ⟨r, hr, hl, hcell⟩ := hc k _ (by rw [List.getElem?_map, hy]; rfl)
  obtain rfl := hr.bool_open
  have := hcell 0 _ rfl
  rw [Nat.mul_one, Nat.add_zero] at this
  exact ⟨b, off, ha, hok, hb, this⟩
/-- The part under way: its box, and its row of one's own. -/
structure PtM (P : Nat) (vm : Value) (w3 : World) (p : List Blk) (v : Value) (rows : List (List Value)) (wx : World) : Prop where
  box : CB 25 P [vm, v] wx
  own : wx.ownsRow (P + 1) 54 11 v p.length rows.flatten
  rd : RdL (· < P) w3 (p.map Blk.d) rows
  l11 : ∀ r ∈ rows, r.length = 11
  bel : Below P w3 wx
theorem PtM.push {P : Nat} {vm v v' : Value} {w3 wr w5 : World} {o : Obj} {p : List Blk} {rows : List (List Value)} {x : Blk} {r : List Value} (h : PtM P vm w3 p v rows wr) (hx : Rd (· < P) w3 x.d r) (hl : r.length = 11)
    (hg : (wr.alloc o).drew.grownBy w5 v.ownBlock) (hown : w5.ownsRow (P + 1) 54 11 v' (p.length + 1) (rows.flatten ++ r)) :
    w5.cell? ⟨P, 1, none⟩ = some v ∧ w5.frozen? ⟨P, 1, none⟩ = false ∧ PtM P vm w3 (p ++ [x]) v' (rows ++ [r]) (w5.setCell ⟨P, 1, none⟩ v') := by
  have hlt := h.own.lt
  have hP := h.box.lt
  have hsz : (wr.alloc o).drew.heap.size = wr.heap.size + 1 := by show (wr.alloc o).heap.size = _; rw [World.size_alloc]
  have hold : ∀ k, k < wr.heap.size → some k ≠ v.ownBlock → w5.heap[k]? = wr.heap[k]? := fun k hk hne =>
    (hg.block k (by rw [hsz]; omega) hne).trans (Below.heap_alloc wr o k hk)
  have hPv : some P ≠ v.ownBlock := fun e => by have := (hlt P e.symm).1; omega
  have hb5 : w5.heap[P]? = some (.cells #[vm, v] 25 (0, 0)) := (hold P hP hPv).trans h.box
  refine ⟨by simp [World.cell?, hb5], by simp [World.frozen?, hb5], ?_, ?_, ?_, ?_, ?_⟩
  · unfold CB
    simp [World.setCell, Array.getElem?_modify, hb5]
  · have := ownsRow_setCell_below (a := ⟨P, 1, none⟩) hown (Nat.lt_succ_self P) v'
    simpa using this
  · rw [List.map_append]
    exact RdL.app h.rd (by unfold RdL; exact ⟨r, [], rfl, hx, by unfold RdL; rfl⟩)
  · intro q hq
    rcases List.mem_append.1 hq with hq | hq
    · exact h.l11 q hq
    · rw [List.mem_singleton.1 hq]; exact hl
  · refine ⟨hg.os.trans h.bel.os, hg.tape.trans h.bel.tape, hg.output.trans h.bel.output, ?_, fun k hk => ?_⟩
    · have := hg.size; have := h.bel.size; rw [hsz] at *; simp [World.setCell]; omega
    · exact (Below.heap_setCell w5 ⟨P, 1, none⟩ v' k (by show k ≠ P; omega)).trans ((hold k (by omega) (fun e => by have := (hlt k e.symm).1; omega)).trans (h.bel.block k hk))
def PtRel (P : Nat) (vm : Value) (w3 : World) (l : List Blk) (vi : Value) (wr : World) : Prop :=
  ∃ (k : Nat) (p : List Blk) (v : Value) (rows : List (List Value)), k ≤ l.length ∧ vi = .int .i64 k ∧ p.Sublist (l.take k) ∧ PtM P vm w3 p v rows wr

set_option maxRecDepth 100000 in
set_option maxHeartbeats 4000000 in
theorem walk (me : List Pr) (l : List Blk) (ks : List Bool) (vm vb vk : Value) (w : World) (hm : Rd (· < w.heap.size) w (prsD me) [vm]) (hb : Rd (· < w.heap.size) w (blksD l) [vb]) (hk : Rd (· < w.heap.size) w (.sl 1 (ks.map D.bool)) [vk])
    (hwm : ∀ p ∈ me, p.wf) (hwl : Blk.wfL l) :
    Calls Tryz.prog 7 #[.agg #[vm, vb], vk] w fun e w' => e = .returned (.bool true) ∧ Below w.heap.size w w' := by
  obtain ⟨am, cm, hvm, hsm⟩ := Rd.sl_open hm
  obtain rfl : vm = .slice am me.length cm := by simpa using hvm
  obtain ⟨ab, cb, hvb, hsb0⟩ := Rd.sl_open hb
  obtain rfl : vb = .slice ab l.length cb := by simpa using hvb
  obtain ⟨ak, ck, hvk, hsk⟩ := Rd.sl_open hk
  obtain rfl : vk = .slice ak ks.length ck := by simpa using hvk
  have hcapk : ks.length ≤ ck := by simpa using hsk.le
  have hmxk := hsk.max
  have hcapb : l.length ≤ cb := by simpa using hsb0.le
  have hmxb := hsb0.max
  unfold maxLen at hmxk hmxb
  obtain ⟨w1, hw1⟩ : ∃ w1, w1 = w.alloc (.cells #[.slice am me.length cm, .slice ab l.length cb] 25) := ⟨_, rfl⟩
  have b1 : Below w.heap.size w w1 := by rw [hw1]; exact (Below.refl _ _).alloc (Nat.le_refl _) _
  have k1 : CB 25 w.heap.size [.slice am me.length cm, .slice ab l.length cb] w1 := by rw [hw1]; exact CB.new _ _ _
  have x0 := k1.cell 0 _ rfl
  have x1 := k1.cell 1 _ rfl
  have SA := Lib.hid (small_any me l _ _ w1 (hm.up b1) (hb.up b1) hwm hwl)
  have HM := Lib.hid hm
  have HB := Lib.hid hb
  have HSK := Lib.hid hsk
  have HSB := Lib.hid hsb0
  have K1_ := Lib.hid k1
  have B1_ := Lib.hid b1
  clear hm hb hwm hwl hvm hvb hvk hsm hsb0 hsk hk b1 k1
  go_enter Tryz.func7, Tryz.ntmps7
  (try simp only [List.append_eq, List.cons_append, List.nil_append])
  go_upto_region 1 with (fail)
  rw [← hw1]
  clear hw1
  go_wp2_with fail
  refine SA.out.mono ?_
  rintro e w2 ⟨b, rfl, hsa, b2⟩
  have k2 := K1_.out.below b2
  have K2 := Lib.hid k2
  have B2 := Lib.hid (below_trans_size B1_.out b2)
  clear x0 x1 b2
  have x0 := k2.cell 0 _ rfl
  have x1 := k2.cell 1 _ rfl
  clear k2
  cases b with
  | false =>
    clear hsa
    go_wp2_with fail
    refine (awake_any _).mono ?_
    rintro e w3 ⟨rfl, b3⟩
    have HX := Lib.hid (below_trans_size B2.out b3)
    clear b3
    go_wp2
    go_ret
    exact ⟨rfl, HX.out⟩
  | true =>
  have HSA := Lib.hid (hsa rfl)
  have al1 := HSA.out.all
  have mt1 := HSA.out.meta_
  have hll := Blk.len_le l
  have hls := Blk.allL_sz l
  have CK := Lib.hid (tCheck_any closesS me l am ab cm _ cb w2 (by omega) (fun p hp => ⟨Nat.le_trans (HSA.out.mets p hp).1 (by decide), Nat.le_trans (HSA.out.mets p hp).2 (by decide)⟩) (by omega) HSA.out.blks (fun _ => math_any) (HM.out.up B2.out) (HB.out.up B2.out))
  obtain ⟨E, hE⟩ : ∃ E, E = docErr closesS me l := ⟨_, rfl⟩
  rw [← hE] at CK
  have HE := Lib.hid hE
  clear hsa SA hE
  by_cases hE0 : E = 0
  case neg =>
    have q0 : ((E : Int) != 0) = true := by rw [bne_iff_ne]; omega
    go_wp2_with fail
    refine CK.out.mono ?_
    rintro e w3 ⟨rfl, b3⟩
    have B3 := Lib.hid (below_trans_size B2.out b3)
    clear b3
    go_wp2_with fail
    refine (awake_any _).mono ?_
    rintro e w4 ⟨rfl, b4⟩
    have HX := Lib.hid (below_trans_size B3.out b4)
    clear b4
    go_wp2
    go_ret
    exact ⟨rfl, HX.out⟩
  have HE0 : Hid (docErr closesS me l = 0) := HE.out.symm.trans hE0
  subst hE0
  go_wp2_with fail
  refine CK.out.mono ?_
  rintro e w3 ⟨rfl, b3⟩
  have k3 := K2.out.below b3
  have K3 := Lib.hid k3
  have B3 := Lib.hid (below_trans_size B2.out b3)
  clear x0 x1 b3 CK
  have x0 := k3.cell 0 _ rfl
  have x1 := k3.cell 1 _ rfl
  have hS3 := k3.lt
  clear k3
  obtain ⟨W0, hW0⟩ : ∃ W0, W0 = w3.alloc (.cells #[.slice am me.length cm, .slice none 0 0] 25) := ⟨_, rfl⟩
  have M0 : PtM w3.heap.size (.slice am me.length cm) w3 [] (.slice none 0 0) [] W0 := by
    refine ⟨?_, nil_owns _ _ _ _, RdL.none, by simp, ?_⟩
    · rw [hW0]; exact CB.new _ _ _
    · rw [hW0]; exact (Below.refl _ _).alloc (Nat.le_refl _) _
  have R0 : Hid (PtRel w3.heap.size (.slice am me.length cm) w3 l (.int .i64 0) W0) := ⟨0, [], _, [], Nat.zero_le _, rfl, by simp, M0⟩
  clear M0
  go_wp2
  rw [← hW0]
  clear hW0 x0 x1
  go_loopw [6] (fun vi wr => PtRel w3.heap.size (.slice am me.length cm) w3 l vi wr) (fun i _ => l.length - (intOf i).toNat)
  case atStart => exact R0.out
  case round =>
    clear R0
    obtain ⟨k, p, v, rows, hk, rfl, hsub, hM⟩ := hrel
    obtain ⟨av, cv, rfl⟩ := own_slice hM.own
    have hwr := hM.bel.size
    have k4 : CB 25 w.heap.size [.slice am me.length cm, .slice ab l.length cb] wr := (hM.bel.block _ hS3).trans K3.out
    have x0 := k4.cell 0 _ rfl
    have x1 := k4.cell 1 _ rfl
    have y0 := hM.box.cell 0 _ rfl
    have y1 := hM.box.cell 1 _ rfl
    have hPl := hM.box.lt
    have HM4 := Lib.hid hM
    have HSUB := Lib.hid hsub
    have K4 := Lib.hid k4
    have hpl := hsub.length_le
    rw [List.length_take] at hpl
    clear hM hsub k4
    by_cases hlt : k < l.length
    · obtain ⟨x, hx⟩ : ∃ x, l[k]? = some x := ⟨_, List.getElem?_eq_getElem hlt⟩
      have HX := Lib.hid hx
      have HNX : Hid (PtRel w3.heap.size (.slice am me.length cm) w3 l (.int .i64 ((k : Int) + 1)) wr) := ⟨k + 1, p, _, rows, hlt, by go_num, take_sub HSUB.out, HM4.out⟩
      by_cases hkl : k < ks.length
      · obtain ⟨y, hy⟩ : ∃ y, ks[k]? = some y := ⟨_, List.getElem?_eq_getElem hkl⟩
        obtain ⟨gb, ob, rfl, hgok, -, z0⟩ := bools_at HSK.out hy
        have z1 : wr.cell? ⟨gb, ob + k, none⟩ = some (.bool y) := by
          rw [World.cell?_of_block (a := ⟨gb, ob + k, none⟩) ((HM4.out.bel.block gb (by have := B3.out.size; omega)).trans (B3.out.block gb hgok))]
          exact z0
        clear z0 hy hx
        cases y with
        | false =>
          clear HM4 HSUB
          go_wp2
          go_roundw
          case rel => exact HNX.out
          case measure => simp [intOf]; omega
        | true =>
          obtain ⟨kd, lv, i, t, d, ti, at_, li, kds⟩ := x
          obtain ⟨g, off, vc, vp, vl, vkk, rfl, hok, -, hc, hR⟩ := blks_at HSB.out HX.out
          obtain ⟨ac, nc, cc, rfl⟩ := Rd.sl_form hR.at_.cls
          obtain ⟨ap, np, cp, rfl⟩ := Rd.sl_form hR.at_.prs
          obtain ⟨al, nl, cl, rfl⟩ := Rd.sl_form hR.line
          obtain ⟨akk, nk, ckk, rfl⟩ := Rd.sl_form hR.kids
          have hgw : wr.heap[g]? = w.heap[g]? := (HM4.out.bel.block g (by have := B3.out.size; omega)).trans (B3.out.block g hok)
          obtain ⟨c0, c1, c2, c3, c4, c5, c6, c7, c8, c9, c10⟩ := hc.at2 hgw
          have RX : Hid (Rd (· < w3.heap.size) w3 (Blk.mk kd lv i t d ti at_ li kds).d [.int .i64 kd, .int .i64 lv, .string i, .string t, .string d, .string ti, .string at_.id, .slice ac nc cc, .slice ap np cp, .slice al nl cl, .slice akk nk ckk]) :=
            Rd.keep (ok := (· < w.heap.size)) (w := w) (fun b h1 h2 => ⟨by have := B3.out.size; show b < w3.heap.size; omega, B3.out.block b h1⟩) _ _ (Blk.mk_ kd lv i t d ti hR)
          have hgl : g < wr.heap.size := by have := B3.out.size; omega
          obtain ⟨i0, hi0, hz0, hz1, hz2⟩ := info_parts infoBl
          have OW := Lib.hid HM4.out.own
          clear hc hR HNX hgw
          go_upto_region 8 with (fail)
          go_region_law (refine step_append_lies _ rfl (.tmp 37) (.tmp 43) 23 rfl (w3.heap.size + 1) 54 i0 _ 11 192 Tryz.underlying23 hi0 hz0 hz1 hz2 rfl (by decide) (.slice av p.length cv) p.length rows.flatten rfl (OW.out.alloc _) ⟨wr.heap.size, 0, none⟩ 1 1 [.int .i64 kd, .int .i64 lv, .string i, .string t, .string d, .string ti, .string at_.id, .slice ac nc cc, .slice ap np cp, .slice al nl cl, .slice akk nk ckk] rfl rfl (new_cells wr _ _) (by intro u hu; simp at hu; rcases hu with rfl | rfl | rfl | rfl | rfl | rfl | rfl | rfl | rfl | rfl | rfl <;> rfl) (by omega) (by unfold maxLen; omega) (by omega) (by show w3.heap.size + 1 ≤ (wr.alloc _).heap.size; rw [World.size_alloc]; omega) _ rfl ?_; intro g5 cap5 w5 hown hgrow hat hlt5; obtain ⟨u1, uf, hP5⟩ := HM4.out.push RX.out rfl hgrow hown; have HP5 := Lib.hid hP5; clear hP5 hown hgrow hat)
          all_goals
            have HFIN := Lib.hid (take_sub1 HX.out HSUB.out)
            go_wp2
            go_roundw
            case rel => exact ⟨k + 1, _, _, _, hlt, by go_num, HFIN.out, HP5.out⟩
            case measure => simp [intOf]; omega
      · clear hx HM4 HSUB
        go_wp2
        go_roundw
        case rel => exact HNX.out
        case measure => simp [intOf]; omega
    · have hkl : k = l.length := by omega
      subst hkl
      have hsl : p.Sublist l := by have := HSUB.out; rwa [List.take_length] at this
      have hA0 := HE0.out
      have hAp : docErr closesS me p = 0 := docErr_sub hsl hA0
      have hpall := allL_sub hsl
      have hps := Blk.allL_sz p
      have hplen := Blk.len_le p
      have RP : Rd (· < wr.heap.size) wr (blksD p) [.slice av p.length cv] := by
        unfold blksD
        refine Rd.sl_own (rows := rows) (B := w3.heap.size + 1) (e := 54) ?_ ?_ ?_ ?_
        · rw [List.length_map]; exact HM4.out.own
        · exact RdL.keep (fun b h1 h2 => ⟨by have := HM4.out.bel.size; show b < wr.heap.size; omega, HM4.out.bel.block b h1⟩) _ _ HM4.out.rd
        · exact HM4.out.l11
        · intro g hg; exact (HM4.out.own.lt g hg).2
      have BW : Below w.heap.size w wr := below_trans_size B3.out HM4.out.bel
      have CK : Hid (∀ w', (w'.cell? ⟨w3.heap.size, 0, none⟩ = some (.slice am me.length cm) ∧ w'.cell? ⟨w3.heap.size, 1, none⟩ = some (.slice av p.length cv) ∧ w'.cell? ⟨w.heap.size, 0, none⟩ = some (.slice am me.length cm) ∧ w'.cell? ⟨w.heap.size, 1, none⟩ = some (.slice ab l.length cb) ∧ Below wr.heap.size wr w') → Calls Tryz.prog 22 #[.agg #[.slice am me.length cm, .slice av p.length cv]] w' (RetB (.int .i64 0) w')) := by
        intro w' hi
        have h0 : (Value.int .i64 0) = .int .i64 ((docErr closesS me p : Nat) : Int) := by rw [hAp]; rfl
        rw [h0]
        exact tCheck_any closesS me p am av cm _ cv w' (by omega) (fun q hq => ⟨Nat.le_trans (HSA.out.mets q hq).1 (by decide), Nat.le_trans (HSA.out.mets q hq).2 (by decide)⟩) (by omega) (smallL_sub hsl HSA.out.blks) (fun _ => math_any) (HM.out.up (below_trans_size BW hi.2.2.2.2)) (RP.up hi.2.2.2.2)
      have SZ1 : Hid (∀ w', (w'.cell? ⟨w3.heap.size, 0, none⟩ = some (.slice am me.length cm) ∧ w'.cell? ⟨w3.heap.size, 1, none⟩ = some (.slice av p.length cv) ∧ w'.cell? ⟨w.heap.size, 0, none⟩ = some (.slice am me.length cm) ∧ w'.cell? ⟨w.heap.size, 1, none⟩ = some (.slice ab l.length cb) ∧ Below wr.heap.size wr w') → Calls Tryz.prog 25 #[.agg #[.slice am me.length cm, .slice av p.length cv]] w' (RetB (.int .i64 (Blk.allL p : Nat)) w')) := fun w' hi => tSize_any p am av me.length cm p.length cv w' (by omega) (RP.up hi.2.2.2.2)
      have SZ2 : Hid (∀ w', (w'.cell? ⟨w3.heap.size, 0, none⟩ = some (.slice am me.length cm) ∧ w'.cell? ⟨w3.heap.size, 1, none⟩ = some (.slice av p.length cv) ∧ w'.cell? ⟨w.heap.size, 0, none⟩ = some (.slice am me.length cm) ∧ w'.cell? ⟨w.heap.size, 1, none⟩ = some (.slice ab l.length cb) ∧ Below wr.heap.size wr w') → Calls Tryz.prog 25 #[.agg #[.slice am me.length cm, .slice ab l.length cb]] w' (RetB (.int .i64 (Blk.allL l : Nat)) w')) := fun w' hi => tSize_any l am ab me.length cm l.length cb w' (by omega) (HB.out.up (below_trans_size BW hi.2.2.2.2))
      have FN : Hid (∀ w', Below wr.heap.size wr w' → Below w.heap.size w w') := fun w' h => below_trans_size BW h
      have ST : Hid (∀ w' w2, (w'.cell? ⟨w3.heap.size, 0, none⟩ = some (.slice am me.length cm) ∧ w'.cell? ⟨w3.heap.size, 1, none⟩ = some (.slice av p.length cv) ∧ w'.cell? ⟨w.heap.size, 0, none⟩ = some (.slice am me.length cm) ∧ w'.cell? ⟨w.heap.size, 1, none⟩ = some (.slice ab l.length cb) ∧ Below wr.heap.size wr w') → Below w'.heap.size w' w2 → (w2.cell? ⟨w3.heap.size, 0, none⟩ = some (.slice am me.length cm) ∧ w2.cell? ⟨w3.heap.size, 1, none⟩ = some (.slice av p.length cv) ∧ w2.cell? ⟨w.heap.size, 0, none⟩ = some (.slice am me.length cm) ∧ w2.cell? ⟨w.heap.size, 1, none⟩ = some (.slice ab l.length cb) ∧ Below wr.heap.size wr w2)) := fun w' w2 hi hb =>
        have hb2 : Below wr.heap.size wr w2 := below_trans_size hi.2.2.2.2 hb
        have c1 : CB 25 w3.heap.size [.slice am me.length cm, .slice av p.length cv] w2 := (hb2.block _ hPl).trans HM4.out.box
        have c2 : CB 25 w.heap.size [.slice am me.length cm, .slice ab l.length cb] w2 := (hb2.block _ (Nat.lt_of_lt_of_le hS3 hwr)).trans K4.out
        ⟨c1.cell 0 _ rfl, c1.cell 1 _ rfl, c2.cell 0 _ rfl, c2.cell 1 _ rfl, hb2⟩
      have S0 := ST.out wr wr.drew ⟨y0, y1, x0, x1, Below.refl _ _⟩ ⟨rfl, rfl, rfl, Nat.le_refl _, fun _ _ => rfl⟩
      have S0H := Lib.hid S0
      have hle : Blk.allL p ≤ Blk.allL l := hpall
      generalize Blk.allL p = N1 at *
      generalize Blk.allL l = N2 at *
      have q1 : decide ((N1 : Int) ≤ (N2 : Int)) = true := by simp; omega
      have q2 : decide (N1 ≤ N2) = true := by simp; omega
      have LL := Lib.hid hll
      clear HE0 HSA hA0 hAp hpall hps hplen RP BW hsl HM4 HSUB K4 HSK B3 K3 S0 al1 mt1 hls hle hll hwr hPl hS3 hpl HM HB HSB
      go_upto_region 9 with (fail)
      clear x0 x1 y0 y1
      have S0a := S0H.out
      go_region_held3 (fun w' => w'.cell? ⟨w3.heap.size, 0, none⟩ = some (.slice am me.length cm) ∧ w'.cell? ⟨w3.heap.size, 1, none⟩ = some (.slice av p.length cv) ∧ w'.cell? ⟨w.heap.size, 0, none⟩ = some (.slice am me.length cm) ∧ w'.cell? ⟨w.heap.size, 1, none⟩ = some (.slice ab l.length cb) ∧ Below wr.heap.size wr w') (first | exact ST.out _ _ (by assumption) hbb | exact S0a)
        (first
          | (go_simp; go_at_call 22; (with_reducible refine (CK.out _ (by assumption)).mono ?_); rintro e wZ ⟨rfl, hbb⟩)
          | (go_simp; go_at_call 25; (with_reducible refine (SZ1.out _ (by assumption)).mono ?_); rintro e wZ ⟨rfl, hbb⟩)
          | (go_simp; go_at_call 25; (with_reducible refine (SZ2.out _ (by assumption)).mono ?_); rintro e wZ ⟨rfl, hbb⟩)
          | (go_simp; go_at_call 21; (refine (awake_any _).mono ?_); rintro e wZ ⟨rfl, hbb⟩))
      clear S0a S0H CK SZ1 SZ2
      have HF := Lib.hid (FN.out _ (And.right (And.right (And.right (And.right (by assumption))))))
      go_wp2
      go_ret
      exact ⟨rfl, HF.out⟩

set_option maxRecDepth 100000 in
theorem lifted (os : Os) (started : os.Started) (H : Type) (enc : TypeId × Value → H) :
    ReturnsInHanded {} Tryz.checked os 7 .any (fun w args => (Rows.treePartsSpec.pre enc Tryz.prog Tryz.f7 [] false w args ∧ laidMetH Tryz.prog laidF w) ∧ sizedMet enc Tryz.prog Tryz.f7 (OpenSpec.ofChange Rows.treePartsSpec) false w args)
      (Rows.treePartsSpec.post enc Tryz.prog Tryz.f7 false true false false) := by
  refine returnsInHanded_of_change_and (C := Tryz.checked) (X := fun w _ => laidMetH Tryz.prog laidF w) (fun _ _ _ hh h => h.of_heap hh) own started (by kernel_rfl) Tryz.func7
    (ChangeSpec.witness_shaped (enc := enc) (C := Tryz.checked) (os := os) (X := fun w _ => laidMetH Tryz.prog laidF w) false (World.laidAll Tryz.prog os laidF) #[.agg #[.slice none 0 0, .slice none 0 0], .slice none 0 0] 8 (World.laidAll_os _ _ _) (wit_shaped os) (by kernel_rfl) (by kernel_rfl) (by kernel_rfl) (wit_met os _)) ?_
  intro W base args ds gs before hval0 hW _ hwt hL _
  have hval : ∀ (j : Nat) t v, Tryz.f7.params[j]? = some t → args[j]? = some v → Value.okWide Tryz.prog W .any base t v := hval0
  have hW' := hW
  obtain ⟨p, q, hA0, hV, rfl, hfz, hnd⟩ := hW
  have hA : DataW.TrodAll enc Tryz.prog W 0 (fun _ => true) true Tryz.f7.params.toList args.toList ds p := hA0
  rw [Tryz.params7] at hA hval
  obtain ⟨v0, vs0, d0, ds0, p0, q0, hargs, rfl, rfl, h0, r0⟩ := trodAll_cons hA
  obtain ⟨v1, vs1, d1, ds1, p1, q1, rfl, rfl, rfl, h1, r1⟩ := trodAll_cons r0
  obtain ⟨rfl, rfl, rfl⟩ := trodAll_nil r1
  obtain rfl : args = #[v0, v1] := by cases args; simp_all
  obtain ⟨rfl, rfl⟩ := trodVars_none hV
  have lt0 : ∀ x ∈ p0, x.block < W.heap.size := by obtain ⟨m, hm⟩ := h0; exact DataW.trod_lt m _ _ _ hm
  have lt1 : ∀ x ∈ p1, x.block < W.heap.size := by obtain ⟨m, hm⟩ := h1; exact DataW.trod_lt m _ _ _ hm
  rw [Tryz.params7] at hwt
  obtain ⟨me0, l0, vm0, vb0, hwm0, hml0, hwl0, hll0, hcs0, hm0, hb0⟩ := rd_doc h0.choose_spec (rch_each hwt 0 25 d0 rfl rfl)
  obtain ⟨cv0, rfl, -⟩ := okWide_struct Tryz.underlying25 (hval 0 25 v0 rfl rfl)
  obtain rfl : cv0 = #[vm0, vb0] := by
    have h : cv0.toList = [vm0, vb0] := hcs0
    cases cv0; simp_all
  obtain ⟨a1, n1, cap1, rfl⟩ := okWide_slice Tryz.underlying52 (hval 1 52 v1 rfl rfl)
  obtain ⟨ks, hk0⟩ := rd_bools h1.choose_spec (rch_each hwt 1 52 d1 rfl rfl)
  clear hA0 hval0 hwt
  refine (walk me0 l0 ks vm0 vb0 _ W hm0 hb0 hk0 hwm0 hwl0).mono fun e W' ⟨he, bel⟩ => ?_
  subst he
  exact ⟨_, rfl, _, _, _, [], _, [], hW', trodAll_mk1 (shut_bool Tryz.underlying4 _), (trodAll_cons_mk (Below.trod laidOut (by kernel_rfl) (of_decide_eq_true (by kernel_rfl)) h0 bel lt0) (trodAll_cons_mk (Below.trod laidOut (by kernel_rfl) (of_decide_eq_true (by kernel_rfl)) h1 bel lt1) trodAll_mk0)), rfl, bel.frame _, fun h => by cases h⟩

theorem over : Rows.TreePartsSaid :=
  OpenClaim.holds_of_wide 7 Tryz.f7 rfl rfl rfl rfl rfl rfl rfl ⟨rfl, rfl, rfl, rfl, rfl⟩ rfl rfl rfl rfl rfl (by kernel_rfl) Tryz.func7 (by kernel_rfl)
    (of_decide_eq_true (by kernel_rfl)) (by unfold Func.isWrapper; first | (rw [if_pos (by decide +kernel)]; kernel_rfl) | (rw [if_neg (by decide +kernel)]; exact ⟨rfl, rfl⟩))
    (fun os started H enc _ => lifted os started H enc)

theorem card_holds : Rows.TreePartsCardSaid :=
  Claim7.holds_tied_plain_at .later [] [.data, .pinned] true Rows.treePartsCard.stood.harness false
    over (fun _ h => by cases h) (by kernel_rfl) (fun _ h => by cases h) treeParts_row_tie rfl ⟨rfl, rfl⟩ (by kernel_rfl) rfl
    (fun f fn hf hfn => by
      obtain rfl : f = 7 := Option.some.inj ((show Tryz.prog.funcNamed "publisher/publisherlaw04.TreeParts" = some 7 by kernel_rfl).symm.trans hf) |>.symm
      obtain rfl : fn = Tryz.f7 := (Option.some.inj (Tryz.func7.symm.trans hfn)).symm
      exact ⟨by kernel_rfl, fun j t ht => by
        rw [Tryz.params7] at ht
        have hm : t ∈ [25, 52] := by simpa using Array.mem_of_getElem? ht
        have hall : ([25, 52].all fun u => !Tryz.prog.wantsStandIn u) = true := by kernel_rfl
        exact (show Tryz.prog.wantsStandIn t = false by simpa using List.all_eq_true.1 hall t hm)⟩)
    (by kernel_rfl)
end Go.Proofs.YtjobjicdfoklpaaGreatDoor.LawTreeParts

namespace Go.Proofs.YtjobjicdfoklpaaGreatDoor
theorem treeParts_proved : Rows.TreePartsCardSaid := LawTreeParts.card_holds
#print axioms treeParts_proved
end Go.Proofs.YtjobjicdfoklpaaGreatDoor
