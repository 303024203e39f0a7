/- Proved: the tied card of publisherlaw04.TreeJoins: it returns true at every two documents, and the arguments read as before; the tables of the library are what the program's text lays. No other condition. -/
import Derived.Test.YtcfplilbhkaihaaGreatDoorPaJ
import Derived.Test.YtcfplilbhkaihaaGreatDoorChW
import Derived.Test.YtcfplilbhkaihaaGreatDoorAwk
import Derived.Test.YtcfplilbhkaihaaGreatDoorSmLine
import Derived.Test.YtcfplilbhkaihaaGreatDoorLaid4
import Derived.Test.YtcfplilbhkaihaaGreatDoorCards
import Derived.Test.YtcfplilbhkaihaaGreatDoorTie
import Derived.ShutString
import Derived.SevenTiedAt
import Derived.ChangeOld
import Derived.Deep.RegionHeld3
namespace Go.Proofs.YtcfplilbhkaihaaGreatDoor.LawTreeJoins
open Go.ChangeShapes Go.WideShapes Go.ChangeAt Go.RowKit
set_option linter.unusedVariables false
set_option linter.unusedSimpArgs false

/-- What stands in every world of the walk: both documents, in their boxes, and what they lead to. -/
structure Ts (p1 p2 : Nat) (me me' : List Pr) (l l' : List Blk) (vm vb um ub : Value) (w0 w : World) : Prop where
  k1 : CB 25 p1 [vm, vb] w
  k2 : CB 25 p2 [um, ub] w
  m1 : Rd (· < w.heap.size) w (prsD me) [vm]
  b1 : Rd (· < w.heap.size) w (blksD l) [vb]
  m2 : Rd (· < w.heap.size) w (prsD me') [um]
  b2 : Rd (· < w.heap.size) w (blksD l') [ub]
  bel : Below w0.heap.size w0 w
variable {p1 p2 : Nat} {me me' : List Pr} {l l' : List Blk} {vm vb um ub : Value} {w0 w w2 : World}
theorem Ts.next (h : Ts p1 p2 me me' l l' vm vb um ub w0 w) (hb : Below w.heap.size w w2) : Ts p1 p2 me me' l l' vm vb um ub w0 w2 :=
  ⟨h.k1.below hb, h.k2.below hb, h.m1.up hb, h.b1.up hb, h.m2.up hb, h.b2.up hb, below_trans_size h.bel hb⟩
theorem Ts.all (h : Ts p1 p2 me me' l l' vm vb um ub w0 w) : w.cell? ⟨p1, 0, none⟩ = some vm ∧ w.cell? ⟨p1, 1, none⟩ = some vb ∧ w.cell? ⟨p2, 0, none⟩ = some um ∧ w.cell? ⟨p2, 1, none⟩ = some ub ∧ Ts p1 p2 me me' l l' vm vb um ub w0 w :=
  ⟨h.k1.cell 0 _ rfl, h.k1.cell 1 _ rfl, h.k2.cell 0 _ rfl, h.k2.cell 1 _ rfl, h⟩
theorem Ts.drew (h : Ts p1 p2 me me' l l' vm vb um ub w0 w) : Ts p1 p2 me me' l l' vm vb um ub w0 w.drew := h.next ⟨rfl, rfl, rfl, Nat.le_refl _, fun _ _ => rfl⟩
theorem Ts.step (h : w.cell? ⟨p1, 0, none⟩ = some vm ∧ w.cell? ⟨p1, 1, none⟩ = some vb ∧ w.cell? ⟨p2, 0, none⟩ = some um ∧ w.cell? ⟨p2, 1, none⟩ = some ub ∧ Ts p1 p2 me me' l l' vm vb um ub w0 w) (hb : Below w.heap.size w w2) : w2.cell? ⟨p1, 0, none⟩ = some vm ∧ w2.cell? ⟨p1, 1, none⟩ = some vb ∧ w2.cell? ⟨p2, 0, none⟩ = some um ∧ w2.cell? ⟨p2, 1, none⟩ = some ub ∧ Ts p1 p2 me me' l l' vm vb um ub w0 w2 := (h.2.2.2.2.next hb).all
theorem blks_one {ok : Nat → Prop} {w : World} {l : List Blk} {rows : List (List Value)} (h : RdL ok w (l.map Blk.d) rows) : ∀ u ∈ rows.flatten, u.oneCell' = true :=
  rows_one h fun d hd r hr u hu => by
    obtain ⟨x, _, rfl⟩ := List.mem_map.1 hd
    obtain ⟨kd, lv, i, t, d, ti, at_, li, ks⟩ := x
    obtain ⟨vc, vp, vl, vk, rfl, hR⟩ := Blk.open_ hr
    obtain ⟨ac, nc, cc, rfl⟩ := Rd.sl_form hR.at_.cls
    obtain ⟨ap, np, cp, rfl⟩ := Rd.sl_form hR.at_.prs
    obtain ⟨al, nl, cl, rfl⟩ := Rd.sl_form hR.line
    obtain ⟨ak, nk, ck, rfl⟩ := Rd.sl_form hR.kids
    simp only [List.mem_cons, List.not_mem_nil, or_false] at hu
    rcases hu with rfl | rfl | rfl | rfl | rfl | rfl | rfl | rfl | rfl | rfl | rfl <;> rfl
theorem errL_app (cl : ByteArray → Bool) : ∀ (l m : List Blk), Blk.errL cl 0 0 (l ++ m) = if Blk.errL cl 0 0 l ≠ 0 then Blk.errL cl 0 0 l else Blk.errL cl 0 0 m
  | [], m => by rw [List.nil_append, Blk.errL, if_neg (by simp)]
  | x :: l, m => by
    rw [List.cons_append, Blk.errL, Blk.errL, errL_app cl l m]
    by_cases h : x.err cl 0 0 ≠ 0
    · rw [if_pos h, if_pos h, if_pos h]
    · rw [if_neg h, if_neg h]
theorem Ts.stepB {xs : List Blk} {v : Value} (h : w.cell? ⟨p1, 0, none⟩ = some vm ∧ w.cell? ⟨p1, 1, none⟩ = some vb ∧ w.cell? ⟨p2, 0, none⟩ = some um ∧ w.cell? ⟨p2, 1, none⟩ = some ub ∧ Ts p1 p2 me me' l l' vm vb um ub w0 w ∧ Rd (· < w.heap.size) w (blksD xs) [v]) (hb : Below w.heap.size w w2) : w2.cell? ⟨p1, 0, none⟩ = some vm ∧ w2.cell? ⟨p1, 1, none⟩ = some vb ∧ w2.cell? ⟨p2, 0, none⟩ = some um ∧ w2.cell? ⟨p2, 1, none⟩ = some ub ∧ Ts p1 p2 me me' l l' vm vb um ub w0 w2 ∧ Rd (· < w2.heap.size) w2 (blksD xs) [v] :=
  have h1 := (h.2.2.2.2.1.next hb).all
  ⟨h1.1, h1.2.1, h1.2.2.1, h1.2.2.2.1, h1.2.2.2.2, h.2.2.2.2.2.up hb⟩
theorem Ts.startB {xs : List Blk} {v : Value} (h : Ts p1 p2 me me' l l' vm vb um ub w0 w) (hx : Rd (· < w.heap.size) w (blksD xs) [v]) : w.drew.cell? ⟨p1, 0, none⟩ = some vm ∧ w.drew.cell? ⟨p1, 1, none⟩ = some vb ∧ w.drew.cell? ⟨p2, 0, none⟩ = some um ∧ w.drew.cell? ⟨p2, 1, none⟩ = some ub ∧ Ts p1 p2 me me' l l' vm vb um ub w0 w.drew ∧ Rd (· < w.drew.heap.size) w.drew (blksD xs) [v] :=
  have b : Below w.heap.size w w.drew := ⟨rfl, rfl, rfl, Nat.le_refl _, fun _ _ => rfl⟩
  ⟨h.drew.all.1, h.drew.all.2.1, h.drew.all.2.2.1, h.drew.all.2.2.2.1, h.drew, hx.up b⟩
theorem Ts.finB {xs : List Blk} {v : Value} (h : w.cell? ⟨p1, 0, none⟩ = some vm ∧ w.cell? ⟨p1, 1, none⟩ = some vb ∧ w.cell? ⟨p2, 0, none⟩ = some um ∧ w.cell? ⟨p2, 1, none⟩ = some ub ∧ Ts p1 p2 me me' l l' vm vb um ub w0 w ∧ Rd (· < w.heap.size) w (blksD xs) [v]) : Below w0.heap.size w0 w := h.2.2.2.2.1.bel

set_option maxRecDepth 100000 in
set_option maxHeartbeats 4000000 in
theorem walk (me me' : List Pr) (l l' : List Blk) (vm vb um ub : Value) (w : World) (hm : Rd (· < w.heap.size) w (prsD me) [vm]) (hb : Rd (· < w.heap.size) w (blksD l) [vb]) (gm : Rd (· < w.heap.size) w (prsD me') [um]) (gb : Rd (· < w.heap.size) w (blksD l') [ub])
    (hwm : ∀ p ∈ me, p.wf) (hwl : Blk.wfL l) (gwm : ∀ p ∈ me', p.wf) (gwl : Blk.wfL l') :
    Calls Tryz.prog 8 #[.agg #[vm, vb], .agg #[um, ub]] w fun e w' => e = .returned (.bool true) ∧ Below w.heap.size w w' := by
  obtain ⟨am, nm, cm, rfl⟩ := Rd.slf hm
  obtain ⟨ab, nb, cb, rfl⟩ := Rd.slf hb
  obtain ⟨bm, mm, dm, rfl⟩ := Rd.slf gm
  obtain ⟨bb, mb, db, rfl⟩ := Rd.slf gb
  obtain ⟨w1, hw1⟩ : ∃ w1, w1 = (w.alloc (.cells #[.slice am nm cm, .slice ab nb cb] 25)).alloc (.cells #[.slice bm mm dm, .slice bb mb db] 25) := ⟨_, rfl⟩
  have T1 : Hid (Ts w.heap.size (w.heap.size + 1) me me' l l' (.slice am nm cm) (.slice ab nb cb) (.slice bm mm dm) (.slice bb mb db) w w1) := by
    have b0 : Below w.heap.size w (w.alloc (.cells #[.slice am nm cm, .slice ab nb cb] 25)) := (Below.refl _ _).alloc (Nat.le_refl _) _
    have b1 : Below (w.alloc (.cells #[.slice am nm cm, .slice ab nb cb] 25)).heap.size (w.alloc (.cells #[.slice am nm cm, .slice ab nb cb] 25)) w1 := by rw [hw1]; exact (Below.refl _ _).alloc (Nat.le_refl _) _
    have b2 := below_trans_size b0 b1
    refine ⟨?_, ?_, hm.up b2, hb.up b2, gm.up b2, gb.up b2, b2⟩
    · exact (CB.new _ _ _).below b1
    · rw [hw1]
      have := CB.new 25 [.slice bm mm dm, .slice bb mb db] (w.alloc (.cells #[.slice am nm cm, .slice ab nb cb] 25))
      rwa [World.size_alloc] at this
  have SA := Lib.hid (fun w' (h : Ts w.heap.size (w.heap.size + 1) me me' l l' (.slice am nm cm) (.slice ab nb cb) (.slice bm mm dm) (.slice bb mb db) w w') => small_any me l _ _ w' h.m1 h.b1 hwm hwl)
  have SB := Lib.hid (fun w' (h : Ts w.heap.size (w.heap.size + 1) me me' l l' (.slice am nm cm) (.slice ab nb cb) (.slice bm mm dm) (.slice bb mb db) w w') => small_any me' l' _ _ w' h.m2 h.b2 gwm gwl)
  clear hm hb gm gb hwm hwl gwm gwl
  go_enter Tryz.func8, Tryz.ntmps8
  (try simp only [List.append_eq, List.cons_append, List.nil_append])
  go_upto_region 1 with (fail)
  rw [← hw1]
  clear hw1
  obtain ⟨x0, x1, x2, x3, -⟩ := T1.out.all
  go_wp2_with fail
  refine (SA.out _ T1.out).mono ?_
  rintro e w2 ⟨b, rfl, hsa, b2⟩
  have T2 := Lib.hid (T1.out.next b2)
  clear x0 x1 x2 x3 b2
  obtain ⟨x0, x1, x2, x3, -⟩ := T2.out.all
  cases b with
  | false =>
    clear hsa
    go_wp2_with fail
    refine (awake_any _).mono ?_
    rintro e w3 ⟨rfl, b3⟩
    have HB := Lib.hid (below_trans_size T2.out.bel b3)
    clear b3
    go_wp2
    go_ret
    exact ⟨rfl, HB.out⟩
  | true =>
  have HSA := Lib.hid (hsa rfl)
  clear hsa
  go_wp2_with fail
  refine (SB.out _ T2.out).mono ?_
  rintro e w3 ⟨b, rfl, hsb, b3⟩
  have T3 := Lib.hid (T2.out.next b3)
  clear x0 x1 x2 x3 b3
  obtain ⟨x0, x1, x2, x3, -⟩ := T3.out.all
  cases b with
  | false =>
    clear hsb
    go_wp2_with fail
    refine (awake_any _).mono ?_
    rintro e w4 ⟨rfl, b4⟩
    have HB := Lib.hid (below_trans_size T3.out.bel b4)
    clear b4
    go_wp2
    go_ret
    exact ⟨rfl, HB.out⟩
  | true =>
  have HSB := Lib.hid (hsb rfl)
  clear hsb
  have sz1 := Blk.allL_sz l
  have sz2 := Blk.allL_sz l'
  have al1 := HSA.out.all
  have al2 := HSB.out.all
  have sml := HSA.out.blks
  have smr := HSB.out.blks
  have al1 := HSA.out.all
  have al2 := HSB.out.all
  have hlen1 := Blk.len_le l
  have hlen2 := Blk.len_le l'
  obtain ⟨i0, hi0, hz0, hz1, hz2⟩ := info_parts infoBl
  obtain ⟨A1, c1, rows1, hv1, g1, g2, g3, g4, g5⟩ := Rd.reads T3.out.b1
  rw [List.length_map] at hv1 g1 g5
  obtain ⟨rfl, rfl, rfl⟩ : ab = A1 ∧ nb = l.length ∧ cb = c1 := by simpa using hv1
  obtain ⟨A2, c2, rows2, hv2, k1, k2, k3, k4, k5⟩ := Rd.reads T3.out.b2
  rw [List.length_map] at hv2 k1 k5
  obtain ⟨rfl, rfl, rfl⟩ : bb = A2 ∧ mb = l'.length ∧ db = c2 := by simpa using hv2
  unfold maxLen at g2 k2
  have H3 := Lib.hid g3
  have H4 := Lib.hid g4
  have H5 := Lib.hid g5
  have O1 := Lib.hid (blks_one g3)
  have K3 := Lib.hid k3
  have K4 := Lib.hid k4
  have K5 := Lib.hid k5
  have O2 := Lib.hid (blks_one k3)
  have SML := Lib.hid sml
  have SMR := Lib.hid smr
  have SMA := Lib.hid (Blk.smallL_app l l' sml smr)
  have EAP := Lib.hid (errL_app closesS l l')
  have AAP := Lib.hid (Blk.allL_app l l')
  clear SA SB HSA HSB T1 T2 g3 g4 g5 k3 k4 k5 hv1 hv2 sml smr
  have hnn : ∀ (w : World), w.ownsRow w3.heap.size 36 11 (.slice none 0 0) 0 [] := fun w => nil_owns _ _ _ _
  go_wp2_with (at_builtin; refine wpList_append_any _ rfl (.tmp 16) (.tmp 18) 23 rfl w3.heap.size 36 i0 _ 11 192 Tryz.underlying23 hi0 hz0 hz1 hz2 rfl (by decide) (.slice none 0 0) 0 [] rfl (hnn _) w3.heap.size ab l.length cb rows1.flatten rfl H5.out O1.out ?a1 ?a2 ?a3 ?_)
  case a1 => unfold maxLen; omega
  case a2 => omega
  case a3 => exact Nat.le_refl _
  intro v4 w4 hown4 hg4 _
  (try simp only [Nat.zero_add, List.nil_append] at hown4)
  have b4 : Below w3.heap.size w3 w4 := ⟨hg4.os, hg4.tape, hg4.output, hg4.size, fun k hk => hg4.block k hk (by simp [Value.ownBlock])⟩
  have T4 := Lib.hid (T3.out.next b4)
  obtain ⟨a4, c4, rfl⟩ := own_slice hown4
  have O4 := Lib.hid hown4
  have R4 := Lib.hid (K5.out.below b4)
  have B4 := Lib.hid b4
  clear hown4 hg4 b4 x0 x1 x2 x3 hnn
  obtain ⟨x0, x1, x2, x3, -⟩ := T4.out.all
  have hz4 := B4.out.size
  go_wp2_with (at_builtin; refine wpList_append_any _ rfl (.tmp 20) (.tmp 22) 23 rfl w3.heap.size 36 i0 _ 11 192 Tryz.underlying23 hi0 hz0 hz1 hz2 rfl (by decide) (.slice a4 l.length c4) l.length rows1.flatten rfl O4.out w3.heap.size bb l'.length db rows2.flatten rfl R4.out O2.out ?b1 ?b2 ?b3 ?_)
  case b1 => unfold maxLen; omega
  case b2 => omega
  case b3 => exact hz4
  intro v5 w5 hown5 hg5 _
  have b5 : Below w3.heap.size w3 w5 := by
    have hlt := O4.out.lt
    exact ⟨hg5.os.trans B4.out.os, hg5.tape.trans B4.out.tape, hg5.output.trans B4.out.output, Nat.le_trans hz4 hg5.size, fun k hk => (hg5.block k (by omega) (fun e => by have := (hlt k e.symm).1; omega)).trans (B4.out.block k hk)⟩
  have T5 := Lib.hid (T3.out.next b5)
  obtain ⟨av, cv, rfl⟩ := own_slice hown5
  have hll : l.length + l'.length = (l ++ l').length := by rw [List.length_append]
  have hR5 : Rd (· < w5.heap.size) w5 (blksD (l ++ l')) [.slice av (l ++ l').length cv] := by
    have hst : ∀ b, b < w3.heap.size → b < w3.heap.size → b < w5.heap.size ∧ w5.heap[b]? = w3.heap[b]? := fun b h _ => ⟨by have := b5.size; omega, b5.block b h⟩
    unfold blksD
    refine Rd.sl_own (rows := rows1 ++ rows2) (B := w3.heap.size) (e := 36) ?_ ?_ ?_ ?_
    · rw [List.length_map, List.flatten_append, ← hll]; exact hown5
    · rw [List.map_append]
      exact RdL.app (RdL.keep (fun b h1 h2 => hst b h1 h1) _ _ H3.out) (RdL.keep (fun b h1 h2 => hst b h1 h1) _ _ K3.out)
    · intro r hr
      rcases List.mem_append.1 hr with hr | hr
      · exact H4.out r hr
      · exact K4.out r hr
    · intro g hg; rw [← hll] at hg; exact (hown5.lt g hg).2
  obtain ⟨nn, hn⟩ : ∃ nn, nn = (l ++ l').length := ⟨_, rfl⟩
  rw [← hn] at hR5
  rw [hll, ← hn]
  have R5 := Lib.hid hR5
  have TB1 := Lib.hid (fun w' (h : Ts w.heap.size (w.heap.size + 1) me me' l l' (.slice am nm cm) (.slice ab l.length cb) (.slice bm mm dm) (.slice bb l'.length db) w w') => tBlocks_any closesS l ab cb w' SML.out (fun _ => math_any) h.b1)
  have TB2 := Lib.hid (fun w' (h : Ts w.heap.size (w.heap.size + 1) me me' l l' (.slice am nm cm) (.slice ab l.length cb) (.slice bm mm dm) (.slice bb l'.length db) w w') => tBlocks_any closesS l' bb db w' SMR.out (fun _ => math_any) h.b2)
  have TBA := Lib.hid (fun w' (h : (w'.cell? ⟨w.heap.size, 0, none⟩ = some (.slice am nm cm) ∧ w'.cell? ⟨w.heap.size, 1, none⟩ = some (.slice ab l.length cb) ∧ w'.cell? ⟨w.heap.size + 1, 0, none⟩ = some (.slice bm mm dm) ∧ w'.cell? ⟨w.heap.size + 1, 1, none⟩ = some (.slice bb l'.length db) ∧ Ts w.heap.size (w.heap.size + 1) me me' l l' (.slice am nm cm) (.slice ab l.length cb) (.slice bm mm dm) (.slice bb l'.length db) w w' ∧ Rd (· < w'.heap.size) w' (blksD (l ++ l')) [.slice av nn cv])) => (show Calls Tryz.prog 14 #[.slice av nn cv] w' (RetB (.int .i64 (Blk.errL closesS 0 0 (l ++ l') : Nat)) w') by have h2 := h.2.2.2.2.2; rw [hn] at h2 ⊢; exact tBlocks_any closesS (l ++ l') av cv w' SMA.out (fun _ => math_any) h2))
  have SZ0 : Hid (∀ w', (w'.cell? ⟨w.heap.size, 0, none⟩ = some (.slice am nm cm) ∧ w'.cell? ⟨w.heap.size, 1, none⟩ = some (.slice ab l.length cb) ∧ w'.cell? ⟨w.heap.size + 1, 0, none⟩ = some (.slice bm mm dm) ∧ w'.cell? ⟨w.heap.size + 1, 1, none⟩ = some (.slice bb l'.length db) ∧ Ts w.heap.size (w.heap.size + 1) me me' l l' (.slice am nm cm) (.slice ab l.length cb) (.slice bm mm dm) (.slice bb l'.length db) w w' ∧ Rd (· < w'.heap.size) w' (blksD (l ++ l')) [.slice av nn cv]) → Calls Tryz.prog 28 #[.agg #[.slice none 0 0, .slice av nn cv]] w' (RetB (.int .i64 (Blk.allL (l ++ l') : Nat)) w')) := fun w' h => tSize_any (l ++ l') none av 0 0 nn cv w' (by have := AAP.out; omega) h.2.2.2.2.2
  have SZ1 : Hid (∀ w', (w'.cell? ⟨w.heap.size, 0, none⟩ = some (.slice am nm cm) ∧ w'.cell? ⟨w.heap.size, 1, none⟩ = some (.slice ab l.length cb) ∧ w'.cell? ⟨w.heap.size + 1, 0, none⟩ = some (.slice bm mm dm) ∧ w'.cell? ⟨w.heap.size + 1, 1, none⟩ = some (.slice bb l'.length db) ∧ Ts w.heap.size (w.heap.size + 1) me me' l l' (.slice am nm cm) (.slice ab l.length cb) (.slice bm mm dm) (.slice bb l'.length db) w w' ∧ Rd (· < w'.heap.size) w' (blksD (l ++ l')) [.slice av nn cv]) → Calls Tryz.prog 28 #[.agg #[.slice am nm cm, .slice ab l.length cb]] w' (RetB (.int .i64 (Blk.allL l : Nat)) w')) := fun w' h => tSize_any l am ab nm cm _ cb w' (by omega) h.2.2.2.2.1.b1
  have SZ2 : Hid (∀ w', (w'.cell? ⟨w.heap.size, 0, none⟩ = some (.slice am nm cm) ∧ w'.cell? ⟨w.heap.size, 1, none⟩ = some (.slice ab l.length cb) ∧ w'.cell? ⟨w.heap.size + 1, 0, none⟩ = some (.slice bm mm dm) ∧ w'.cell? ⟨w.heap.size + 1, 1, none⟩ = some (.slice bb l'.length db) ∧ Ts w.heap.size (w.heap.size + 1) me me' l l' (.slice am nm cm) (.slice ab l.length cb) (.slice bm mm dm) (.slice bb l'.length db) w w' ∧ Rd (· < w'.heap.size) w' (blksD (l ++ l')) [.slice av nn cv]) → Calls Tryz.prog 28 #[.agg #[.slice bm mm dm, .slice bb l'.length db]] w' (RetB (.int .i64 (Blk.allL l' : Nat)) w')) := fun w' h => tSize_any l' bm bb mm dm _ db w' (by omega) h.2.2.2.2.1.b2
  generalize Blk.errL closesS 0 0 (l ++ l') = E at *
  generalize Blk.errL closesS 0 0 l = E1 at *
  generalize Blk.errL closesS 0 0 l' = E2 at *
  generalize Blk.allL (l ++ l') = N at *
  generalize Blk.allL l = N1 at *
  generalize Blk.allL l' = N2 at *
  have hNN : N = N1 + N2 := AAP.out
  have hwp : IntKind.i64.wrap ((N1 : Int) + (N2 : Int)) = ((N1 : Int) + (N2 : Int)) := IntWalk.i64_in _ ⟨by omega, by omega⟩
  have hq : ((N : Int) == IntKind.i64.wrap ((N1 : Int) + (N2 : Int))) = true := by rw [hwp, beq_iff_eq]; omega
  have hq2 : ((N : Int) == ((N1 : Int) + (N2 : Int))) = true := by rw [beq_iff_eq]; omega
  clear hown5 hg5 b5 x0 x1 x2 x3 hR5 O4 R4 B4 T4 H3 H4 H5 O1 K3 K4 K5 O2 hwp hNN hll hn hz4 hlen1 hlen2 g1 g2 k1 k2 al1 al2
  obtain ⟨x0, x1, x2, x3, -⟩ := T5.out.all
  go_wp2_with fail
  refine (TB1.out _ T5.out).mono ?_
  rintro e w6 ⟨rfl, b6⟩
  have T6 := Lib.hid (T5.out.next b6)
  have R6 := Lib.hid (R5.out.up b6)
  clear x0 x1 x2 x3 b6 T5 R5
  obtain ⟨x0, x1, x2, x3, -⟩ := T6.out.all
  by_cases h1 : E1 = 0
  · have e0 : ((E1 : Int) == 0) = true := by rw [beq_iff_eq]; omega
    have hE : E = E2 := by have := EAP.out; rw [if_neg (by omega)] at this; exact this
    subst hE
    have ee : ((E : Int) == (E : Int)) = true := beq_self_eq_true _
    have TBL := TBA
    clear h1 EAP TBA
    go_wp2_with fail
    refine (TB2.out _ T6.out).mono ?_
    rintro e w7 ⟨rfl, b7⟩
    have T7 := Lib.hid (T6.out.next b7)
    have R7 := Lib.hid (R6.out.up b7)
    have S6 := Lib.hid (T7.out.startB R7.out)
    clear x0 x1 x2 x3 b7 T6 R6 e0 TB1 TB2 T7 R7
    go_upto_region 9 with (fail)
    have S6a := S6.out
    go_region_held3 (fun w' => w'.cell? ⟨w.heap.size, 0, none⟩ = some (.slice am nm cm) ∧ w'.cell? ⟨w.heap.size, 1, none⟩ = some (.slice ab l.length cb) ∧ w'.cell? ⟨w.heap.size + 1, 0, none⟩ = some (.slice bm mm dm) ∧ w'.cell? ⟨w.heap.size + 1, 1, none⟩ = some (.slice bb l'.length db) ∧ Ts w.heap.size (w.heap.size + 1) me me' l l' (.slice am nm cm) (.slice ab l.length cb) (.slice bm mm dm) (.slice bb l'.length db) w w' ∧ Rd (· < w'.heap.size) w' (blksD (l ++ l')) [.slice av nn cv]) (first | exact Ts.stepB (by assumption) hbb | exact S6a)
      (first
        | (go_simp; go_at_call 14; (with_reducible refine (TBL.out _ (by assumption)).mono ?_); rintro e wZ ⟨rfl, hbb⟩)
        | (go_simp; go_at_call 28; (with_reducible refine (SZ0.out _ (by assumption)).mono ?_); rintro e wZ ⟨rfl, hbb⟩)
        | (go_simp; go_at_call 28; (with_reducible refine (SZ1.out _ (by assumption)).mono ?_); rintro e wZ ⟨rfl, hbb⟩)
        | (go_simp; go_at_call 28; (with_reducible refine (SZ2.out _ (by assumption)).mono ?_); rintro e wZ ⟨rfl, hbb⟩)
        | (go_simp; go_at_call 11; (refine (awake_any _).mono ?_); rintro e wZ ⟨rfl, hbb⟩))
    clear S6a S6 TBL SZ0 SZ1 SZ2
    have HF := Lib.hid (Ts.finB (by assumption))
    go_wp2
    go_ret
    exact ⟨rfl, HF.out⟩

  · have e0 : ((E1 : Int) == 0) = false := by rw [beq_eq_false_iff_ne]; omega
    have hE : E = E1 := by have := EAP.out; rw [if_pos h1] at this; exact this
    subst hE
    have ee : ((E : Int) == (E : Int)) = true := beq_self_eq_true _
    have TBL := TBA
    have S6 := Lib.hid (T6.out.startB R6.out)
    clear h1 EAP TBA x0 x1 x2 x3 TB1 TB2 T6 R6
    go_upto_region 9 with (fail)
    have S6a := S6.out
    go_region_held3 (fun w' => w'.cell? ⟨w.heap.size, 0, none⟩ = some (.slice am nm cm) ∧ w'.cell? ⟨w.heap.size, 1, none⟩ = some (.slice ab l.length cb) ∧ w'.cell? ⟨w.heap.size + 1, 0, none⟩ = some (.slice bm mm dm) ∧ w'.cell? ⟨w.heap.size + 1, 1, none⟩ = some (.slice bb l'.length db) ∧ Ts w.heap.size (w.heap.size + 1) me me' l l' (.slice am nm cm) (.slice ab l.length cb) (.slice bm mm dm) (.slice bb l'.length db) w w' ∧ Rd (· < w'.heap.size) w' (blksD (l ++ l')) [.slice av nn cv]) (first | exact Ts.stepB (by assumption) hbb | exact S6a)
      (first
        | (go_simp; go_at_call 14; (with_reducible refine (TBL.out _ (by assumption)).mono ?_); rintro e wZ ⟨rfl, hbb⟩)
        | (go_simp; go_at_call 28; (with_reducible refine (SZ0.out _ (by assumption)).mono ?_); rintro e wZ ⟨rfl, hbb⟩)
        | (go_simp; go_at_call 28; (with_reducible refine (SZ1.out _ (by assumption)).mono ?_); rintro e wZ ⟨rfl, hbb⟩)
        | (go_simp; go_at_call 28; (with_reducible refine (SZ2.out _ (by assumption)).mono ?_); rintro e wZ ⟨rfl, hbb⟩)
        | (go_simp; go_at_call 11; (refine (awake_any _).mono ?_); rintro e wZ ⟨rfl, hbb⟩))
    clear S6a S6 TBL SZ0 SZ1 SZ2
    have HF := Lib.hid (Ts.finB (by assumption))
    go_wp2
    go_ret
    exact ⟨rfl, HF.out⟩


set_option maxRecDepth 100000 in
theorem lifted (os : Os) (started : os.Started) (H : Type) (enc : TypeId × Value → H) :
    ReturnsInHanded {} Tryz.checked os 8 .any (fun w args => (Rows.treeJoinsSpec.pre enc Tryz.prog Tryz.f8 [] false w args ∧ laidMetH Tryz.prog laidF w) ∧ sizedMet enc Tryz.prog Tryz.f8 (OpenSpec.ofChange Rows.treeJoinsSpec) false w args)
      (Rows.treeJoinsSpec.post enc Tryz.prog Tryz.f8 false true false false) := by
  refine returnsInHanded_of_change_and (C := Tryz.checked) (X := fun w _ => laidMetH Tryz.prog laidF w) (fun _ _ _ hh h => h.of_heap hh) own started (by kernel_rfl) Tryz.func8
    (ChangeSpec.witness_shaped (enc := enc) (C := Tryz.checked) (os := os) (X := fun w _ => laidMetH Tryz.prog laidF w) false (World.laidAll Tryz.prog os laidF) #[.agg #[.slice none 0 0, .slice none 0 0], .agg #[.slice none 0 0, .slice none 0 0]] 8 (World.laidAll_os _ _ _) (wit_shaped os) (by kernel_rfl) (by kernel_rfl) (by kernel_rfl) (wit_met os _)) ?_
  intro W base args ds gs before hval0 hW _ hwt hL _
  have hval : ∀ (j : Nat) t v, Tryz.f8.params[j]? = some t → args[j]? = some v → Value.okWide Tryz.prog W .any base t v := hval0
  have hW' := hW
  obtain ⟨p, q, hA0, hV, rfl, hfz, hnd⟩ := hW
  have hA : DataW.TrodAll enc Tryz.prog W 0 (fun _ => true) true Tryz.f8.params.toList args.toList ds p := hA0
  rw [Tryz.params8] at hA hval
  obtain ⟨v0, vs0, d0, ds0, p0, q0, hargs, rfl, rfl, h0, r0⟩ := trodAll_cons hA
  obtain ⟨v1, vs1, d1, ds1, p1, q1, rfl, rfl, rfl, h1, r1⟩ := trodAll_cons r0
  obtain ⟨rfl, rfl, rfl⟩ := trodAll_nil r1
  obtain rfl : args = #[v0, v1] := by cases args; simp_all
  obtain ⟨rfl, rfl⟩ := trodVars_none hV
  have lt0 : ∀ x ∈ p0, x.block < W.heap.size := by obtain ⟨m, hm⟩ := h0; exact DataW.trod_lt m _ _ _ hm
  have lt1 : ∀ x ∈ p1, x.block < W.heap.size := by obtain ⟨m, hm⟩ := h1; exact DataW.trod_lt m _ _ _ hm
  rw [Tryz.params8] at hwt
  obtain ⟨me0, l0, vm0, vb0, hwm0, hml0, hwl0, hll0, hcs0, hm0, hb0⟩ := rd_doc h0.choose_spec (rch_each hwt 0 25 d0 rfl rfl)
  obtain ⟨cv0, rfl, -⟩ := okWide_struct Tryz.underlying25 (hval 0 25 v0 rfl rfl)
  obtain rfl : cv0 = #[vm0, vb0] := by
    have h : cv0.toList = [vm0, vb0] := hcs0
    cases cv0; simp_all
  obtain ⟨me1, l1, vm1, vb1, hwm1, hml1, hwl1, hll1, hcs1, hm1, hb1⟩ := rd_doc h1.choose_spec (rch_each hwt 1 25 d1 rfl rfl)
  obtain ⟨cv1, rfl, -⟩ := okWide_struct Tryz.underlying25 (hval 1 25 v1 rfl rfl)
  obtain rfl : cv1 = #[vm1, vb1] := by
    have h : cv1.toList = [vm1, vb1] := hcs1
    cases cv1; simp_all
  clear hA0 hval0 hwt
  refine (walk me0 me1 l0 l1 vm0 vb0 vm1 vb1 W hm0 hb0 hm1 hb1 hwm0 hwl0 hwm1 hwl1).mono fun e W' ⟨he, bel⟩ => ?_
  subst he
  exact ⟨_, rfl, _, _, _, [], _, [], hW', trodAll_mk1 (shut_bool Tryz.underlying4 _), (trodAll_cons_mk (Below.trod laidOut (by kernel_rfl) (of_decide_eq_true (by kernel_rfl)) h0 bel lt0) (trodAll_cons_mk (Below.trod laidOut (by kernel_rfl) (of_decide_eq_true (by kernel_rfl)) h1 bel lt1) trodAll_mk0)), rfl, bel.frame _, fun h => by cases h⟩

theorem over : Rows.TreeJoinsSaid :=
  OpenClaim.holds_of_wide 8 Tryz.f8 rfl rfl rfl rfl rfl rfl rfl ⟨rfl, rfl, rfl, rfl, rfl⟩ rfl rfl rfl rfl rfl (by kernel_rfl) Tryz.func8 (by kernel_rfl)
    (of_decide_eq_true (by kernel_rfl)) (by unfold Func.isWrapper; first | (rw [if_pos (by decide +kernel)]; kernel_rfl) | (rw [if_neg (by decide +kernel)]; exact ⟨rfl, rfl⟩))
    (fun os started H enc _ => lifted os started H enc)

theorem card_holds : Rows.TreeJoinsCardSaid :=
  Claim7.holds_tied_plain_at .later [] [.data, .pinned] true Rows.treeJoinsCard.stood.harness false
    over (fun _ h => by cases h) (by kernel_rfl) (fun _ h => by cases h) treeJoins_row_tie rfl ⟨rfl, rfl⟩ (by kernel_rfl) rfl
    (fun f fn hf hfn => by
      obtain rfl : f = 8 := Option.some.inj ((show Tryz.prog.funcNamed "publisher/publisherlaw04.TreeJoins" = some 8 by kernel_rfl).symm.trans hf) |>.symm
      obtain rfl : fn = Tryz.f8 := (Option.some.inj (Tryz.func8.symm.trans hfn)).symm
      exact ⟨by kernel_rfl, fun j t ht => by
        rw [Tryz.params8] at ht
        have hm : t ∈ [25, 25] := by simpa using Array.mem_of_getElem? ht
        have hall : ([25, 25].all fun u => !Tryz.prog.wantsStandIn u) = true := by kernel_rfl
        exact (show Tryz.prog.wantsStandIn t = false by simpa using List.all_eq_true.1 hall t hm)⟩)
    (by kernel_rfl)
end Go.Proofs.YtcfplilbhkaihaaGreatDoor.LawTreeJoins

namespace Go.Proofs.YtcfplilbhkaihaaGreatDoor
theorem treeJoins_proved : Rows.TreeJoinsCardSaid := LawTreeJoins.card_holds
#print axioms treeJoins_proved
end Go.Proofs.YtcfplilbhkaihaaGreatDoor
