/- Proved: the tied card of publisherlaw04.TreeSames: it returns true at every two documents, and the arguments read as before; the tables of the library are what the program's text lays. No other condition. -/
import Derived.Test.YtcfplilbhkaihaaGreatDoorSeqG
import Derived.Test.YtcfplilbhkaihaaGreatDoorSameBl
import Derived.Test.YtcfplilbhkaihaaGreatDoorRInls
import Derived.Test.YtcfplilbhkaihaaGreatDoorAwk
import Derived.Test.YtcfplilbhkaihaaGreatDoorSmLine
import Derived.Test.YtcfplilbhkaihaaGreatDoorLaid4
import Derived.Test.YtcfplilbhkaihaaGreatDoorCards
import Derived.Test.YtcfplilbhkaihaaGreatDoorTie
import Derived.ShutString
import Derived.SevenTiedAt
import Derived.ChangeOld
import Derived.Deep.RegionHeld3
namespace Go.Proofs.YtcfplilbhkaihaaGreatDoor.LawTreeSames
open Go.ChangeShapes Go.WideShapes Go.ChangeAt Go.RowKit
set_option linter.unusedVariables false
set_option linter.unusedSimpArgs false

/-- What stands in every world of the walk: both documents, in their boxes, and what they lead to. -/
structure Ts (p1 p2 : Nat) (me me' : List Pr) (l l' : List Blk) (vm vb um ub : Value) (w0 w : World) : Prop where
  k1 : CB 25 p1 [vm, vb] w
  k2 : CB 25 p2 [um, ub] w
  m1 : Rd (· < w.heap.size) w (prsD me) [vm]
  b1 : Rd (· < w.heap.size) w (blksD l) [vb]
  m2 : Rd (· < w.heap.size) w (prsD me') [um]
  b2 : Rd (· < w.heap.size) w (blksD l') [ub]
  bel : Below w0.heap.size w0 w
variable {p1 p2 : Nat} {me me' : List Pr} {l l' : List Blk} {vm vb um ub : Value} {w0 w w2 : World}
theorem Ts.next (h : Ts p1 p2 me me' l l' vm vb um ub w0 w) (hb : Below w.heap.size w w2) : Ts p1 p2 me me' l l' vm vb um ub w0 w2 :=
  ⟨h.k1.below hb, h.k2.below hb, h.m1.up hb, h.b1.up hb, h.m2.up hb, h.b2.up hb, below_trans_size h.bel hb⟩
theorem Ts.all (h : Ts p1 p2 me me' l l' vm vb um ub w0 w) : w.cell? ⟨p1, 0, none⟩ = some vm ∧ w.cell? ⟨p1, 1, none⟩ = some vb ∧ w.cell? ⟨p2, 0, none⟩ = some um ∧ w.cell? ⟨p2, 1, none⟩ = some ub ∧ Ts p1 p2 me me' l l' vm vb um ub w0 w :=
  ⟨h.k1.cell 0 _ rfl, h.k1.cell 1 _ rfl, h.k2.cell 0 _ rfl, h.k2.cell 1 _ rfl, h⟩
theorem Ts.drew (h : Ts p1 p2 me me' l l' vm vb um ub w0 w) : Ts p1 p2 me me' l l' vm vb um ub w0 w.drew := h.next ⟨rfl, rfl, rfl, Nat.le_refl _, fun _ _ => rfl⟩
theorem Ts.step (h : w.cell? ⟨p1, 0, none⟩ = some vm ∧ w.cell? ⟨p1, 1, none⟩ = some vb ∧ w.cell? ⟨p2, 0, none⟩ = some um ∧ w.cell? ⟨p2, 1, none⟩ = some ub ∧ Ts p1 p2 me me' l l' vm vb um ub w0 w) (hb : Below w.heap.size w w2) : w2.cell? ⟨p1, 0, none⟩ = some vm ∧ w2.cell? ⟨p1, 1, none⟩ = some vb ∧ w2.cell? ⟨p2, 0, none⟩ = some um ∧ w2.cell? ⟨p2, 1, none⟩ = some ub ∧ Ts p1 p2 me me' l l' vm vb um ub w0 w2 := (h.2.2.2.2.next hb).all
variable {vx vy : Value} {xs ys : List Inl}
theorem Ts.step2 (h : Ts p1 p2 me me' l l' vm vb um ub w0 w) (hx : Rd (· < w.heap.size) w (inlsD xs) [vx]) (hy : Rd (· < w.heap.size) w (inlsD ys) [vy]) : w.drew.cell? ⟨p1, 0, none⟩ = some vm ∧ w.drew.cell? ⟨p1, 1, none⟩ = some vb ∧ w.drew.cell? ⟨p2, 0, none⟩ = some um ∧ w.drew.cell? ⟨p2, 1, none⟩ = some ub ∧ Ts p1 p2 me me' l l' vm vb um ub w0 w.drew ∧ Rd (· < w.drew.heap.size) w.drew (inlsD xs) [vx] ∧ Rd (· < w.drew.heap.size) w.drew (inlsD ys) [vy] :=
  have b : Below w.heap.size w w.drew := ⟨rfl, rfl, rfl, Nat.le_refl _, fun _ _ => rfl⟩
  ⟨h.drew.all.1, h.drew.all.2.1, h.drew.all.2.2.1, h.drew.all.2.2.2.1, h.drew, hx.up b, hy.up b⟩
theorem Ts.step3 (h : w.cell? ⟨p1, 0, none⟩ = some vm ∧ w.cell? ⟨p1, 1, none⟩ = some vb ∧ w.cell? ⟨p2, 0, none⟩ = some um ∧ w.cell? ⟨p2, 1, none⟩ = some ub ∧ Ts p1 p2 me me' l l' vm vb um ub w0 w ∧ Rd (· < w.heap.size) w (inlsD xs) [vx] ∧ Rd (· < w.heap.size) w (inlsD ys) [vy]) (hb : Below w.heap.size w w2) : w2.cell? ⟨p1, 0, none⟩ = some vm ∧ w2.cell? ⟨p1, 1, none⟩ = some vb ∧ w2.cell? ⟨p2, 0, none⟩ = some um ∧ w2.cell? ⟨p2, 1, none⟩ = some ub ∧ Ts p1 p2 me me' l l' vm vb um ub w0 w2 ∧ Rd (· < w2.heap.size) w2 (inlsD xs) [vx] ∧ Rd (· < w2.heap.size) w2 (inlsD ys) [vy] :=
  have h1 := (h.2.2.2.2.1.next hb).all
  ⟨h1.1, h1.2.1, h1.2.2.1, h1.2.2.2.1, h1.2.2.2.2, h.2.2.2.2.2.1.up hb, h.2.2.2.2.2.2.up hb⟩
theorem Ts.fin (h : w.cell? ⟨p1, 0, none⟩ = some vm ∧ w.cell? ⟨p1, 1, none⟩ = some vb ∧ w.cell? ⟨p2, 0, none⟩ = some um ∧ w.cell? ⟨p2, 1, none⟩ = some ub ∧ Ts p1 p2 me me' l l' vm vb um ub w0 w ∧ Rd (· < w.heap.size) w (inlsD xs) [vx] ∧ Rd (· < w.heap.size) w (inlsD ys) [vy]) : Below w0.heap.size w0 w := h.2.2.2.2.1.bel
theorem same_dec {P : Prop} [Decidable P] {b : Bool} (h : b = true ↔ P) : b = decide P := by
  rw [Bool.eq_iff_iff, h, decide_eq_true_iff]

open Classical in
set_option maxRecDepth 100000 in
set_option maxHeartbeats 4000000 in
theorem walk (me me' : List Pr) (l l' : List Blk) (vm vb um ub : Value) (w : World) (hm : Rd (· < w.heap.size) w (prsD me) [vm]) (hb : Rd (· < w.heap.size) w (blksD l) [vb]) (gm : Rd (· < w.heap.size) w (prsD me') [um]) (gb : Rd (· < w.heap.size) w (blksD l') [ub])
    (hwm : ∀ p ∈ me, p.wf) (hwl : Blk.wfL l) (gwm : ∀ p ∈ me', p.wf) (gwl : Blk.wfL l') :
    Calls Tryz.prog 5 #[.agg #[vm, vb], .agg #[um, ub]] w fun e w' => e = .returned (.bool true) ∧ Below w.heap.size w w' := by
  obtain ⟨am, nm, cm, rfl⟩ := Rd.slf hm
  obtain ⟨ab, nb, cb, rfl⟩ := Rd.slf hb
  obtain ⟨bm, mm, dm, rfl⟩ := Rd.slf gm
  obtain ⟨bb, mb, db, rfl⟩ := Rd.slf gb
  obtain ⟨w1, hw1⟩ : ∃ w1, w1 = (w.alloc (.cells #[.slice am nm cm, .slice ab nb cb] 25)).alloc (.cells #[.slice bm mm dm, .slice bb mb db] 25) := ⟨_, rfl⟩
  have T1 : Hid (Ts w.heap.size (w.heap.size + 1) me me' l l' (.slice am nm cm) (.slice ab nb cb) (.slice bm mm dm) (.slice bb mb db) w w1) := by
    have b0 : Below w.heap.size w (w.alloc (.cells #[.slice am nm cm, .slice ab nb cb] 25)) := (Below.refl _ _).alloc (Nat.le_refl _) _
    have b1 : Below (w.alloc (.cells #[.slice am nm cm, .slice ab nb cb] 25)).heap.size (w.alloc (.cells #[.slice am nm cm, .slice ab nb cb] 25)) w1 := by rw [hw1]; exact (Below.refl _ _).alloc (Nat.le_refl _) _
    have b2 := below_trans_size b0 b1
    refine ⟨?_, ?_, hm.up b2, hb.up b2, gm.up b2, gb.up b2, b2⟩
    · exact (CB.new _ _ _).below b1
    · rw [hw1]
      have := CB.new 25 [.slice bm mm dm, .slice bb mb db] (w.alloc (.cells #[.slice am nm cm, .slice ab nb cb] 25))
      rwa [World.size_alloc] at this
  have SA := Lib.hid (fun w' (h : Ts w.heap.size (w.heap.size + 1) me me' l l' (.slice am nm cm) (.slice ab nb cb) (.slice bm mm dm) (.slice bb mb db) w w') => small_any me l _ _ w' h.m1 h.b1 hwm hwl)
  have SB := Lib.hid (fun w' (h : Ts w.heap.size (w.heap.size + 1) me me' l l' (.slice am nm cm) (.slice ab nb cb) (.slice bm mm dm) (.slice bb mb db) w w') => small_any me' l' _ _ w' h.m2 h.b2 gwm gwl)
  clear hm hb gm gb hwm hwl gwm gwl
  go_enter Tryz.func5, Tryz.ntmps5
  (try simp only [List.append_eq, List.cons_append, List.nil_append])
  go_upto_region 1 with (fail)
  rw [← hw1]
  clear hw1
  obtain ⟨x0, x1, x2, x3, -⟩ := T1.out.all
  go_wp2_with fail
  refine (SA.out _ T1.out).mono ?_
  rintro e w2 ⟨b, rfl, hsa, b2⟩
  have T2 := Lib.hid (T1.out.next b2)
  clear x0 x1 x2 x3 b2
  obtain ⟨x0, x1, x2, x3, -⟩ := T2.out.all
  cases b with
  | false =>
    clear hsa
    go_wp2_with fail
    refine (awake_any _).mono ?_
    rintro e w3 ⟨rfl, b3⟩
    have HB := Lib.hid (below_trans_size T2.out.bel b3)
    clear b3
    go_wp2
    go_ret
    exact ⟨rfl, HB.out⟩
  | true =>
  have HSA := Lib.hid (hsa rfl)
  clear hsa
  go_wp2_with fail
  refine (SB.out _ T2.out).mono ?_
  rintro e w3 ⟨b, rfl, hsb, b3⟩
  have T3 := Lib.hid (T2.out.next b3)
  clear x0 x1 x2 x3 b3
  obtain ⟨x0, x1, x2, x3, -⟩ := T3.out.all
  cases b with
  | false =>
    clear hsb
    go_wp2_with fail
    refine (awake_any _).mono ?_
    rintro e w4 ⟨rfl, b4⟩
    have HB := Lib.hid (below_trans_size T3.out.bel b4)
    clear b4
    go_wp2
    go_ret
    exact ⟨rfl, HB.out⟩
  | true =>
  have HSB := Lib.hid (hsb rfl)
  clear hsb
  have sz1 := Blk.allL_sz l
  have sz2 := Blk.allL_sz l'
  have al1 := HSA.out.all
  have al2 := HSB.out.all
  have IA := Lib.hid (fun w' (h : w'.cell? ⟨w.heap.size, 0, none⟩ = some (.slice am nm cm) ∧ w'.cell? ⟨w.heap.size, 1, none⟩ = some (.slice ab nb cb) ∧ w'.cell? ⟨w.heap.size + 1, 0, none⟩ = some (.slice bm mm dm) ∧ w'.cell? ⟨w.heap.size + 1, 1, none⟩ = some (.slice bb mb db) ∧ Ts w.heap.size (w.heap.size + 1) me me' l l' (.slice am nm cm) (.slice ab nb cb) (.slice bm mm dm) (.slice bb mb db) w w') => rInls_any l _ w' (by omega) (by omega) h.2.2.2.2.b1)
  have IB := Lib.hid (fun w' (h : w'.cell? ⟨w.heap.size, 0, none⟩ = some (.slice am nm cm) ∧ w'.cell? ⟨w.heap.size, 1, none⟩ = some (.slice ab nb cb) ∧ w'.cell? ⟨w.heap.size + 1, 0, none⟩ = some (.slice bm mm dm) ∧ w'.cell? ⟨w.heap.size + 1, 1, none⟩ = some (.slice bb mb db) ∧ Ts w.heap.size (w.heap.size + 1) me me' l l' (.slice am nm cm) (.slice ab nb cb) (.slice bm mm dm) (.slice bb mb db) w w') => rInls_any l' _ w' (by omega) (by omega) h.2.2.2.2.b2)
  clear SA SB HSA HSB sz1 sz2 al1 al2
  have U3 := Lib.hid T3.out.drew
  clear x0 x1 x2 x3
  go_upto_region 3 with (fail)
  have U3a := U3.out.all
  go_region_held3 (fun w' => w'.cell? ⟨w.heap.size, 0, none⟩ = some (.slice am nm cm) ∧ w'.cell? ⟨w.heap.size, 1, none⟩ = some (.slice ab nb cb) ∧ w'.cell? ⟨w.heap.size + 1, 0, none⟩ = some (.slice bm mm dm) ∧ w'.cell? ⟨w.heap.size + 1, 1, none⟩ = some (.slice bb mb db) ∧ Ts w.heap.size (w.heap.size + 1) me me' l l' (.slice am nm cm) (.slice ab nb cb) (.slice bm mm dm) (.slice bb mb db) w w') (first | exact Ts.step (by assumption) hbB | exact Ts.step (by assumption) hbA | exact U3a)
    (first
      | (go_simp; go_at_call 18; (with_reducible refine (IA.out _ (by assumption)).mono ?_); rintro e wA ⟨vx, rfl, hx, hbA⟩)
      | (go_simp; go_at_call 18; (with_reducible refine (IB.out _ (by assumption)).mono ?_); rintro e wB ⟨vy, rfl, hy, hbB⟩))
  have T4 : Hid (Ts w.heap.size (w.heap.size + 1) me me' l l' (.slice am nm cm) (.slice ab nb cb) (.slice bm mm dm) (.slice bb mb db) w wB) := (U3.out.next hbA).next hbB
  have X4 := Lib.hid (hx.up hbB)
  have Y4 := Lib.hid hy
  have S4 := Lib.hid (T4.out.step2 X4.out Y4.out)
  clear hbA hbB hx hy U3a U3
  have TS1 : Hid (∀ w', (w'.cell? ⟨w.heap.size, 0, none⟩ = some (.slice am nm cm) ∧ w'.cell? ⟨w.heap.size, 1, none⟩ = some (.slice ab nb cb) ∧ w'.cell? ⟨w.heap.size + 1, 0, none⟩ = some (.slice bm mm dm) ∧ w'.cell? ⟨w.heap.size + 1, 1, none⟩ = some (.slice bb mb db) ∧ Ts w.heap.size (w.heap.size + 1) me me' l l' (.slice am nm cm) (.slice ab nb cb) (.slice bm mm dm) (.slice bb mb db) w w' ∧ Rd (· < w'.heap.size) w' (inlsD (Blk.inlsL l)) [vx] ∧ Rd (· < w'.heap.size) w' (inlsD (Blk.inlsL l')) [vy]) → Calls Tryz.prog 19 #[.agg #[.slice am nm cm, .slice ab nb cb], .agg #[.slice bm mm dm, .slice bb mb db]] w' fun e w'' => e = .returned (.bool (decide (me = me' ∧ l = l'))) ∧ Below w'.heap.size w' w'') := fun w' h => (tSame_any me me' l l' _ _ _ _ w' h.2.2.2.2.1.m1 h.2.2.2.2.1.m2 h.2.2.2.2.1.b1 h.2.2.2.2.1.b2).mono fun e w'' ⟨b, h1, h2, h3⟩ => ⟨by rw [h1, same_dec h2], h3⟩
  have RS1 : Hid (∀ w', (w'.cell? ⟨w.heap.size, 0, none⟩ = some (.slice am nm cm) ∧ w'.cell? ⟨w.heap.size, 1, none⟩ = some (.slice ab nb cb) ∧ w'.cell? ⟨w.heap.size + 1, 0, none⟩ = some (.slice bm mm dm) ∧ w'.cell? ⟨w.heap.size + 1, 1, none⟩ = some (.slice bb mb db) ∧ Ts w.heap.size (w.heap.size + 1) me me' l l' (.slice am nm cm) (.slice ab nb cb) (.slice bm mm dm) (.slice bb mb db) w w' ∧ Rd (· < w'.heap.size) w' (inlsD (Blk.inlsL l)) [vx] ∧ Rd (· < w'.heap.size) w' (inlsD (Blk.inlsL l')) [vy]) → Calls Tryz.prog 20 #[.agg #[.slice am nm cm, .slice ab nb cb], .agg #[.slice bm mm dm, .slice bb mb db]] w' fun e w'' => e = .returned (.bool (decide (me = me' ∧ l = l'))) ∧ Below w'.heap.size w' w'') := fun w' h => (same_any me me' l l' _ _ _ _ w' h.2.2.2.2.1.m1 h.2.2.2.2.1.m2 h.2.2.2.2.1.b1 h.2.2.2.2.1.b2).mono fun e w'' ⟨b, h1, h2, h3⟩ => ⟨by rw [h1, same_dec h2], h3⟩
  have TS2 : Hid (∀ w', (w'.cell? ⟨w.heap.size, 0, none⟩ = some (.slice am nm cm) ∧ w'.cell? ⟨w.heap.size, 1, none⟩ = some (.slice ab nb cb) ∧ w'.cell? ⟨w.heap.size + 1, 0, none⟩ = some (.slice bm mm dm) ∧ w'.cell? ⟨w.heap.size + 1, 1, none⟩ = some (.slice bb mb db) ∧ Ts w.heap.size (w.heap.size + 1) me me' l l' (.slice am nm cm) (.slice ab nb cb) (.slice bm mm dm) (.slice bb mb db) w w' ∧ Rd (· < w'.heap.size) w' (inlsD (Blk.inlsL l)) [vx] ∧ Rd (· < w'.heap.size) w' (inlsD (Blk.inlsL l')) [vy]) → Calls Tryz.prog 19 #[.agg #[.slice am nm cm, .slice ab nb cb], .agg #[.slice am nm cm, .slice ab nb cb]] w' fun e w'' => e = .returned (.bool true) ∧ Below w'.heap.size w' w'') := fun w' h => (tSame_any me me l l _ _ _ _ w' h.2.2.2.2.1.m1 h.2.2.2.2.1.m1 h.2.2.2.2.1.b1 h.2.2.2.2.1.b1).mono fun e w'' ⟨b, h1, h2, h3⟩ => ⟨by rw [h1, h2.2 ⟨rfl, rfl⟩], h3⟩
  have TS3 : Hid (∀ w', (w'.cell? ⟨w.heap.size, 0, none⟩ = some (.slice am nm cm) ∧ w'.cell? ⟨w.heap.size, 1, none⟩ = some (.slice ab nb cb) ∧ w'.cell? ⟨w.heap.size + 1, 0, none⟩ = some (.slice bm mm dm) ∧ w'.cell? ⟨w.heap.size + 1, 1, none⟩ = some (.slice bb mb db) ∧ Ts w.heap.size (w.heap.size + 1) me me' l l' (.slice am nm cm) (.slice ab nb cb) (.slice bm mm dm) (.slice bb mb db) w w' ∧ Rd (· < w'.heap.size) w' (inlsD (Blk.inlsL l)) [vx] ∧ Rd (· < w'.heap.size) w' (inlsD (Blk.inlsL l')) [vy]) → Calls Tryz.prog 19 #[.agg #[.slice bm mm dm, .slice bb mb db], .agg #[.slice am nm cm, .slice ab nb cb]] w' fun e w'' => e = .returned (.bool (decide (me = me' ∧ l = l'))) ∧ Below w'.heap.size w' w'') := fun w' h => (tSame_any me' me l' l _ _ _ _ w' h.2.2.2.2.1.m2 h.2.2.2.2.1.m1 h.2.2.2.2.1.b2 h.2.2.2.2.1.b1).mono fun e w'' ⟨b, h1, h2, h3⟩ => ⟨by rw [h1, same_dec (h2.trans ⟨fun h => ⟨h.1.symm, h.2.symm⟩, fun h => ⟨h.1.symm, h.2.symm⟩⟩ : b = true ↔ (me = me' ∧ l = l'))], h3⟩
  have TB1 : Hid (∀ w', (w'.cell? ⟨w.heap.size, 0, none⟩ = some (.slice am nm cm) ∧ w'.cell? ⟨w.heap.size, 1, none⟩ = some (.slice ab nb cb) ∧ w'.cell? ⟨w.heap.size + 1, 0, none⟩ = some (.slice bm mm dm) ∧ w'.cell? ⟨w.heap.size + 1, 1, none⟩ = some (.slice bb mb db) ∧ Ts w.heap.size (w.heap.size + 1) me me' l l' (.slice am nm cm) (.slice ab nb cb) (.slice bm mm dm) (.slice bb mb db) w w' ∧ Rd (· < w'.heap.size) w' (inlsD (Blk.inlsL l)) [vx] ∧ Rd (· < w'.heap.size) w' (inlsD (Blk.inlsL l')) [vy]) → Calls Tryz.prog 21 #[.slice ab nb cb, .slice bb mb db] w' fun e w'' => e = .returned (.bool (decide (l = l'))) ∧ Below w'.heap.size w' w'') := fun w' h => (tSameBlocks_any _ l l' _ _ w' (Nat.le_refl _) h.2.2.2.2.1.b1 h.2.2.2.2.1.b2).mono fun e w'' ⟨b, h1, h2, h3⟩ => ⟨by rw [h1, same_dec h2], h3⟩
  have RB1 : Hid (∀ w', (w'.cell? ⟨w.heap.size, 0, none⟩ = some (.slice am nm cm) ∧ w'.cell? ⟨w.heap.size, 1, none⟩ = some (.slice ab nb cb) ∧ w'.cell? ⟨w.heap.size + 1, 0, none⟩ = some (.slice bm mm dm) ∧ w'.cell? ⟨w.heap.size + 1, 1, none⟩ = some (.slice bb mb db) ∧ Ts w.heap.size (w.heap.size + 1) me me' l l' (.slice am nm cm) (.slice ab nb cb) (.slice bm mm dm) (.slice bb mb db) w w' ∧ Rd (· < w'.heap.size) w' (inlsD (Blk.inlsL l)) [vx] ∧ Rd (· < w'.heap.size) w' (inlsD (Blk.inlsL l')) [vy]) → Calls Tryz.prog 22 #[.slice ab nb cb, .slice bb mb db] w' fun e w'' => e = .returned (.bool (decide (l = l'))) ∧ Below w'.heap.size w' w'') := fun w' h => (sameBlocks_any _ l l' _ _ w' (Nat.le_refl _) h.2.2.2.2.1.b1 h.2.2.2.2.1.b2).mono fun e w'' ⟨b, h1, h2, h3⟩ => ⟨by rw [h1, same_dec h2], h3⟩
  have TL1 : Hid (∀ w', (w'.cell? ⟨w.heap.size, 0, none⟩ = some (.slice am nm cm) ∧ w'.cell? ⟨w.heap.size, 1, none⟩ = some (.slice ab nb cb) ∧ w'.cell? ⟨w.heap.size + 1, 0, none⟩ = some (.slice bm mm dm) ∧ w'.cell? ⟨w.heap.size + 1, 1, none⟩ = some (.slice bb mb db) ∧ Ts w.heap.size (w.heap.size + 1) me me' l l' (.slice am nm cm) (.slice ab nb cb) (.slice bm mm dm) (.slice bb mb db) w w' ∧ Rd (· < w'.heap.size) w' (inlsD (Blk.inlsL l)) [vx] ∧ Rd (· < w'.heap.size) w' (inlsD (Blk.inlsL l')) [vy]) → Calls Tryz.prog 23 #[vx, vy] w' fun e w'' => e = .returned (.bool (decide (Blk.inlsL l = Blk.inlsL l'))) ∧ Below w'.heap.size w' w'') := fun w' h => (tSameLine_any _ (Blk.inlsL l) (Blk.inlsL l') _ _ w' (Nat.le_refl _) h.2.2.2.2.2.1 h.2.2.2.2.2.2).mono fun e w'' ⟨b, h1, h2, h3⟩ => ⟨by rw [h1, same_dec h2], h3⟩
  have RL1 : Hid (∀ w', (w'.cell? ⟨w.heap.size, 0, none⟩ = some (.slice am nm cm) ∧ w'.cell? ⟨w.heap.size, 1, none⟩ = some (.slice ab nb cb) ∧ w'.cell? ⟨w.heap.size + 1, 0, none⟩ = some (.slice bm mm dm) ∧ w'.cell? ⟨w.heap.size + 1, 1, none⟩ = some (.slice bb mb db) ∧ Ts w.heap.size (w.heap.size + 1) me me' l l' (.slice am nm cm) (.slice ab nb cb) (.slice bm mm dm) (.slice bb mb db) w w' ∧ Rd (· < w'.heap.size) w' (inlsD (Blk.inlsL l)) [vx] ∧ Rd (· < w'.heap.size) w' (inlsD (Blk.inlsL l')) [vy]) → Calls Tryz.prog 24 #[vx, vy] w' fun e w'' => e = .returned (.bool (decide (Blk.inlsL l = Blk.inlsL l'))) ∧ Below w'.heap.size w' w'') := fun w' h => (sameLine_any _ (Blk.inlsL l) (Blk.inlsL l') _ _ w' (Nat.le_refl _) h.2.2.2.2.2.1 h.2.2.2.2.2.2).mono fun e w'' ⟨b, h1, h2, h3⟩ => ⟨by rw [h1, same_dec h2], h3⟩
  generalize (decide (me = me' ∧ l = l')) = B1 at *
  generalize (decide (l = l')) = B2 at *
  generalize (decide (Blk.inlsL l = Blk.inlsL l')) = B3 at *
  go_upto_region 4 with (fail)
  have S4a := S4.out
  go_region_held3 (fun w' => w'.cell? ⟨w.heap.size, 0, none⟩ = some (.slice am nm cm) ∧ w'.cell? ⟨w.heap.size, 1, none⟩ = some (.slice ab nb cb) ∧ w'.cell? ⟨w.heap.size + 1, 0, none⟩ = some (.slice bm mm dm) ∧ w'.cell? ⟨w.heap.size + 1, 1, none⟩ = some (.slice bb mb db) ∧ Ts w.heap.size (w.heap.size + 1) me me' l l' (.slice am nm cm) (.slice ab nb cb) (.slice bm mm dm) (.slice bb mb db) w w' ∧ Rd (· < w'.heap.size) w' (inlsD (Blk.inlsL l)) [vx] ∧ Rd (· < w'.heap.size) w' (inlsD (Blk.inlsL l')) [vy]) (first | exact Ts.step3 (by assumption) hbb | exact S4a)
    (first
      | (go_simp; go_at_call 19; (with_reducible refine (TS1.out _ (by assumption)).mono ?_); rintro e wZ ⟨rfl, hbb⟩)
      | (go_simp; go_at_call 19; (with_reducible refine (TS2.out _ (by assumption)).mono ?_); rintro e wZ ⟨rfl, hbb⟩)
      | (go_simp; go_at_call 19; (with_reducible refine (TS3.out _ (by assumption)).mono ?_); rintro e wZ ⟨rfl, hbb⟩)
      | (go_simp; go_at_call 20; (with_reducible refine (RS1.out _ (by assumption)).mono ?_); rintro e wZ ⟨rfl, hbb⟩)
      | (go_simp; go_at_call 21; (with_reducible refine (TB1.out _ (by assumption)).mono ?_); rintro e wZ ⟨rfl, hbb⟩)
      | (go_simp; go_at_call 22; (with_reducible refine (RB1.out _ (by assumption)).mono ?_); rintro e wZ ⟨rfl, hbb⟩)
      | (go_simp; go_at_call 23; (with_reducible refine (TL1.out _ (by assumption)).mono ?_); rintro e wZ ⟨rfl, hbb⟩)
      | (go_simp; go_at_call 24; (with_reducible refine (RL1.out _ (by assumption)).mono ?_); rintro e wZ ⟨rfl, hbb⟩)
      | (go_simp; go_at_call 11; (refine (awake_any _).mono ?_); rintro e wZ ⟨rfl, hbb⟩))
  clear S4a S4 X4 Y4 T4 TS1 RS1 TS2 TS3 TB1 RB1 TL1 RL1 IA IB T1 T2 T3
  have HF := Lib.hid (Ts.fin (by assumption))
  go_wp2
  go_ret
  exact ⟨rfl, HF.out⟩

set_option maxRecDepth 100000 in
theorem lifted (os : Os) (started : os.Started) (H : Type) (enc : TypeId × Value → H) :
    ReturnsInHanded {} Tryz.checked os 5 .any (fun w args => (Rows.treeSamesSpec.pre enc Tryz.prog Tryz.f5 [] false w args ∧ laidMetH Tryz.prog laidF w) ∧ sizedMet enc Tryz.prog Tryz.f5 (OpenSpec.ofChange Rows.treeSamesSpec) false w args)
      (Rows.treeSamesSpec.post enc Tryz.prog Tryz.f5 false true false false) := by
  refine returnsInHanded_of_change_and (C := Tryz.checked) (X := fun w _ => laidMetH Tryz.prog laidF w) (fun _ _ _ hh h => h.of_heap hh) own started (by kernel_rfl) Tryz.func5
    (ChangeSpec.witness_shaped (enc := enc) (C := Tryz.checked) (os := os) (X := fun w _ => laidMetH Tryz.prog laidF w) false (World.laidAll Tryz.prog os laidF) #[.agg #[.slice none 0 0, .slice none 0 0], .agg #[.slice none 0 0, .slice none 0 0]] 8 (World.laidAll_os _ _ _) (wit_shaped os) (by kernel_rfl) (by kernel_rfl) (by kernel_rfl) (wit_met os _)) ?_
  intro W base args ds gs before hval0 hW _ hwt hL _
  have hval : ∀ (j : Nat) t v, Tryz.f5.params[j]? = some t → args[j]? = some v → Value.okWide Tryz.prog W .any base t v := hval0
  have hW' := hW
  obtain ⟨p, q, hA0, hV, rfl, hfz, hnd⟩ := hW
  have hA : DataW.TrodAll enc Tryz.prog W 0 (fun _ => true) true Tryz.f5.params.toList args.toList ds p := hA0
  rw [Tryz.params5] at hA hval
  obtain ⟨v0, vs0, d0, ds0, p0, q0, hargs, rfl, rfl, h0, r0⟩ := trodAll_cons hA
  obtain ⟨v1, vs1, d1, ds1, p1, q1, rfl, rfl, rfl, h1, r1⟩ := trodAll_cons r0
  obtain ⟨rfl, rfl, rfl⟩ := trodAll_nil r1
  obtain rfl : args = #[v0, v1] := by cases args; simp_all
  obtain ⟨rfl, rfl⟩ := trodVars_none hV
  have lt0 : ∀ x ∈ p0, x.block < W.heap.size := by obtain ⟨m, hm⟩ := h0; exact DataW.trod_lt m _ _ _ hm
  have lt1 : ∀ x ∈ p1, x.block < W.heap.size := by obtain ⟨m, hm⟩ := h1; exact DataW.trod_lt m _ _ _ hm
  rw [Tryz.params5] at hwt
  obtain ⟨me0, l0, vm0, vb0, hwm0, hml0, hwl0, hll0, hcs0, hm0, hb0⟩ := rd_doc h0.choose_spec (rch_each hwt 0 25 d0 rfl rfl)
  obtain ⟨cv0, rfl, -⟩ := okWide_struct Tryz.underlying25 (hval 0 25 v0 rfl rfl)
  obtain rfl : cv0 = #[vm0, vb0] := by
    have h : cv0.toList = [vm0, vb0] := hcs0
    cases cv0; simp_all
  obtain ⟨me1, l1, vm1, vb1, hwm1, hml1, hwl1, hll1, hcs1, hm1, hb1⟩ := rd_doc h1.choose_spec (rch_each hwt 1 25 d1 rfl rfl)
  obtain ⟨cv1, rfl, -⟩ := okWide_struct Tryz.underlying25 (hval 1 25 v1 rfl rfl)
  obtain rfl : cv1 = #[vm1, vb1] := by
    have h : cv1.toList = [vm1, vb1] := hcs1
    cases cv1; simp_all
  clear hA0 hval0 hwt
  refine (walk me0 me1 l0 l1 vm0 vb0 vm1 vb1 W hm0 hb0 hm1 hb1 hwm0 hwl0 hwm1 hwl1).mono fun e W' ⟨he, bel⟩ => ?_
  subst he
  exact ⟨_, rfl, _, _, _, [], _, [], hW', trodAll_mk1 (shut_bool Tryz.underlying4 _), (trodAll_cons_mk (Below.trod laidOut (by kernel_rfl) (of_decide_eq_true (by kernel_rfl)) h0 bel lt0) (trodAll_cons_mk (Below.trod laidOut (by kernel_rfl) (of_decide_eq_true (by kernel_rfl)) h1 bel lt1) trodAll_mk0)), rfl, bel.frame _, fun h => by cases h⟩

theorem over : Rows.TreeSamesSaid :=
  OpenClaim.holds_of_wide 5 Tryz.f5 rfl rfl rfl rfl rfl rfl rfl ⟨rfl, rfl, rfl, rfl, rfl⟩ rfl rfl rfl rfl rfl (by kernel_rfl) Tryz.func5 (by kernel_rfl)
    (of_decide_eq_true (by kernel_rfl)) (by unfold Func.isWrapper; first | (rw [if_pos (by decide +kernel)]; kernel_rfl) | (rw [if_neg (by decide +kernel)]; exact ⟨rfl, rfl⟩))
    (fun os started H enc _ => lifted os started H enc)

theorem card_holds : Rows.TreeSamesCardSaid :=
  Claim7.holds_tied_plain_at .later [] [.data, .pinned] true Rows.treeSamesCard.stood.harness false
    over (fun _ h => by cases h) (by kernel_rfl) (fun _ h => by cases h) treeSames_row_tie rfl ⟨rfl, rfl⟩ (by kernel_rfl) rfl
    (fun f fn hf hfn => by
      obtain rfl : f = 5 := Option.some.inj ((show Tryz.prog.funcNamed "publisher/publisherlaw04.TreeSames" = some 5 by kernel_rfl).symm.trans hf) |>.symm
      obtain rfl : fn = Tryz.f5 := (Option.some.inj (Tryz.func5.symm.trans hfn)).symm
      exact ⟨by kernel_rfl, fun j t ht => by
        rw [Tryz.params5] at ht
        have hm : t ∈ [25, 25] := by simpa using Array.mem_of_getElem? ht
        have hall : ([25, 25].all fun u => !Tryz.prog.wantsStandIn u) = true := by kernel_rfl
        exact (show Tryz.prog.wantsStandIn t = false by simpa using List.all_eq_true.1 hall t hm)⟩)
    (by kernel_rfl)
end Go.Proofs.YtcfplilbhkaihaaGreatDoor.LawTreeSames

namespace Go.Proofs.YtcfplilbhkaihaaGreatDoor
theorem treeSames_proved : Rows.TreeSamesCardSaid := LawTreeSames.card_holds
#print axioms treeSames_proved
end Go.Proofs.YtcfplilbhkaihaaGreatDoor
