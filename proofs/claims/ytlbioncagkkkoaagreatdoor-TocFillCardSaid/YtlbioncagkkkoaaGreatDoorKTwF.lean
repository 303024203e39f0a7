/- Contract of publisherref24.Fill. The walk of publisherlaw24.TocFill. -/
import Derived.Test.YtlbioncagkkkoaaGreatDoorKRtF
import Derived.Test.YtlbioncagkkkoaaGreatDoorKTwP
import Derived.Test.YtlbioncagkkkoaaGreatDoorKAvd
import Derived.Deep.RegionHeld3
import Derived.Test.YtlbioncagkkkoaaGreatDoorKTwA
import Derived.Test.YtlbioncagkkkoaaGreatDoorKPlSb
import Derived.Test.YtlbioncagkkkoaaGreatDoorKSameBl
namespace Go.Proofs.YtlbioncagkkkoaaGreatDoor
open Go.RowKit
set_option linter.unusedVariables false
set_option linter.unusedSimpArgs false

def RFlPost (w : World) (me : List Pr) (l : List Blk) (e : Ending) (w' : World) : Prop :=
  ∃ vm' vb', e = .returned (.agg #[vm', vb']) ∧ Rd (· < w'.heap.size) w' (prsD me) [vm'] ∧ Rd (· < w'.heap.size) w' (blksD l) [vb'] ∧ Below w.heap.size w w'

set_option maxRecDepth 100000 in
set_option maxHeartbeats 4000000 in
theorem rFill24_any (me : List Pr) (l : List Blk) (vm vb : Value) (w : World) (hm : Rd (· < w.heap.size) w (prsD me) [vm]) (hb : Rd (· < w.heap.size) w (blksD l) [vb]) (hsz : Blk.szL l ≤ 800000) (hszb : Blk.szL (bareL l) ≤ 800000) (hilb : (Blk.inlsL (bareL l)).length ≤ 800000) (hlnb : ∀ b ∈ Blk.eachL (bareL l), RLnOk b.lineOf) (hokb : ∀ dep : Int, REnsOk (tocL (numsL (bareL l)) dep)) :
    Calls Tryz.prog 14 #[.agg #[vm, vb]] w (RFlPost w me (fillL l)) := by
  obtain ⟨am, nm, cm, rfl⟩ := Rd.slf hm
  obtain ⟨ab, nb, cb, rfl⟩ := Rd.slf hb
  obtain ⟨S, hS⟩ : ∃ S, S = w.heap.size := ⟨_, rfl⟩
  obtain ⟨W0, hW0⟩ : ∃ W, W = (w.alloc (.cells #[.slice am nm cm, .slice ab nb cb] 25)).alloc (.cells #[.slice none 0 0, .slice none 0 0] 25) := ⟨_, rfl⟩
  have z0 : W0.heap.size = S + 2 := by rw [hW0, hS]; simp
  have D0 : FdB S (.slice am nm cm) (.slice ab nb cb) w W0 := by
    refine ⟨?_, ?_, ?_⟩
    · rw [hW0, hS]; exact cb_grown (CB.new _ _ w) (World.grownBy_alloc _ _ none) (by simp)
    · have := CB.new 25 [.slice none 0 0, .slice none 0 0] (w.alloc (.cells #[.slice am nm cm, .slice ab nb cb] 25))
      rw [World.size_alloc, ← hS] at this
      rw [hW0]; exact this
    · rw [hW0, hS]; exact ((Below.refl _ _).alloc (Nat.le_refl _) _).alloc (by simp) _
  have DA : FdB S (.slice am nm cm) (.slice ab nb cb) w (W0.alloc (.cells #[.slice none 0 0, .slice none 0 0] 25)) := D0.grown (World.grownBy_alloc _ _ none) (by simp)
  have D0d : FdB S (.slice am nm cm) (.slice ab nb cb) w (W0.alloc (.cells #[.slice none 0 0, .slice none 0 0] 25)).drew := DA.grown (row := none) ⟨rfl, rfl, rfl, Nat.le_refl _, fun _ _ _ => rfl⟩ (by simp)
  have HS := Lib.hid hS
  have HM : Hid (∀ wq, Below S w wq → Rd (· < S) wq (prsD me) [.slice am nm cm]) := fun wq h => by rw [hS] at h ⊢; exact hm.below h
  have HB : Hid (∀ wq, Below S w wq → Rd (· < S) wq (blksD l) [.slice ab nb cb]) := fun wq h => by rw [hS] at h ⊢; exact hb.below h
  have BR : Hid (∀ wq, Below S w wq → S + 1 < wq.heap.size → Calls Tryz.prog 38 #[.slice ab nb cb] wq (BrPost S wq (Blk.wkL (fun _ => []) l))) := fun wq h1 h2 =>
    rbare_any 1000000 l (.slice ab nb cb) S wq (by omega) (Nat.le_refl _) (HB.out wq h1) (by omega)
  have HD0 := Lib.hid D0d
  have S0 : W0.drew.cell? ⟨S, 0, none⟩ = some (.slice am nm cm) ∧ W0.drew.cell? ⟨S, 1, none⟩ = some (.slice ab nb cb) := ⟨D0.d.cell 0 _ rfl, D0.d.cell 1 _ rfl⟩
  have HDB := Lib.hid (show FdB S (.slice am nm cm) (.slice ab nb cb) w W0.drew from D0.grown (row := none) ⟨rfl, rfl, rfl, Nat.le_refl _, fun _ _ _ => rfl⟩ (by simp))
  have x0 := D0d.d.cell 0 _ rfl
  have x1 := D0d.d.cell 1 _ rfl
  have y0 := D0.d.cell 0 _ rfl
  have y1 := D0.d.cell 1 _ rfl
  have hz0 : S + 1 < W0.heap.size := by omega
  have hz0d : S + 1 < W0.drew.heap.size := hz0
  have HEB := Lib.hid (show CB 25 W0.heap.size [.slice none 0 0, .slice none 0 0] (W0.alloc (.cells #[.slice none 0 0, .slice none 0 0] 25)).drew from CB.new _ _ W0)
  have hzA : S + 1 < (W0.alloc (.cells #[.slice none 0 0, .slice none 0 0] 25)).drew.heap.size := by show S + 1 < (W0.alloc _).heap.size; rw [World.size_alloc]; omega
  clear hm hb hS z0 D0 D0d DA
  go_enter Tryz.func14, Tryz.ntmps14
  go_upto_region 1 with (fail)
  rw [← hW0, ← HS.out]
  clear hW0
  go_cut [3] (fun v wx => ∃ (q : Nat) (a1 : Option Addr) (n1 c1 : Nat), v = .pointer (some ⟨q, 0, none⟩) ∧ S + 1 < q ∧ CB 25 q [.slice am nm cm, .slice a1 n1 c1] wx ∧ FdB S (.slice am nm cm) (.slice ab nb cb) w wx ∧ Rd (fun b => b < S ∨ S + 1 < b) wx (blksD (bareL l)) [.slice a1 n1 c1])
  case first =>
    go_wp2_with fail
    go_region_held3 (fun w' => w'.cell? ⟨S, 0, none⟩ = some (.slice am nm cm) ∧ w'.cell? ⟨S, 1, none⟩ = some (.slice ab nb cb))
      (first | exact S0 | assumption | exact ⟨past S0.1 _, past S0.2 _⟩ | exact S7 | exact ⟨past S7.1 _, past S7.2 _⟩ | exact S9)
      (first
        | (go_simp; go_at_call 38; (with_reducible refine (BR.out _ (by first | exact HDB.out.bel | exact HD0.out.bel) (by first | exact hz0d | exact hzA)).mono ?_); rintro e w7 ⟨v7, rfl, h7, b7⟩; obtain ⟨a7, n7, c7, rfl⟩ := Rd.slf h7; have D7 : FdB S (.slice am nm cm) (.slice ab nb cb) w w7 := (by first | exact HD0.out.grown (grown_below b7) (by simp) | exact HDB.out.grown (grown_below b7) (by simp)); have S7 : w7.cell? ⟨S, 0, none⟩ = some (.slice am nm cm) ∧ w7.cell? ⟨S, 1, none⟩ = some (.slice ab nb cb) := ⟨D7.d.cell 0 _ rfl, D7.d.cell 1 _ rfl⟩; (try (have E7 := CB.below HEB.out b7; have g0 := E7.cell 0 _ rfl; have g1 := E7.cell 1 _ rfl; have gf := cb_free E7; have D9 := (D7.grown (grown_setc w7 W0.heap.size 0 (.slice am nm cm)) (fun g e => by have := Option.some.inj e; omega)).grown (grown_setc _ W0.heap.size 1 (.slice a7 n7 c7)) (fun g e => by have := Option.some.inj e; omega); have S9 : ((w7.setCell ⟨W0.heap.size, 0, none⟩ (.slice am nm cm)).setCell ⟨W0.heap.size, 1, none⟩ (.slice a7 n7 c7)).cell? ⟨S, 0, none⟩ = some (.slice am nm cm) ∧ ((w7.setCell ⟨W0.heap.size, 0, none⟩ (.slice am nm cm)).setCell ⟨W0.heap.size, 1, none⟩ (.slice a7 n7 c7)).cell? ⟨S, 1, none⟩ = some (.slice ab nb cb) := ⟨D9.d.cell 0 _ rfl, D9.d.cell 1 _ rfl⟩))))
    all_goals
      have hw7 := b7.size
      first
      | (have E9 : CB 25 W0.heap.size [.slice am nm cm, .slice a7 n7 c7] ((w7.setCell ⟨W0.heap.size, 0, none⟩ (.slice am nm cm)).setCell ⟨W0.heap.size, 1, none⟩ (.slice a7 n7 c7)) := cb_set (cb_set E7 0 _) 1 _
         have K9 : Rd (fun b => b < S ∨ S + 1 < b) ((w7.setCell ⟨W0.heap.size, 0, none⟩ (.slice am nm cm)).setCell ⟨W0.heap.size, 1, none⟩ (.slice a7 n7 c7)) (blksD (bareL l)) [.slice a7 n7 c7] := Rd.keep (w := w7) (fun b hb hlt => by
           have h9 : (W0.alloc (.cells #[.slice none 0 0, .slice none 0 0] 25)).drew.heap.size = W0.heap.size + 1 := World.size_alloc _ _
           have hne : b ≠ W0.heap.size := by rcases hb with hb | hb <;> omega
           exact ⟨hb.imp _root_.id (fun h => by omega), (Below.heap_setCell _ ⟨W0.heap.size, 1, none⟩ _ b hne).trans (Below.heap_setCell _ ⟨W0.heap.size, 0, none⟩ _ b hne)⟩) _ _ h7
         clear h7 b7 S7 S9 E7 g0 g1 gf hw7
         go_wp2_with fail
         go_meet
         exact ⟨_, a7, n7, c7, rfl, hz0, E9, D9, K9⟩)
      | (have E9 : CB 25 w7.heap.size [.slice am nm cm, .slice a7 n7 c7] (w7.alloc (.cells #[.slice am nm cm, .slice a7 n7 c7] 25)) := CB.new _ _ _
         have D9 := D7.grown (World.grownBy_alloc w7 (.cells #[.slice am nm cm, .slice a7 n7 c7] 25) none) (by simp)
         have K9 : Rd (fun b => b < S ∨ S + 1 < b) (w7.alloc (.cells #[.slice am nm cm, .slice a7 n7 c7] 25)) (blksD (bareL l)) [.slice a7 n7 c7] := Rd.keep (w := w7) (fun b hb hlt => by
           have h9 : W0.drew.heap.size = W0.heap.size := rfl
           exact ⟨hb.imp _root_.id (fun h => by omega), Below.heap_alloc _ _ b hlt⟩) _ _ h7
         have h8 : S + 1 < w7.heap.size := by have h9 : W0.drew.heap.size = W0.heap.size := rfl; omega
         clear h7 b7 S7 hw7
         go_wp2_with fail
         go_meet
         exact ⟨_, a7, n7, c7, rfl, h8, E9, D9, K9⟩)
  case rest =>
    obtain ⟨q, a1, n1, c1, rfl, hq, E1, D1, K1⟩ := hcut
    obtain ⟨w1, hw1⟩ : ∃ w1 : World, w1 = wc := ⟨_, rfl⟩
    subst hw1
    have hql := E1.lt
    have bd : Below w1.heap.size w1 w1.drew := (Below.refl _ _).drew
    have D2 : FdB S (.slice am nm cm) (.slice ab nb cb) w w1.drew := D1.grown (grown_below bd) (by simp)
    have E2 : CB 25 q [.slice am nm cm, .slice a1 n1 c1] w1.drew := E1.below bd
    have hz1 : w1.drew.heap.size = w1.heap.size := rfl
    have FL := Lib.hid (rfill_any (bareL l) hszb hilb hlnb hokb (fillK l) (fun a => fillK_eq l a) 1000000 l (.slice am nm cm) (.slice a1 n1 c1) (.slice ab nb cb) w1.drew.heap.size w1.drew (by omega) (Nat.le_refl _) ⟨_, _, _, rfl⟩ ((K1.inside.weaken (fun b hb => hb.2)).up bd) ((HB.out _ D2.bel).weaken (fun b hb => by omega)) (Nat.le_refl _))
    have S0 : w1.drew.cell? ⟨S, 0, none⟩ = some (.slice am nm cm) ∧ w1.drew.cell? ⟨S, 1, none⟩ = some (.slice ab nb cb) ∧ w1.drew.cell? ⟨q, 0, none⟩ = some (.slice am nm cm) ∧ w1.drew.cell? ⟨q, 1, none⟩ = some (.slice a1 n1 c1) := ⟨D2.d.cell 0 _ rfl, D2.d.cell 1 _ rfl, E2.cell 0 _ rfl, E2.cell 1 _ rfl⟩
    have HD2 := Lib.hid D2
    have HE2 := Lib.hid E2
    clear K1 D1 E1 D2 E2 bd HEB HDB HD0 BR x0 x1 y0 y1
    go_wp2_with fail
    go_region_held3 (fun w' => w'.cell? ⟨S, 0, none⟩ = some (.slice am nm cm) ∧ w'.cell? ⟨S, 1, none⟩ = some (.slice ab nb cb) ∧ w'.cell? ⟨q, 0, none⟩ = some (.slice am nm cm) ∧ w'.cell? ⟨q, 1, none⟩ = some (.slice a1 n1 c1))
      (first | exact S0 | assumption | exact S7 | exact S9)
      (first
        | (go_simp; go_at_call 39; (with_reducible refine FL.out.mono ?_); rintro e w7 ⟨v7, rfl, h7, b7⟩; obtain ⟨a7, n7, c7, rfl⟩ := Rd.slf h7; have D7 : FdB S (.slice am nm cm) (.slice ab nb cb) w w7 := HD2.out.grown (grown_below b7) (by simp); have E7 := HE2.out.below b7; have S7 : w7.cell? ⟨S, 0, none⟩ = some (.slice am nm cm) ∧ w7.cell? ⟨S, 1, none⟩ = some (.slice ab nb cb) ∧ w7.cell? ⟨q, 0, none⟩ = some (.slice am nm cm) ∧ w7.cell? ⟨q, 1, none⟩ = some (.slice a1 n1 c1) := ⟨D7.d.cell 0 _ rfl, D7.d.cell 1 _ rfl, E7.cell 0 _ rfl, E7.cell 1 _ rfl⟩; have r0 := D7.r.cell 0 _ rfl; have r1 := D7.r.cell 1 _ rfl; have rf := cb_free D7.r; have S9 : ((w7.setCell ⟨S + 1, 0, none⟩ (.slice am nm cm)).setCell ⟨S + 1, 1, none⟩ (.slice a7 n7 c7)).cell? ⟨S, 0, none⟩ = some (.slice am nm cm) ∧ ((w7.setCell ⟨S + 1, 0, none⟩ (.slice am nm cm)).setCell ⟨S + 1, 1, none⟩ (.slice a7 n7 c7)).cell? ⟨S, 1, none⟩ = some (.slice ab nb cb) ∧ ((w7.setCell ⟨S + 1, 0, none⟩ (.slice am nm cm)).setCell ⟨S + 1, 1, none⟩ (.slice a7 n7 c7)).cell? ⟨q, 0, none⟩ = some (.slice am nm cm) ∧ ((w7.setCell ⟨S + 1, 0, none⟩ (.slice am nm cm)).setCell ⟨S + 1, 1, none⟩ (.slice a7 n7 c7)).cell? ⟨q, 1, none⟩ = some (.slice a1 n1 c1) := (by
            have hne : some S ≠ some (S + 1) := fun e => by have := Option.some.inj e; omega
            have hnq : some q ≠ some (S + 1) := fun e => by have := Option.some.inj e; omega
            have A := cb_grown (cb_grown D7.d (grown_setc w7 (S + 1) 0 (.slice am nm cm)) hne) (grown_setc _ (S + 1) 1 (.slice a7 n7 c7)) hne
            have C := cb_grown (cb_grown E7 (grown_setc w7 (S + 1) 0 (.slice am nm cm)) hnq) (grown_setc _ (S + 1) 1 (.slice a7 n7 c7)) hnq
            exact ⟨A.cell 0 _ rfl, A.cell 1 _ rfl, C.cell 0 _ rfl, C.cell 1 _ rfl⟩)))
    all_goals
      have hw7 := b7.size
      have R9 : CB 25 (S + 1) [.slice am nm cm, .slice a7 n7 c7] ((w7.setCell ⟨S + 1, 0, none⟩ (.slice am nm cm)).setCell ⟨S + 1, 1, none⟩ (.slice a7 n7 c7)) := cb_set (cb_set D7.r 0 _) 1 _
      have B9 : Below S w ((w7.setCell ⟨S + 1, 0, none⟩ (.slice am nm cm)).setCell ⟨S + 1, 1, none⟩ (.slice a7 n7 c7)) :=
        (D7.bel.grown (grown_setc w7 (S + 1) 0 (.slice am nm cm)) (by omega) (fun g e => by have := Option.some.inj e; omega)).grown (grown_setc _ (S + 1) 1 (.slice a7 n7 c7)) (by simp [World.setCell]; omega) (fun g e => by have := Option.some.inj e; omega)
      have hzz : ((w7.setCell ⟨S + 1, 0, none⟩ (.slice am nm cm)).setCell ⟨S + 1, 1, none⟩ (.slice a7 n7 c7)).heap.size = w7.heap.size := by simp [World.setCell]
      have M9 := HM.out _ B9
      obtain ⟨w9, hw9⟩ : ∃ w9, w9 = (w7.setCell ⟨S + 1, 0, none⟩ (.slice am nm cm)).setCell ⟨S + 1, 1, none⟩ (.slice a7 n7 c7) := ⟨_, rfl⟩
      have K9 : Rd (· < w9.heap.size) w9 (blksD (fillL l)) [.slice a7 n7 c7] := Rd.keep (w := w7) (fun b hb hlt => by
        have hne : b ≠ S + 1 := hb.2
        rw [hw9]
        exact ⟨by rw [hzz]; exact hlt, (Below.heap_setCell _ ⟨S + 1, 1, none⟩ _ b hne).trans (Below.heap_setCell _ ⟨S + 1, 0, none⟩ _ b hne)⟩) _ _ (h7.avoid_doc D7.r)
      rw [← hw9] at R9 B9 M9 hzz
      have hSw := B9.size
      have hPost : RFlPost w me (fillL l) (.returned (.agg #[.slice am nm cm, .slice a7 n7 c7])) w9 :=
        ⟨_, _, rfl, M9.weaken (fun b hb => by have := D7.r.lt; omega), K9, by rw [← HS.out]; exact B9⟩
      have HPOST := Lib.hid hPost
      have HR9 := Lib.hid R9
      have HW9 := Lib.hid hw9
      clear S7 S9 r0 r1 rf h7 b7 hw7 R9 B9 hzz M9 K9 hPost hw9 D7 E7 S0 hSw
      go_wp2_with fail
      rw [← HW9.out]
      have r0 := HR9.out.cell 0 _ rfl
      have r1 := HR9.out.cell 1 _ rfl
      exact bodyPost_ret (v := .agg #[.slice am nm cm, .slice a7 n7 c7]) (by simp [results, Tryz.results14, go_sem, r0, r1]) rfl HPOST.out
end Go.Proofs.YtlbioncagkkkoaaGreatDoor

namespace Go.Proofs.YtlbioncagkkkoaaGreatDoor
open Go.RowKit
set_option linter.unusedVariables false
set_option linter.unusedSimpArgs false

theorem Rd.anyLtO {ok : Nat → Prop} {w : World} {k : Nat} {l : List D} {v : Value} (h : Rd ok w (.sl k l) [v]) : Rd (· < w.heap.size) w (.sl k l) [v] := Rd.keep (fun b _ h2 => ⟨h2, rfl⟩) _ _ h
set_option maxRecDepth 100000 in
set_option maxHeartbeats 8000000 in
theorem fill_walk (me : List Pr) (l : List Blk) (vm vb : Value) (w : World) (hm : Rd (· < w.heap.size) w (prsD me) [vm]) (hb : Rd (· < w.heap.size) w (blksD l) [vb]) (hwm : ∀ p ∈ me, p.wf) (hwl : Blk.wfL l) (hT : PT w) :
    Calls Tryz.prog 4 #[.agg #[vm, vb]] w fun e w' => e = .returned (.bool true) ∧ Below w.heap.size w w' := by
  obtain ⟨am, cm, hvm, hsm⟩ := Rd.sl_open hm
  obtain rfl : vm = .slice am me.length cm := by simpa using hvm
  obtain ⟨ab, nb, cb, rfl⟩ := Rd.slf hb
  obtain ⟨w0, hw0⟩ : ∃ w0, w0 = w.alloc (.cells #[.slice am me.length cm, .slice ab nb cb] 25) := ⟨_, rfl⟩
  obtain ⟨S, hS⟩ : ∃ S, S = w.heap.size := ⟨_, rfl⟩
  have b0 : Below w.heap.size w w0 := by rw [hw0]; exact (Below.refl _ _).alloc (Nat.le_refl _) _
  have k0 : CB 25 S [.slice am me.length cm, .slice ab nb cb] w0 := by rw [hw0, hS]; exact CB.new _ _ _
  have SM := Lib.hid (small_any me l _ _ w0 (hm.up b0) (hb.up b0) hwm hwl)
  have B0 := Lib.hid b0
  have K0 := Lib.hid k0
  have HB := Lib.hid (hb.up b0)
  have HM := Lib.hid (hm.up b0)
  have HT := Lib.hid (hT.below b0)
  have HW := Lib.hid hwl
  have x0 := k0.cell 0 _ rfl
  have x1 := k0.cell 1 _ rfl
  clear hm hb hwm hwl hT hvm hsm b0 k0
  go_enter Tryz.func4, Tryz.ntmps4
  go_upto_region 1 with (fail)
  rw [← hw0, ← hS]
  clear hw0 hS
  go_wp2_with fail
  refine SM.out.mono ?_
  rintro e w1 ⟨b, rfl, hsm, b1⟩
  have HB1 := Lib.hid (below_trans_size B0.out b1)
  cases b with
  | false =>
    have HT1 := Lib.hid (HT.out.below b1)
    clear hsm b1
    go_wp2_with fail
    refine (awake_any _ HT1.out).mono ?_
    rintro e w2 ⟨rfl, b2⟩
    have HZ := Lib.hid (below_trans_size HB1.out b2)
    clear b2
    go_wp2
    go_ret
    exact ⟨rfl, HZ.out⟩
  | true =>
    have hds := hsm rfl
    have hd := docW_small l hds.blks hds.all (Blk.eachL_kdw l HW.out)
    have HDW := Lib.hid hd
    have bd : Below w1.heap.size w1 w1.drew := (Below.refl _ _).drew
    have b1d : Below w0.heap.size w0 w1.drew := below_trans_size b1 bd
    have HB1D := Lib.hid (below_trans_size HB1.out bd)
    have HT1 := Lib.hid (HT.out.below b1d)
    have HB1R := Lib.hid (HB.out.up b1d)
    have K1 := K0.out.below b1d
    have S0 : w1.drew.cell? ⟨S, 0, none⟩ = some (.slice am me.length cm) ∧ w1.drew.cell? ⟨S, 1, none⟩ = some (.slice ab nb cb) := ⟨K1.cell 0 _ rfl, K1.cell 1 _ rfl⟩
    have hS1 : S < w1.drew.heap.size := K1.lt
    have hsm1 := hds.blks
    have hsm2 := hds.all
    have hkd := Blk.eachL_kdw l HW.out
    have FL1 := Lib.hid (fill_any me l (.slice am me.length cm) (.slice ab nb cb) w1.drew (HM.out.up b1d) HB1R.out (bare_docW l hsm1 hsm2 hkd) (fill_ens l hsm1 hsm2 ns0_b) (Blk.bdL_sm l hsm1) (by have := Blk.allL_sz l; omega) (by have := hds.meta_; omega) HT1.out)
    have FL2 : Hid (∀ wq, Rd (· < wq.heap.size) wq (prsD me) [.slice am me.length cm] → Rd (· < wq.heap.size) wq (blksD l) [.slice ab nb cb] → Calls Tryz.prog 14 #[.agg #[.slice am me.length cm, .slice ab nb cb]] wq (RFlPost wq me (fillL l))) := fun wq h1 h2 => by
      have hbd := bare_docW l hsm1 hsm2 hkd
      exact rFill24_any me l _ _ wq h1 h2 (by have := Blk.allL_sz l; omega) hbd.sz hbd.ln (fun b hb => by
        obtain ⟨h3, h4⟩ := small_rln (bareL l) (Blk.bareL_small l hsm1) b hb
        exact ⟨h3, h4⟩) (fill_rens l hsm1 hsm2 ns0_b)
    have HM1R := Lib.hid (HM.out.up b1d)
    clear hsm hds hd b1 SM HT HW HB HM bd b1d K1 x0 x1 hsm1 hsm2 hkd HDW
    go_wp2_with fail
    go_region_held3 (fun w' => w'.cell? ⟨S, 0, none⟩ = some (.slice am me.length cm) ∧ w'.cell? ⟨S, 1, none⟩ = some (.slice ab nb cb))
      (first | exact S0 | assumption | exact S3 | exact S4 | exact S5 | exact S6)
      (first
        | (go_simp; go_at_call 13; (with_reducible refine FL1.out.mono ?_); rintro e w3 ⟨vm3, vb3, rfl, hm3, hb3, b3⟩; have HM3 := Lib.hid (show Rd (· < w3.heap.size) w3 (prsD me) [vm3] from hm3.anyLtO); have HL3 := Lib.hid (show Rd (· < w3.heap.size) w3 (blksD (fillL l)) [vb3] from hb3.anyLtO); have HT3 := Lib.hid (HT1.out.below b3); have HBB3 := Lib.hid (below_trans_size HB1D.out b3); have S3 : w3.cell? ⟨S, 0, none⟩ = some (.slice am me.length cm) ∧ w3.cell? ⟨S, 1, none⟩ = some (.slice ab nb cb) := ⟨(b3.cell (p := ⟨S, 0, none⟩) hS1).trans S0.1, (b3.cell (p := ⟨S, 1, none⟩) hS1).trans S0.2⟩; have hS3 : S < w3.heap.size := Nat.lt_of_lt_of_le hS1 b3.size; have OF2 := Lib.hid (FL2.out w3 (HM1R.out.up b3) (HB1R.out.up b3)); clear b3 hm3 hb3 FL1 HB1R HM1R HT1)
        | (go_simp; go_at_call 14; (with_reducible refine OF2.out.mono ?_); rintro e w4 ⟨vm4, vb4, rfl, hm4, hb4, b4⟩; have HBB4 := Lib.hid (below_trans_size HBB3.out b4); have HT4 := Lib.hid (HT3.out.below b4); have EQ := Lib.hid (same_eq me (fillL l) vm3 vb3 vm4 vb4 w4 (HM3.out.up b4) hm4 (HL3.out.up b4) hb4); have S4 : w4.cell? ⟨S, 0, none⟩ = some (.slice am me.length cm) ∧ w4.cell? ⟨S, 1, none⟩ = some (.slice ab nb cb) := ⟨(b4.cell (p := ⟨S, 0, none⟩) hS3).trans S3.1, (b4.cell (p := ⟨S, 1, none⟩) hS3).trans S3.2⟩; have hS4 : S < w4.heap.size := Nat.lt_of_lt_of_le hS3 b4.size; clear b4 hm4 hb4 OF2 HM3 HL3 HT3)
        | (go_simp; go_at_call 12; (with_reducible refine EQ.out.mono ?_); rintro e w5 ⟨rfl, b5⟩; have HBB5 := Lib.hid (below_trans_size HBB4.out b5); have HT5 := Lib.hid (HT4.out.below b5); have S5 : w5.cell? ⟨S, 0, none⟩ = some (.slice am me.length cm) ∧ w5.cell? ⟨S, 1, none⟩ = some (.slice ab nb cb) := ⟨(b5.cell (p := ⟨S, 0, none⟩) hS4).trans S4.1, (b5.cell (p := ⟨S, 1, none⟩) hS4).trans S4.2⟩; have hS5 : S < w5.heap.size := Nat.lt_of_lt_of_le hS4 b5.size; clear b5 EQ HBB4 HT4)
        | (go_simp; go_at_call 8; (with_reducible refine (awake_any _ HT5.out).mono ?_); rintro e w6 ⟨rfl, b6⟩; have HZ := Lib.hid (below_trans_size HBB5.out b6); have S6 : w6.cell? ⟨S, 0, none⟩ = some (.slice am me.length cm) ∧ w6.cell? ⟨S, 1, none⟩ = some (.slice ab nb cb) := ⟨(b6.cell (p := ⟨S, 0, none⟩) hS5).trans S5.1, (b6.cell (p := ⟨S, 1, none⟩) hS5).trans S5.2⟩; clear b6))
    all_goals
      go_wp2
      go_ret
      exact ⟨rfl, HZ.out⟩
end Go.Proofs.YtlbioncagkkkoaaGreatDoor
