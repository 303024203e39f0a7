/- Contract of toc.Fill. The small case with which each statement of layer 24 ends: plain part. -/
import Derived.Test.YtlbioncagkkkoaaGreatDoorKTcX
import Derived.Test.YtlbioncagkkkoaaGreatDoorKPlSb
import Derived.Deep.RegionLaw
namespace Go.Proofs.YtlbioncagkkkoaaGreatDoor
open Go.RowKit Go.Maps
set_option linter.unusedVariables false
set_option linter.unusedSimpArgs false

set_option maxRecDepth 100000 in
set_option maxHeartbeats 1000000 in
theorem fill1_any (k lv : Int) (i t d ti id : ByteArray) (ac ap al ak : Option Addr) (nc cc np cp nl cl nk ck : Nat) (w : World) :
    Calls Tryz.prog 35 #[.agg #[.int .i64 k, .int .i64 lv, .string i, .string t, .string d, .string ti, .string id, .slice ac nc cc, .slice ap np cp, .slice al nl cl, .slice ak nk ck]] w fun e w' => e = .returned (.slice none 0 0) ∧ Below w.heap.size w w' := by
  have HB := Lib.hid ((Below.refl w.heap.size w).alloc (Nat.le_refl _) (.cells #[.int .i64 k, .int .i64 lv, .string i, .string t, .string d, .string ti, .string id, .slice ac nc cc, .slice ap np cp, .slice al nl cl, .slice ak nk ck] 53))
  go_enter Tryz.func35, Tryz.ntmps35
  go_wp2
  go_ret
  exact ⟨rfl, HB.out⟩
def FI1 (N pM : Nat) (o : Option Obj) (Fz : Nat → Prop) (wx : World) : Prop := (∀ b, ¬ Fz b) ∧ N ≤ wx.heap.size ∧ wx.heap[pM]? = o
theorem kids1 {N pM : Nat} {o : Option Obj} (h : pM < N) : KidsC 35 #[] (fun _ => []) N pM (FI1 N pM o) where
  ent := ent1
  lt := fun Fz w hf b hb => (hf.1 b hb).elim
  nlt := fun Fz w hf => hf.2.1
  pm := h
  keep := fun Fz w w' hf hb hs _ => ⟨hf.1, Nat.le_trans hf.2.1 hs, (hb pM (.inl h)).trans hf.2.2⟩
  call := fun Fz w k lv i t d ti at_ ac ap al ak nc cc np cp nl cl nk ck hf hA => by
    refine (fill1_any k lv i t d ti at_.id ac ap al ak nc cc np cp nl cl nk ck w).mono ?_
    rintro e w' ⟨rfl, hb⟩
    exact ⟨.slice none 0 0, Fz, rfl, Rd.nil_mk _ _ _, grown_any (grown_below hb) _, ⟨hf.1, Nat.le_trans hf.2.1 hb.size, (hb.block pM (Nat.lt_of_lt_of_le h hf.2.1)).trans hf.2.2⟩, fun b h => h, fun b h => .inl h⟩
theorem kids2 {N mb p5 p4 : Nat} {v2 : Value} {all : List En} (h1 : mb < N) (h2 : p5 < N) (h3 : p4 < N) (h5 : p5 ≠ mb) (h4 : p4 ≠ mb) (hok : EnsOk all) :
    KidsC 36 #[.pointer (some ⟨p5, 0, none⟩), .pointer (some ⟨p4, 0, none⟩)] (fun a => listR (uptoE all (depthOf a))) N mb (FlS N mb p5 p4 v2 all) where
  ent := ent2
  lt := fun Fz w hf b hb => (hf.lt b hb).2
  nlt := fun Fz w hf => hf.n
  pm := h1
  keep := fun Fz w w' hf hb hs _ => hf.keep h1 h2 h3 hb hs
  call := fun Fz w k lv i t d ti at_ ac ap al ak nc cc np cp nl cl nk ck hf hA => fill2_any h1 h2 h3 h5 h4 hok Fz w k lv i t d ti at_ ac ap al ak nc cc np cp nl cl nk ck hf hA

theorem one_prsG (l : List Pr) (rs : List (List Value)) (ok : Nat → Prop) (w : World) (h : RdL ok w (l.map Pr.d) rs) : ∀ u ∈ rs.flatten, u.oneCell' = true := by
  intro u hu
  obtain ⟨r, hr, hu⟩ := List.mem_flatten.1 hu
  obtain ⟨j, hj, rfl⟩ := List.mem_iff_getElem.1 hr
  have hj2 : j < (l.map Pr.d).length := by rw [← h.len]; exact hj
  obtain ⟨r', hr', hd⟩ := h.get j _ (List.getElem?_eq_getElem hj2)
  rw [List.getElem?_eq_getElem hj] at hr'
  obtain rfl := Option.some.inj hr'
  rw [List.getElem_map] at hd
  rw [Pr.open_ hd] at hu
  simp at hu
  rcases hu with rfl | rfl <;> rfl
/-- The document's box, the result's, and all older blocks. -/
structure FdB (S : Nat) (vm vb : Value) (w wz : World) : Prop where
  d : CB 25 S [vm, vb] wz
  r : CB 25 (S + 1) [.slice none 0 0, .slice none 0 0] wz
  bel : Below S w wz
theorem FdB.grown {S : Nat} {vm vb : Value} {w wz wy : World} {row : Option Nat} (h : FdB S vm vb w wz) (hg : wz.grownBy wy row) (hr : ∀ g, row = some g → S + 2 ≤ g) : FdB S vm vb w wy :=
  ⟨cb_grown h.d hg (fun e => by have := hr S e.symm; omega), cb_grown h.r hg (fun e => by have := hr (S + 1) e.symm; omega), h.bel.grown hg (Nat.le_of_lt h.d.lt) (fun g e => by have := hr g e; omega)⟩
def FillPost (w : World) (me : List Pr) (l : List Blk) (e : Ending) (w' : World) : Prop :=
  ∃ vm' vb', e = .returned (.agg #[vm', vb']) ∧ Rd (w.heap.size ≤ ·) w' (prsD me) [vm'] ∧ Rd (w.heap.size ≤ ·) w' (blksD l) [vb'] ∧ Below w.heap.size w w'

set_option maxRecDepth 100000 in
set_option maxHeartbeats 8000000 in
theorem fill_any (me : List Pr) (l : List Blk) (vm vb : Value) (w : World) (hm : Rd (· < w.heap.size) w (prsD me) [vm]) (hb : Rd (· < w.heap.size) w (blksD l) [vb]) (hd : DocW (bareL l)) (hok : EnsOk (allE l)) (hbd : Blk.bdL l) (hsz : Blk.szL l ≤ 1000000) (hme : me.length ≤ 1000000) (hPT : PT w) :
    Calls Tryz.prog 13 #[.agg #[vm, vb]] w (FillPost w me (fillL l)) := by
  obtain ⟨iP, hiP, hzP0, hzP1, hzP2⟩ := info_parts infoPr
  obtain ⟨am, cm, hvm, hsm⟩ := Rd.sl_open hm
  obtain ⟨mn, hmn⟩ : ∃ mn, mn = me.length := ⟨_, rfl⟩
  obtain rfl : vm = .slice am mn cm := by rw [hmn]; simpa using hvm
  obtain ⟨ab, nb, cb, rfl⟩ := Rd.slf hb
  obtain ⟨S, hS⟩ : ∃ S, S = w.heap.size := ⟨_, rfl⟩
  obtain ⟨W0, hW0⟩ : ∃ W, W = (w.alloc (.cells #[.slice am mn cm, .slice ab nb cb] 25)).alloc (.cells #[.slice none 0 0, .slice none 0 0] 25) := ⟨_, rfl⟩
  have z0 : W0.heap.size = S + 2 := by rw [hW0, hS]; simp
  have D0 : FdB S (.slice am mn cm) (.slice ab nb cb) w W0 := by
    refine ⟨?_, ?_, ?_⟩
    · rw [hW0, hS]; exact cb_grown (CB.new _ _ w) (World.grownBy_alloc _ _ none) (by simp)
    · have := CB.new 25 [.slice none 0 0, .slice none 0 0] (w.alloc (.cells #[.slice am mn cm, .slice ab nb cb] 25))
      rw [World.size_alloc] at this
      rw [hW0, hS]; exact this
    · rw [hW0, hS]; exact ((Below.refl _ _).alloc (Nat.le_refl _) _).alloc (by simp) _
  have HMS : Hid (Rd (· < S) w (prsD me) [.slice am mn cm]) := by rw [hS]; exact hm
  have HBS : Hid (Rd (· < S) w (blksD l) [.slice ab nb cb]) := by rw [hS]; exact hb
  have W1 := Lib.hid (withKids_any (kids1 (N := S + 2) (pM := S) (o := W0.heap[S]?) (by omega)) 1000000 l S (.slice ab nb cb) (fun _ => False) W0 hsz (Nat.le_refl _) (HBS.out.below D0.bel) (Nat.le_refl _) hbd ⟨fun b h => h, by omega, rfl⟩)
  have HD := Lib.hid hd
  have HOK := Lib.hid hok
  have HBD := Lib.hid hbd
  have HPT := Lib.hid hPT
  have HS := Lib.hid hS
  have HD0 := Lib.hid D0
  have HW0 := Lib.hid hW0
  have HMN := Lib.hid hmn
  have Z0 := Lib.hid z0
  have hmm := @run_makeMap Tryz.prog
  have hsz' := hsz
  clear hm hb hd hok hbd hPT hvm hsm D0 hS hW0 hmn z0
  go_enter Tryz.func13, Tryz.ntmps13
  go_upto_region 1 with (fail)
  rw [← HS.out, ← HW0.out]
  have x1 := HD0.out.d.cell 1 _ rfl
  go_wp2_with fail
  refine W1.out.mono ?_
  rintro e w1 ⟨v1, F1, rfl, hb1, hg1, ⟨hf1, hn1, ho1⟩, -, -⟩
  have b1 : Below W0.heap.size W0 w1 := ⟨hg1.os, hg1.tape, hg1.output, hg1.size, fun b hb => by
    by_cases e : b = S
    · rw [e]; exact ho1
    · exact hg1.block b hb (fun e' => e (Option.some.inj e'))⟩
  obtain ⟨a1, n1, c1, rfl⟩ := Rd.slf hb1
  have D1 := Lib.hid (HD0.out.grown (grown_below b1) (by simp))
  have hpt1 : PT w1 := HPT.out.grown (grown_below (by rw [← HS.out]; exact D1.out.bel : Below w.heap.size w w1)) (by simp)
  have OF := Lib.hid (of_any (bareL l) (.slice none 0 0) (.slice a1 n1 c1) 6 w1 ⟨_, _, _, rfl⟩ (hb1.inside.weaken (fun b hb => hb.2)) HD.out hpt1)
  have hz1 := b1.size
  clear W1 hb1 hg1 hf1 hn1 ho1 b1 x1 HD HPT hpt1
  go_wp2_with fail
  (with_reducible refine OF.out.mono ?_)
  rintro e w2 ⟨v2, rfl, hE2, b2⟩
  change Rd (w1.heap.size ≤ ·) w2 (ensD (allE l)) [v2] at hE2
  obtain ⟨a2, n2, c2, rfl⟩ := Rd.slf hE2
  obtain ⟨p4, hp4⟩ : ∃ p4, p4 = w2.heap.size := ⟨_, rfl⟩
  obtain ⟨W3, hW3⟩ : ∃ W, W = ((w2.alloc (.cells #[.slice a2 n2 c2] 29)).alloc (.map #[] 0)).alloc (.cells #[.map (some (p4 + 1))] 71) := ⟨_, rfl⟩
  have z3 : W3.heap.size = p4 + 3 := by rw [hW3, hp4]; simp
  have g3 : w2.grownBy W3 none := by rw [hW3]; exact grown_trans (grown_trans (World.grownBy_alloc _ _ none) (World.grownBy_alloc _ _ none)) (World.grownBy_alloc _ _ none)
  have k4 : CB 29 p4 [.slice a2 n2 c2] W3 := by
    rw [hW3, hp4]
    exact cb_grown (cb_grown (CB.new _ _ w2) (World.grownBy_alloc _ _ none) (by simp)) (World.grownBy_alloc _ _ none) (by simp)
  have k5 : CB 71 (p4 + 2) [.map (some (p4 + 1))] W3 := by
    have := CB.new 71 [.map (some (p4 + 1))] ((w2.alloc (.cells #[.slice a2 n2 c2] 29)).alloc (.map #[] 0))
    rw [World.size_alloc, World.size_alloc, ← hp4] at this
    rw [hW3]; exact this
  have mv : ValAt W3 (p4 + 1) 0 (fun _ => none) := by
    have h1 := ValAt.made (w2.alloc (.cells #[.slice a2 n2 c2] 29))
    rw [World.size_alloc, ← hp4] at h1
    rw [hW3]
    exact h1.same (Below.heap_alloc _ _ (p4 + 1) (by simp; omega))
  have hz2 := b2.size
  have en3 : Rd (fun b => b < p4 + 3 ∧ b ≠ p4 + 1) W3 (ensD (allE l)) [.slice a2 n2 c2] :=
    Rd.keep (ok := fun b => w1.heap.size ≤ b ∧ b < w2.heap.size) (w := w2) (fun b hb hlt => ⟨⟨by omega, by omega⟩, g3.block b hlt (by simp)⟩) _ _ hE2.inside
  have F3 : FlS (p4 + 3) (p4 + 1) (p4 + 2) p4 (.slice a2 n2 c2) (allE l) (fun _ => False) W3 :=
    ⟨by omega, fun b h => h.elim, k5, k4, en3, 0, _, mv, Nat.zero_le _, fun d v h => by cases h⟩
  have D3 := Lib.hid ((D1.out.grown (grown_below b2) (by simp)).grown g3 (by simp))
  have HF3 := Lib.hid F3
  have hSp : S + 2 ≤ p4 := by have := Z0.out; omega
  have hF3n : p4 + 3 ≤ W3.heap.size := by omega
  clear hE2 b2 g3 k4 k5 mv en3 F3 OF D1 hz2
  have HP4 := Lib.hid hp4
  have HW3 := Lib.hid hW3
  have Z3 := Lib.hid z3
  have hmn2 : mn ≤ 1000000 := by rw [HMN.out]; exact hme
  have META : Hid (∀ wz : World, Below S w wz → Rd (fun b => b < S ∨ wz.heap.size ≤ b) wz (.sl 2 (me.map Pr.d)) [.slice am mn cm]) := fun wz h => (HMS.out.below h).weaken (fun b hb => .inl hb)
  have WK : Hid (∀ wz : World, FlS (p4 + 3) (p4 + 1) (p4 + 2) p4 (.slice a2 n2 c2) (allE l) (fun _ => False) wz → Below S w wz → Calls Tryz.prog 34 #[.slice ab nb cb, .func (.func 36) #[] #[.pointer (some ⟨p4 + 2, 0, none⟩), .pointer (some ⟨p4, 0, none⟩)]] wz (KcPost (FlS (p4 + 3) (p4 + 1) (p4 + 2) p4 (.slice a2 n2 c2) (allE l)) (p4 + 1) (fun _ => False) wz (fillL l))) :=
    fun wz hf hb => withKids_any (kids2 (by omega) (by omega) (by omega) (by omega) (by omega) HOK.out) 1000000 l S _ _ wz hsz' (Nat.le_refl _) (HBS.out.below hb) (by omega) HBD.out hf
  have HN0 : Hid (([] : List D).length = 0) := rfl
  have HNM : Hid ((me.map Pr.d).length = mn) := by show _ = _; rw [List.length_map, HMN.out]
  have HFd := Lib.hid (show FlS (p4 + 3) (p4 + 1) (p4 + 2) p4 (.slice a2 n2 c2) (allE l) (fun _ => False) W3.drew from HF3.out.grown (by omega) (by omega) (by omega) ⟨rfl, rfl, rfl, Nat.le_refl _, fun _ _ _ => rfl⟩)
  have HDd := Lib.hid (show FdB S (.slice am mn cm) (.slice ab nb cb) w W3.drew from ⟨D3.out.d, D3.out.r, D3.out.bel.drew⟩)
  have FINAL : Hid (∀ (wE : World) (a5 : Option Addr) (c5 : Nat) (a7 : Option Addr) (n7 c7 : Nat), FdB S (.slice am mn cm) (.slice ab nb cb) w wE → Rd (p4 ≤ ·) wE (prsD me) [.slice a5 mn c5] → Rd (p4 ≤ ·) wE (blksD (fillL l)) [.slice a7 n7 c7] →
      FillPost w me (fillL l) (.returned (.agg #[.slice a5 mn c5, .slice a7 n7 c7])) ((wE.setCell ⟨S + 1, 0, none⟩ (.slice a5 mn c5)).setCell ⟨S + 1, 1, none⟩ (.slice a7 n7 c7)) ∧
      CB 25 (S + 1) [.slice a5 mn c5, .slice a7 n7 c7] ((wE.setCell ⟨S + 1, 0, none⟩ (.slice a5 mn c5)).setCell ⟨S + 1, 1, none⟩ (.slice a7 n7 c7))) := by
    intro wE a5 c5 a7 n7 c7 hD hM hB
    have far : ∀ b, b ≠ S + 1 → ((wE.setCell ⟨S + 1, 0, none⟩ (.slice a5 mn c5)).setCell ⟨S + 1, 1, none⟩ (.slice a7 n7 c7)).heap[b]? = wE.heap[b]? := fun b hb => (Below.heap_setCell _ ⟨S + 1, 1, none⟩ _ b hb).trans (Below.heap_setCell _ ⟨S + 1, 0, none⟩ _ b hb)
    refine ⟨⟨_, _, rfl, ?_, ?_, ?_⟩, cb_set (cb_set hD.r 0 _) 1 _⟩
    · exact Rd.keep (ok := (p4 ≤ ·)) (w := wE) (fun b (hb : p4 ≤ b) _ => ⟨by rw [← HS.out]; omega, far b (by omega)⟩) _ _ hM
    · exact Rd.keep (ok := (p4 ≤ ·)) (w := wE) (fun b (hb : p4 ≤ b) _ => ⟨by rw [← HS.out]; omega, far b (by omega)⟩) _ _ hB
    · rw [← HS.out]
      exact (hD.bel.setCell (p := ⟨S + 1, 0, none⟩) (Nat.le_succ S) _).setCell (p := ⟨S + 1, 1, none⟩) (Nat.le_succ S) _
  clear hp4 hW3 z3
  go_upto_region 5 with (fail)
  rw [← HP4.out, show p4 + 1 + 1 = p4 + 2 from rfl, ← HW3.out]
  have x0 := D3.out.d.cell 0 _ rfl
  have x1 := D3.out.d.cell 1 _ rfl
  have hz3 := Z3.out
  have HZ3 : Hid (p4 ≤ W3.heap.size) := by show p4 ≤ _; omega
  clear hz3 hmm
  go_region_law (first
    | (go_simp; go_at_call 34; (with_reducible refine (WK.out _ (by first | exact HFd.out | exact F5) (by first | exact HDd.out.bel | exact D5.bel)).mono ?_); rintro e w7 ⟨v7, F7, rfl, h7, g7, -, -, -⟩; obtain ⟨a7, n7, c7, rfl⟩ := Rd.slf h7; have D7 : FdB S (.slice am mn cm) (.slice ab nb cb) w w7 := (by first | exact FdB.grown D5 g7 (fun g e => by have := Option.some.inj e; omega) | exact HDd.out.grown g7 (fun g e => by have := Option.some.inj e; omega)); have y0 := D7.d.cell 0 _ rfl; have y1 := D7.d.cell 1 _ rfl; have u0 := D7.r.cell 0 _ rfl; have u1 := D7.r.cell 1 _ rfl; have f0 := cb_free D7.r 0; have f1 := cb_free D7.r 1)
    | (refine step_puts rfl (.const (.slice none 0 0)) (.tmp 16) 22 rfl iP _ 32 Tryz.underlying22 hiP hzP0 hzP1 hzP2 rfl (by decide) (RowU.nil 58 2 (fun b => b < S) _) (fun b hb => by first | exact Nat.lt_of_lt_of_le hb (Nat.le_of_lt (Nat.lt_trans (Nat.lt_succ_self S) HDd.out.r.lt)) | exact Nat.lt_of_lt_of_le hb (Nat.le_of_lt (Nat.lt_trans (Nat.lt_succ_self S) D7.r.lt))) (.slice am mn cm) (META.out _ (by first | exact HDd.out.bel | exact D7.bel)) (fun rs ok' h => one_prsG me rs ok' _ h) HN0.out HNM.out (by omega) (by decide) rfl rfl ?_; intro a5 c5 rows5 w5 hrow5 hg5; rw [Nat.zero_add] at *; have D5 : FdB S (.slice am mn cm) (.slice ab nb cb) w w5 := (by first | exact FdB.grown D7 hg5 (fun g e => by cases e) | exact HDd.out.grown hg5 (fun g e => by cases e)); have F5 := (by first | exact HFd.out.grown (by omega) (by omega) (by omega) hg5 | exact True.intro); have y0 := D5.d.cell 0 _ rfl; have y1 := D5.d.cell 1 _ rfl; have u0 := D5.r.cell 0 _ rfl; have u1 := D5.r.cell 1 _ rfl; have f0 := cb_free D5.r 0; have f1 := cb_free D5.r 1))
  all_goals
    have hp43 := HZ3.out
    first
    | (have hg5' : World.grownBy w7 w5 none := hg5
       have g7' : World.grownBy W3.drew w7 (some (p4 + 1)) := g7
       have hz7 : W3.heap.size ≤ w7.heap.size := g7'.size
       have hzz := Z3.out
       have VM5 : Rd (p4 ≤ ·) w5 (prsD me) [.slice a5 mn c5] := Rd.sl_own (rows := rows5) (B := w7.heap.size) (e := 58) hrow5.own hrow5.red.prs_any hrow5.len (fun g hg => by have := (hrow5.own.lt g hg).1; omega)
       have VB5 : Rd (p4 ≤ ·) w5 (blksD (fillL l)) [.slice a7 n7 c7] := Rd.keep (ok := (W3.heap.size ≤ ·)) (w := w7) (fun b (hb : W3.heap.size ≤ b) hlt => ⟨by omega, hg5'.block b hlt (by simp)⟩) _ _ h7
       obtain ⟨FP, FC⟩ := FINAL.out w5 a5 c5 a7 n7 c7 D5 VM5 VB5
       have FP := Lib.hid FP
       have FC := Lib.hid FC
       clear VM5 VB5 D5 D7 F5 h7 g7 hg5 hrow5 hzz
       go_wp2_with fail
       have r0 := FC.out.cell 0 _ rfl
       have r1 := FC.out.cell 1 _ rfl
       exact bodyPost_ret (v := .agg #[.slice a5 mn c5, .slice a7 n7 c7]) (by simp [results, Tryz.results13, go_sem, r0, r1]) rfl FP.out)
    | (have g7' : World.grownBy w5 w7 (some (p4 + 1)) := g7
       have hg5' : World.grownBy W3.drew w5 none := hg5
       have hz5 : W3.heap.size ≤ w5.heap.size := hg5'.size
       have hzz := Z3.out
       have VM5 : Rd (W3.heap.size ≤ ·) w5 (prsD me) [.slice a5 mn c5] := Rd.sl_own (rows := rows5) (B := W3.heap.size) (e := 58) hrow5.own hrow5.red.prs_any hrow5.len (fun g hg => (hrow5.own.lt g hg).1)
       have VM7 : Rd (p4 ≤ ·) w7 (prsD me) [.slice a5 mn c5] := Rd.keep (ok := (W3.heap.size ≤ ·)) (w := w5) (fun b (hb : W3.heap.size ≤ b) hlt => ⟨by omega, g7'.block b hlt (fun e => by have := Option.some.inj e; omega)⟩) _ _ VM5
       have VB7 : Rd (p4 ≤ ·) w7 (blksD (fillL l)) [.slice a7 n7 c7] := h7.weaken (fun b hb => by have h9 : w5.heap.size ≤ b := hb; omega)
       obtain ⟨FP, FC⟩ := FINAL.out w7 a5 c5 a7 n7 c7 D7 VM7 VB7
       have FP := Lib.hid FP
       have FC := Lib.hid FC
       clear VM5 VM7 VB7 D5 D7 F5 h7 g7 hg5 hrow5 hzz
       go_wp2_with fail
       have r0 := FC.out.cell 0 _ rfl
       have r1 := FC.out.cell 1 _ rfl
       exact bodyPost_ret (v := .agg #[.slice a5 mn c5, .slice a7 n7 c7]) (by simp [results, Tryz.results13, go_sem, r0, r1]) rfl FP.out)
end Go.Proofs.YtlbioncagkkkoaaGreatDoor

namespace Go.Proofs.YtlbioncagkkkoaaGreatDoor
open Go.RowKit
set_option linter.unusedVariables false
set_option linter.unusedSimpArgs false

def awLn : List Inl := [txI ⟨#[65, 32]⟩, .mk 9 ⟨#[]⟩ ⟨#[120]⟩ ⟨#[]⟩ at0 [] [] [.mk 6 ⟨#[]⟩ ⟨#[]⟩ ⟨#[]⟩ at0 [] [] [txI ⟨#[98]⟩]], .mk 12 ⟨#[110]⟩ ⟨#[]⟩ ⟨#[]⟩ at0 [] [] []]
def awA : At := ⟨⟨#[97]⟩, [], []⟩
def awH : Blk := .mk 2 1 ⟨#[]⟩ ⟨#[]⟩ ⟨#[]⟩ ⟨#[]⟩ awA awLn []
def awD : Blk := .mk 13 0 tocS ⟨#[]⟩ ⟨#[]⟩ ⟨#[]⟩ at0 [] []
def awT : List Blk := [awH, awD]
theorem aw_ent : entL awLn = [txI ⟨#[65, 32]⟩, .mk 6 ⟨#[]⟩ ⟨#[]⟩ ⟨#[]⟩ at0 [] [] [txI ⟨#[98]⟩]] := by rfl
theorem aw_val : valS (cntUp ns0.c 1) 1 = ⟨#[49]⟩ := by
  have e : (cntUp ns0.c 1).take 1 = [1] := by rfl
  unfold valS
  rw [e]
  simp only [List.map_cons, List.map_nil]
  rw [Lib.decDigits_one (show 1 < 10 by decide)]
  rfl
theorem aw_one : (Blk.numL true ns0 awT).out = [⟨⟨#[97]⟩, secS, ⟨#[49]⟩, awLn⟩] := by
  rw [← aw_val]
  rfl
theorem aw_notes : notesL awT = [] := by rfl
theorem aw_nums : numsL awT = [⟨⟨#[97]⟩, secS, ⟨#[49]⟩, awLn⟩] := by
  unfold numsL
  rw [aw_one, aw_notes]; rfl
def awE1 : En := ⟨1, ⟨#[97]⟩, ⟨#[49]⟩, [txI ⟨#[65, 32]⟩, .mk 6 ⟨#[]⟩ ⟨#[]⟩ ⟨#[]⟩ at0 [] [] [txI ⟨#[98]⟩]], []⟩
theorem aw_toc (n : Int) (h : 1 ≤ n) : tocL (numsL awT) n = [awE1] := by
  have hs : shownB n ⟨⟨#[97]⟩, secS, ⟨#[49]⟩, awLn⟩ = true := by
    have h1 : levB ⟨#[49]⟩ = 1 := by rfl
    unfold shownB
    rw [h1]
    simp [h]
    rfl
  rw [aw_nums]
  unfold tocL
  rw [List.filter_cons, if_pos hs, List.filter_nil, List.map_singleton]
  unfold entOf awE1
  rw [aw_ent]; rfl
theorem aw_toc0 : tocL (numsL awT) 0 = [] := by
  have hs : shownB 0 ⟨⟨#[97]⟩, secS, ⟨#[49]⟩, awLn⟩ = false := by
    have h1 : levB ⟨#[49]⟩ = 1 := by rfl
    unfold shownB
    rw [h1]
    simp
  rw [aw_nums]
  unfold tocL
  rw [List.filter_cons, if_neg (by rw [hs]; simp), List.filter_nil]; rfl
theorem aw_bare : bareL awT = awT := by rfl
theorem aw_allE : allE awT = [awE1] := by
  unfold allE
  rw [aw_bare, aw_toc 6 (by decide)]
theorem aw_fill : fillL awT = [awH, .mk 13 0 tocS ⟨#[]⟩ ⟨#[]⟩ ⟨#[]⟩ at0 [] (listR [awE1])] := by
  have h : fillK awT at0 = listR [awE1] := by
    unfold fillK
    rw [aw_allE]; rfl
  rw [← h]; rfl
theorem aw_list1 : listR [awE1] = [.mk 7 0 ⟨#[]⟩ ⟨#[]⟩ ⟨#[]⟩ ⟨#[]⟩ at0 [] [itemB awE1 []]] := by
  unfold listR
  rw [itemsR_cons, List.takeWhile_nil, List.dropWhile_nil, itemsR_nil]
  unfold listR
  rw [itemsR_nil]; rfl
def awEn (n : Int) : En := ⟨n, ⟨#[]⟩, ⟨#[]⟩, [], []⟩
def awEs : List En := [awEn 1, awEn 2, awEn 1]
theorem aw_list3 : ∃ i2, listR awEs = [.mk 7 0 ⟨#[]⟩ ⟨#[]⟩ ⟨#[]⟩ ⟨#[]⟩ at0 [] [itemB (awEn 1) [i2], itemB (awEn 1) []]] := by
  refine ⟨.mk 7 0 ⟨#[]⟩ ⟨#[]⟩ ⟨#[]⟩ ⟨#[]⟩ at0 [] [itemB (awEn 2) []], ?_⟩
  have t1 : [awEn 2, awEn 1].takeWhile (awEn 1).over = [awEn 2] := by rfl
  have t2 : [awEn 2, awEn 1].dropWhile (awEn 1).over = [awEn 1] := by rfl
  have l0 : listR ([] : List En) = [] := by unfold listR; rw [itemsR_nil]; rfl
  have l2 : listR [awEn 2] = [.mk 7 0 ⟨#[]⟩ ⟨#[]⟩ ⟨#[]⟩ ⟨#[]⟩ at0 [] [itemB (awEn 2) []]] := by
    unfold listR
    rw [itemsR_cons, List.takeWhile_nil, List.dropWhile_nil, itemsR_nil, l0]; rfl
  unfold awEs listR
  rw [itemsR_cons, t1, t2, l2, itemsR_cons, List.takeWhile_nil, List.dropWhile_nil, itemsR_nil, l0]; rfl
theorem sh_nil (n : Int) : ShOk (awEn n) := by
  have h : shKids (awEn n) = [] := by rfl
  refine ⟨by rw [h]; simp [Inl.szL], by rw [h]; simp [Inl.bdL], by rw [h]; simp [Inl.txBL], ?_, ?_, by simp [awEn, Inl.bdL], by simp [awEn, Inl.szL]⟩
  · show (⟨#[]⟩ : ByteArray).size ≤ 1000000; decide
  · show (⟨#[]⟩ : ByteArray).size ≤ 100000; decide
theorem aw_ens : EnsOk awEs := ⟨by decide, fun x hx => by
  simp [awEs] at hx
  rcases hx with rfl | rfl | rfl <;> exact sh_nil _⟩
theorem aw_sh1 : ShOk awE1 := by
  have h : shKids awE1 = [txI ⟨#[49, 32]⟩, txI ⟨#[65, 32]⟩, .mk 6 ⟨#[]⟩ ⟨#[]⟩ ⟨#[]⟩ at0 [] [] [txI ⟨#[98]⟩]] := by rfl
  refine ⟨by rw [h]; decide, by rw [h]; simp [Inl.bdL, Inl.bd, txI, at0, Inl.szL, Inl.sz], ?_, by decide, by decide, by simp [awE1, Inl.bdL, Inl.bd, txI, at0, Inl.szL, Inl.sz], by decide⟩
  rw [h]
  simp [Inl.txBL, Inl.txB, txI]
  decide
theorem aw_ens1 : EnsOk (allE awT) := by
  rw [aw_allE]
  exact ⟨by decide, fun x hx => by
    simp at hx; subst hx; exact aw_sh1⟩
theorem aw_docW : DocW awT where
  bd := by simp [awT, awH, awD, Blk.bdL, Blk.bd, awA, at0, awLn, Inl.bdL, Inl.bd, txI, Inl.szL, Inl.sz]
  sz := by decide
  ln := by decide
  info := by
    intro b hb
    have e : Blk.eachL awT = [awH, awD] := by rfl
    rw [e] at hb
    simp at hb
    rcases hb with rfl | rfl
    · show (⟨#[]⟩ : ByteArray).size ≤ 1000; decide
    · show tocS.size ≤ 1000; decide
  tx := by
    intro x hx
    have e : Blk.inlsL awT = [txI ⟨#[65, 32]⟩, .mk 9 ⟨#[]⟩ ⟨#[120]⟩ ⟨#[]⟩ at0 [] [] [.mk 6 ⟨#[]⟩ ⟨#[]⟩ ⟨#[]⟩ at0 [] [] [txI ⟨#[98]⟩]], .mk 6 ⟨#[]⟩ ⟨#[]⟩ ⟨#[]⟩ at0 [] [] [txI ⟨#[98]⟩], txI ⟨#[98]⟩, .mk 12 ⟨#[110]⟩ ⟨#[]⟩ ⟨#[]⟩ at0 [] [] []] := by rfl
    rw [e] at hx
    simp at hx
    rcases hx with rfl | rfl | rfl | rfl | rfl <;> decide
  lines := by
    intro b hb
    have e : Blk.eachL awT = [awH, awD] := by rfl
    rw [e] at hb
    simp at hb
    rcases hb with rfl | rfl
    · refine ⟨by decide, by simp [awH, Blk.lineOf, awLn, Inl.bdL, Inl.bd, txI, at0, Inl.szL, Inl.sz], ?_, ?_, by decide⟩
      · simp [awH, Blk.lineOf, awLn, Inl.txBL, Inl.txB, txI]
        decide
      · simp [awH, Blk.lineOf, awLn, Inl.kdwL, Inl.kdw, txI]
    · exact LnOk.nil
end Go.Proofs.YtlbioncagkkkoaaGreatDoor
