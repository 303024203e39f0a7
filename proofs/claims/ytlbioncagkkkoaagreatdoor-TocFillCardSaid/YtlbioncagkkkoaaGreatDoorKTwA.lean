/- The small case with which each statement of layer 24 ends: it answers true. -/
import Derived.Test.YtlbioncagkkkoaaGreatDoorKTwP
namespace Go.Proofs.YtlbioncagkkkoaaGreatDoor
open Go.RowKit
set_option linter.unusedVariables false
set_option linter.unusedSimpArgs false

/-- A slice of literal elements reads. -/
theorem litN {T : TypeId} {k n n1 : Nat} {w : World} {ds : List D} {rows : List (List Value)} (hn : ds.length = n) (hr : ∀ r ∈ rows, r.length = k) (hx : RdL (n1 ≤ ·) w ds rows) (h1 : n1 ≤ w.heap.size) (hm : n ≤ maxLen) :
    Rd (n1 ≤ ·) (w.alloc (.cells rows.flatten.toArray T)) (.sl k ds) [.slice (some ⟨w.heap.size, 0, none⟩) n n] := by
  subst hn
  have hl : rows.flatten.length = ds.length * k := by rw [flat_len k rows hr, hx.len]
  refine Rd.sl_own (rows := rows) (B := w.heap.size) (e := T) ⟨hl, .inr ⟨w.heap.size, ds.length, rows.flatten.toArray, rfl, Nat.le_refl _, heap_alloc_new w _, Nat.le_refl _, hm, by simp [hl], ?_⟩⟩ (RdL.keep (fun b hb hlt => ⟨hb, Below.heap_alloc w _ b hlt⟩) _ _ hx) hr (fun g hg => by
    have e1 : w.heap.size = g := by simpa [Value.ownBlock] using hg
    omega)
  show List.take _ rows.flatten = _
  rw [← hl]
  exact List.take_length
def tR (t : ByteArray) : List Value := [.int .i64 1, .string t, .string ⟨#[]⟩, .string ⟨#[]⟩, .string ⟨#[]⟩, .slice none 0 0, .slice none 0 0, .slice none 0 0, .slice none 0 0, .slice none 0 0]
def kR (k : Int) (t d : ByteArray) (g : Nat) : List Value := [.int .i64 k, .string t, .string d, .string ⟨#[]⟩, .string ⟨#[]⟩, .slice none 0 0, .slice none 0 0, .slice none 0 0, .slice none 0 0, .slice (some ⟨g, 0, none⟩) 1 1]
def nR : List Value := [.int .i64 12, .string ⟨#[110]⟩, .string ⟨#[]⟩, .string ⟨#[]⟩, .string ⟨#[]⟩, .slice none 0 0, .slice none 0 0, .slice none 0 0, .slice none 0 0, .slice none 0 0]
def hR (g : Nat) : List Value := [.int .i64 2, .int .i64 1, .string ⟨#[]⟩, .string ⟨#[]⟩, .string ⟨#[]⟩, .string ⟨#[]⟩, .string ⟨#[97]⟩, .slice none 0 0, .slice none 0 0, .slice (some ⟨g, 0, none⟩) 3 3, .slice none 0 0]
def dR : List Value := [.int .i64 13, .int .i64 0, .string ⟨#[116, 111, 99]⟩, .string ⟨#[]⟩, .string ⟨#[]⟩, .string ⟨#[]⟩, .string ⟨#[]⟩, .slice none 0 0, .slice none 0 0, .slice none 0 0, .slice none 0 0]
/-- The document laid in memory. -/
theorem aw_laid (w : World) (W1 W2 W3 W4 : World) (h1 : W1 = w.alloc (.cells [tR ⟨#[98]⟩].flatten.toArray 47)) (h2 : W2 = W1.alloc (.cells [kR 6 ⟨#[]⟩ ⟨#[]⟩ w.heap.size].flatten.toArray 47))
    (h3 : W3 = W2.alloc (.cells [tR ⟨#[65, 32]⟩, kR 9 ⟨#[]⟩ ⟨#[120]⟩ (w.heap.size + 1), nR].flatten.toArray 47)) (h4 : W4 = W3.alloc (.cells [hR (w.heap.size + 2), dR].flatten.toArray 53)) :
    Rd (w.heap.size ≤ ·) W4 (blksD awT) [.slice (some ⟨w.heap.size + 3, 0, none⟩) 2 2] := by
  have z1 : W1.heap.size = w.heap.size + 1 := by rw [h1, World.size_alloc]
  have z2 : W2.heap.size = w.heap.size + 2 := by rw [h2, World.size_alloc, z1]
  have z3 : W3.heap.size = w.heap.size + 3 := by rw [h3, World.size_alloc, z2]
  have r1 : Rd (w.heap.size ≤ ·) W1 (inlsD [txI ⟨#[98]⟩]) [.slice (some ⟨w.heap.size, 0, none⟩) 1 1] := by
    rw [h1]
    exact litN (k := 10) (ds := [txI ⟨#[98]⟩].map Inl.d) rfl (by simp [tR]) (RdL.one (tx_nil _ _ _)) (Nat.le_refl _) (by unfold maxLen; omega)
  have r2 : Rd (w.heap.size ≤ ·) W2 (inlsD [(.mk 6 ⟨#[]⟩ ⟨#[]⟩ ⟨#[]⟩ at0 [] [] [txI ⟨#[98]⟩] : Inl)]) [.slice (some ⟨w.heap.size + 1, 0, none⟩) 1 1] := by
    rw [h2, ← z1]
    exact litN (k := 10) (ds := [(.mk 6 ⟨#[]⟩ ⟨#[]⟩ ⟨#[]⟩ at0 [] [] [txI ⟨#[98]⟩] : Inl)].map Inl.d) rfl (by simp [kR]) (RdL.one (Inl.mk_ 6 ⟨#[]⟩ ⟨#[]⟩ ⟨#[]⟩ (a := at0) ⟨⟨Rd.nil_mk _ _ _, Rd.nil_mk _ _ _⟩, Rd.nil_mk _ _ _, Rd.nil_mk _ _ _, r1⟩)) (by omega) (by unfold maxLen; omega)
  have r3 : Rd (w.heap.size ≤ ·) W3 (inlsD awLn) [.slice (some ⟨w.heap.size + 2, 0, none⟩) 3 3] := by
    rw [h3, ← z2]
    exact litN (k := 10) (ds := awLn.map Inl.d) rfl (by simp [tR, kR, nR]) (RdL.cons (tx_nil _ _ _) (RdL.cons (Inl.mk_ 9 ⟨#[]⟩ ⟨#[120]⟩ ⟨#[]⟩ (a := at0) ⟨⟨Rd.nil_mk _ _ _, Rd.nil_mk _ _ _⟩, Rd.nil_mk _ _ _, Rd.nil_mk _ _ _, r2⟩)
      (RdL.one (Inl.mk_ 12 ⟨#[110]⟩ ⟨#[]⟩ ⟨#[]⟩ (a := at0) ⟨⟨Rd.nil_mk _ _ _, Rd.nil_mk _ _ _⟩, Rd.nil_mk _ _ _, Rd.nil_mk _ _ _, Rd.nil_mk _ _ _⟩)))) (by omega) (by unfold maxLen; omega)
  rw [h4, ← z3]
  exact litN (k := 11) (ds := awT.map Blk.d) rfl (by simp [hR, dR]) (RdL.cons (Blk.mk_ 2 1 ⟨#[]⟩ ⟨#[]⟩ ⟨#[]⟩ ⟨#[]⟩ (a := awA) ⟨⟨Rd.nil_mk _ _ _, Rd.nil_mk _ _ _⟩, r3, Rd.nil_mk _ _ _⟩)
    (RdL.one (Blk.mk_ 13 0 tocS ⟨#[]⟩ ⟨#[]⟩ ⟨#[]⟩ (a := at0) ⟨⟨Rd.nil_mk _ _ _, Rd.nil_mk _ _ _⟩, Rd.nil_mk _ _ _, Rd.nil_mk _ _ _⟩))) (by omega) (by unfold maxLen; omega)
def eR (n : Int) : List Value := [.int .i64 n, .string ⟨#[]⟩, .string ⟨#[]⟩, .slice none 0 0, .slice none 0 0]
theorem eR_rd (ok : Nat → Prop) (w : World) (n : Int) : Rd ok w (awEn n).d (eR n) := En.mk_ (awEn n) ⟨Rd.nil_mk _ _ _, Rd.nil_mk _ _ _⟩

set_option maxRecDepth 100000 in
set_option maxHeartbeats 8000000 in
theorem awake_any (w : World) (hPT : PT w) : Calls Tryz.prog 8 #[] w fun e w' => e = .returned (.bool true) ∧ Below w.heap.size w w' := by
  obtain ⟨S, hS⟩ : ∃ S, S = w.heap.size := ⟨_, rfl⟩
  obtain ⟨W5, hW5⟩ : ∃ W, W = (((((w.alloc (.cells #[.int .i64 1, .string ⟨#[98]⟩, .string ⟨#[]⟩, .string ⟨#[]⟩, .string ⟨#[]⟩, .slice none 0 0, .slice none 0 0, .slice none 0 0, .slice none 0 0, .slice none 0 0] 47)).alloc (.cells #[.int .i64 6, .string ⟨#[]⟩, .string ⟨#[]⟩, .string ⟨#[]⟩, .string ⟨#[]⟩, .slice none 0 0, .slice none 0 0, .slice none 0 0, .slice none 0 0, .slice (some ⟨S, 0, none⟩) 1 1] 47)).alloc (.cells #[.int .i64 1, .string ⟨#[65, 32]⟩, .string ⟨#[]⟩, .string ⟨#[]⟩, .string ⟨#[]⟩, .slice none 0 0, .slice none 0 0, .slice none 0 0, .slice none 0 0, .slice none 0 0, .int .i64 9, .string ⟨#[]⟩, .string ⟨#[120]⟩, .string ⟨#[]⟩, .string ⟨#[]⟩, .slice none 0 0, .slice none 0 0, .slice none 0 0, .slice none 0 0, .slice (some ⟨S + 1, 0, none⟩) 1 1, .int .i64 12, .string ⟨#[110]⟩, .string ⟨#[]⟩, .string ⟨#[]⟩, .string ⟨#[]⟩, .slice none 0 0, .slice none 0 0, .slice none 0 0, .slice none 0 0, .slice none 0 0] 47)).alloc (.cells #[.int .i64 2, .int .i64 1, .string ⟨#[]⟩, .string ⟨#[]⟩, .string ⟨#[]⟩, .string ⟨#[]⟩, .string ⟨#[97]⟩, .slice none 0 0, .slice none 0 0, .slice (some ⟨S + 2, 0, none⟩) 3 3, .slice none 0 0, .int .i64 13, .int .i64 0, .string ⟨#[116, 111, 99]⟩, .string ⟨#[]⟩, .string ⟨#[]⟩, .string ⟨#[]⟩, .string ⟨#[]⟩, .slice none 0 0, .slice none 0 0, .slice none 0 0, .slice none 0 0] 53)).alloc (.cells #[.slice none 0 0, .slice (some ⟨S + 3, 0, none⟩) 2 2] 25)) := ⟨_, rfl⟩
  have z5 : W5.heap.size = S + 5 := by rw [hW5, hS]; simp
  have b5 : Below S w W5 := by
    rw [hW5, hS]
    exact (((((Below.refl _ w).alloc (Nat.le_refl _) _).alloc (by simp) _).alloc (by simp; omega) _).alloc (by simp; omega) _).alloc (by simp; omega) _
  have hL : Rd (S ≤ ·) W5 (blksD awT) [.slice (some ⟨S + 3, 0, none⟩) 2 2] := by
    have h := aw_laid w _ _ _ _ rfl rfl rfl rfl
    rw [← hS] at h
    have h2 := h.up0 ((Below.refl _ _).alloc (Nat.le_refl _) (.cells #[.slice none 0 0, .slice (some ⟨S + 3, 0, none⟩) 2 2] 25))
    rw [hW5]
    rw [hS]
    rw [hS] at h2
    exact h2
  have kD : CB 25 (S + 4) [.slice none 0 0, .slice (some ⟨S + 3, 0, none⟩) 2 2] W5 := by
    have := CB.new 25 [.slice none 0 0, .slice (some ⟨S + 3, 0, none⟩) 2 2] ((((w.alloc (.cells #[.int .i64 1, .string ⟨#[98]⟩, .string ⟨#[]⟩, .string ⟨#[]⟩, .string ⟨#[]⟩, .slice none 0 0, .slice none 0 0, .slice none 0 0, .slice none 0 0, .slice none 0 0] 47)).alloc (.cells #[.int .i64 6, .string ⟨#[]⟩, .string ⟨#[]⟩, .string ⟨#[]⟩, .string ⟨#[]⟩, .slice none 0 0, .slice none 0 0, .slice none 0 0, .slice none 0 0, .slice (some ⟨S, 0, none⟩) 1 1] 47)).alloc (.cells #[.int .i64 1, .string ⟨#[65, 32]⟩, .string ⟨#[]⟩, .string ⟨#[]⟩, .string ⟨#[]⟩, .slice none 0 0, .slice none 0 0, .slice none 0 0, .slice none 0 0, .slice none 0 0, .int .i64 9, .string ⟨#[]⟩, .string ⟨#[120]⟩, .string ⟨#[]⟩, .string ⟨#[]⟩, .slice none 0 0, .slice none 0 0, .slice none 0 0, .slice none 0 0, .slice (some ⟨S + 1, 0, none⟩) 1 1, .int .i64 12, .string ⟨#[110]⟩, .string ⟨#[]⟩, .string ⟨#[]⟩, .string ⟨#[]⟩, .slice none 0 0, .slice none 0 0, .slice none 0 0, .slice none 0 0, .slice none 0 0] 47)).alloc (.cells #[.int .i64 2, .int .i64 1, .string ⟨#[]⟩, .string ⟨#[]⟩, .string ⟨#[]⟩, .string ⟨#[]⟩, .string ⟨#[97]⟩, .slice none 0 0, .slice none 0 0, .slice (some ⟨S + 2, 0, none⟩) 3 3, .slice none 0 0, .int .i64 13, .int .i64 0, .string ⟨#[116, 111, 99]⟩, .string ⟨#[]⟩, .string ⟨#[]⟩, .string ⟨#[]⟩, .string ⟨#[]⟩, .slice none 0 0, .slice none 0 0, .slice none 0 0, .slice none 0 0] 53))
    rw [World.size_alloc, World.size_alloc, World.size_alloc, World.size_alloc, ← hS] at this
    rw [hW5]; exact this
  have HL := Lib.hid hL
  have KD := Lib.hid kD
  have B5 := Lib.hid b5
  have HPT := Lib.hid hPT
  have HS := Lib.hid hS
  have HW5 := Lib.hid hW5
  have Z5 := Lib.hid z5
  clear hL kD b5 hPT hS hW5 z5
  go_enter Tryz.func8, Tryz.ntmps8
  go_upto_region 3 with (fail)
  rw [← HS.out, show S + 1 + 1 = S + 2 from rfl, show S + 2 + 1 = S + 3 from rfl, show S + 3 + 1 = S + 4 from rfl, ← HW5.out]
  have hz5 : W5.heap.size = S + 5 := Z5.out
  have PT5 : Hid (PT W5) := HPT.out.grown (grown_below (by rw [← HS.out]; exact B5.out : Below w.heap.size w W5)) (by simp)
  have OF := Lib.hid (of_any awT (.slice none 0 0) (.slice (some ⟨S + 3, 0, none⟩) 2 2) 3 W5 ⟨_, _, _, rfl⟩ (HL.out.inside.weaken (fun b hb => hb.2)) aw_docW PT5.out)
  rw [aw_toc 3 (by decide)] at OF
  have x0 := KD.out.cell 0 _ rfl
  have x1 := KD.out.cell 1 _ rfl
  clear hz5
  go_wp2_with fail
  (with_reducible refine OF.out.mono ?_)
  rintro e w6 ⟨v6, rfl, h6, b6⟩
  obtain ⟨a6, c6, hv6, hs6⟩ := Rd.sl_open h6
  obtain rfl : v6 = .slice a6 1 c6 := by simpa using hv6
  have hcap6 : 1 ≤ c6 := by simpa using hs6.le
  obtain ⟨g6, o6, vl6, vr6, rfl, -, hg6, d0, d1, d2, d3, d4, hER⟩ := ens_at hs6 (k := 0) (x := awE1) rfl
  obtain ⟨al6, cl6, hvl, -⟩ := Rd.sl_open hER.line
  obtain rfl : vl6 = .slice al6 2 cl6 := by simpa [awE1] using hvl
  have KD6 := Lib.hid (KD.out.below (b6.mono (by have := KD.out.lt; omega)))
  have B6 := Lib.hid (B5.out.trans (b6.mono (by have := Z5.out; omega)))
  have HL6 := Lib.hid (HL.out.up0 b6)
  have PT6 : Hid (PT w6) := PT5.out.grown (grown_below b6) (by simp)
  have hz6 := b6.size
  change w6.cell? ⟨g6, o6 + 0 * 5, none⟩ = some (.int .i64 1) at d0
  change w6.cell? ⟨g6, o6 + 0 * 5 + 1, none⟩ = some (.string ⟨#[97]⟩) at d1
  change w6.cell? ⟨g6, o6 + 0 * 5 + 2, none⟩ = some (.string ⟨#[49]⟩) at d2
  rw [Nat.zero_mul, Nat.add_zero] at d0 d1 d2 d3 d4
  have D0 := Lib.hid d0
  have D1 := Lib.hid d1
  have D2 := Lib.hid d2
  have D3 := Lib.hid d3
  clear OF h6 b6 hv6 hs6 hER hvl x0 x1 d0 d1 d2 d3 d4
  obtain ⟨w7, hw7⟩ : ∃ w7, w7 = (w6.alloc (.cells #[.int .i64 1, .string ⟨#[]⟩, .string ⟨#[]⟩, .slice none 0 0, .slice none 0 0, .int .i64 2, .string ⟨#[]⟩, .string ⟨#[]⟩, .slice none 0 0, .slice none 0 0, .int .i64 1, .string ⟨#[]⟩, .string ⟨#[]⟩, .slice none 0 0, .slice none 0 0] 42)) := ⟨_, rfl⟩
  have b7 : Below w6.heap.size w6 w7 := by rw [hw7]; exact (Below.refl _ _).alloc (Nat.le_refl _) _
  have h7 : Rd (w6.heap.size ≤ ·) w7 (ensD awEs) [.slice (some ⟨w6.heap.size, 0, none⟩) 3 3] := by
    rw [hw7]
    exact litN (k := 5) (ds := awEs.map En.d) (rows := [eR 1, eR 2, eR 1]) rfl (by simp [eR]) (RdL.cons (eR_rd _ _ _) (RdL.cons (eR_rd _ _ _) (RdL.one (eR_rd _ _ _)))) (Nat.le_refl _) (by unfold maxLen; omega)
  have LS := Lib.hid (tocList_any awEs (.slice (some ⟨w6.heap.size, 0, none⟩) 3 3) w7 (h7.inside.weaken (fun b hb => hb.2)) aw_ens)
  have HW7 := Lib.hid hw7
  have B7 := Lib.hid b7
  clear hw7 b7 h7
  go_upto_region 4 with (fail)
  go_wp2_with fail
  rw [← HW7.out]
  (with_reducible refine LS.out.mono ?_)
  rintro e w8 ⟨v8, rfl, h8, b8⟩
  obtain ⟨i2, hl3⟩ := aw_list3
  rw [hl3] at h8
  obtain ⟨a8, c8, hv8, hs8⟩ := Rd.sl_open h8
  obtain rfl : v8 = .slice a8 1 c8 := by simpa using hv8
  have hcap8 : 1 ≤ c8 := by simpa using hs8.le
  obtain ⟨g8, o8, vc8, vp8, vl8, vk8, rfl, -, hg8, hc8, hR8⟩ := blks_at hs8 (k := 0) rfl
  obtain ⟨ak8, ck8, hvk8, hsk8⟩ := Rd.sl_open hR8.kids
  obtain rfl : vk8 = .slice ak8 2 ck8 := by simpa using hvk8
  have hcapk8 : 2 ≤ ck8 := by simpa using hsk8.le
  obtain ⟨g9, o9, vc9, vp9, vl9, vk9, rfl, -, hg9, hc9, hR9⟩ := blks_at hsk8 (k := 0) rfl
  obtain ⟨ak9, ck9, hvk9, -⟩ := Rd.sl_open hR9.kids
  obtain rfl : vk9 = .slice ak9 2 ck9 := by simpa using hvk9
  have e10 := hc8.c10
  have f10 := hc9.c10
  rw [Nat.zero_mul, Nat.add_zero] at e10 f10
  have b68 := below_trans_size B7.out b8
  have d0 : w8.cell? ⟨g6, o6, none⟩ = _ := (b68.cell (p := ⟨g6, o6, none⟩) hg6).trans D0.out
  have d1 : w8.cell? ⟨g6, o6 + 1, none⟩ = _ := (b68.cell (p := ⟨g6, o6 + 1, none⟩) hg6).trans D1.out
  have d2 : w8.cell? ⟨g6, o6 + 2, none⟩ = _ := (b68.cell (p := ⟨g6, o6 + 2, none⟩) hg6).trans D2.out
  have d3 : w8.cell? ⟨g6, o6 + 3, none⟩ = _ := (b68.cell (p := ⟨g6, o6 + 3, none⟩) hg6).trans D3.out
  have KD8 := Lib.hid (KD6.out.below b68)
  have B8 := Lib.hid (B6.out.trans (b68.mono (by have := B6.out.size; have := HS.out; omega)))
  have HL8 := Lib.hid (HL6.out.up0 b68)
  have PT8 : Hid (PT w8) := PT6.out.grown (grown_below b68) (by simp)
  have x0 := KD8.out.cell 0 _ rfl
  have x1 := KD8.out.cell 1 _ rfl
  have OF := Lib.hid (of_any awT (.slice none 0 0) (.slice (some ⟨S + 3, 0, none⟩) 2 2) 0 w8 ⟨_, _, _, rfl⟩ (HL8.out.inside.weaken (fun b hb => hb.2)) aw_docW PT8.out)
  rw [aw_toc0] at OF
  clear LS h8 b8 hl3 hv8 hs8 hc8 hR8 hvk8 hsk8 hc9 hR9 hvk9 b68 D0 D1 D2 D3 KD6 B6 HL6 PT6 HL PT5 KD B5
  go_wp2_with fail
  (with_reducible refine OF.out.mono ?_)
  rintro e w10 ⟨v10, rfl, h10, b10⟩
  obtain ⟨a10, c10, hv10, -⟩ := Rd.sl_open h10
  obtain rfl : v10 = .slice a10 0 c10 := by simpa using hv10
  have KD10 := Lib.hid (KD8.out.below b10)
  have B10 := Lib.hid (B8.out.trans (b10.mono (by have := B8.out.size; have := HS.out; omega)))
  have HL10 := Lib.hid (HL8.out.up0 b10)
  have PT10 : Hid (PT w10) := PT8.out.grown (grown_below b10) (by simp)
  have x0 := KD10.out.cell 0 _ rfl
  have x1 := KD10.out.cell 1 _ rfl
  have FL := Lib.hid (fill_any [] awT (.slice none 0 0) (.slice (some ⟨S + 3, 0, none⟩) 2 2) w10 (Rd.nil_mk _ _ _) (HL10.out.inside.weaken (fun b hb => hb.2)) (by rw [aw_bare]; exact aw_docW) aw_ens1 aw_docW.bd (by decide) (by simp) PT10.out)
  rw [aw_fill, aw_list1] at FL
  clear OF h10 hv10 d0 d1 d2 d3 e10 f10 b10
  go_wp2_with fail
  (with_reducible refine FL.out.mono ?_)
  rintro e w11 ⟨vm11, vb11, rfl, hm11, h11, b11⟩
  obtain ⟨am, nm, cm, rfl⟩ := Rd.slf hm11
  obtain ⟨a11, c11, hv11, hs11⟩ := Rd.sl_open h11
  obtain rfl : vb11 = .slice a11 2 c11 := by simpa using hv11
  have hcap11 : 2 ≤ c11 := by simpa using hs11.le
  obtain ⟨g11, o11, vc11, vp11, vl11, vk11, rfl, -, hg11, hc11, hR11⟩ := blks_at hs11 (k := 1) rfl
  obtain ⟨ak11, ck11, hvk11, hsk11⟩ := Rd.sl_open hR11.kids
  obtain rfl : vk11 = .slice ak11 1 ck11 := by simpa using hvk11
  have hcapk11 : 1 ≤ ck11 := by simpa using hsk11.le
  obtain ⟨g12, o12, vc12, vp12, vl12, vk12, rfl, -, hg12, hc12, hR12⟩ := blks_at hsk11 (k := 0) rfl
  obtain ⟨ak12, ck12, hvk12, -⟩ := Rd.sl_open hR12.kids
  obtain rfl : vk12 = .slice ak12 1 ck12 := by simpa using hvk12
  have e10 := hc11.c10
  have f10 := hc12.c10
  rw [Nat.zero_mul, Nat.add_zero] at f10
  rw [Nat.one_mul] at e10
  have B11 := Lib.hid (B10.out.trans (b11.mono (by have := B10.out.size; have := HS.out; omega)))
  have FB : Hid (∀ cs T, Below w.heap.size w (w11.alloc (.cells cs T))) := fun cs T => by rw [← HS.out]; exact B11.out.alloc (by have := B11.out.size; have := HS.out; omega) _
  clear FL hm11 h11 hv11 hs11 hc11 hR11 hvk11 hsk11 hc12 hR12 hvk12 b11 x0 x1
  have y10 := fun o => past (w := w11) e10 o
  have y11 := fun o => past (w := w11) f10 o
  go_wp2
  go_ret
  exact ⟨rfl, FB.out _ _⟩
end Go.Proofs.YtlbioncagkkkoaaGreatDoor
