/- The contract of tree.copyAttr. -/
import Derived.Test.YtjolhiofllpejaaDoorClone
namespace Go.Proofs.YtjolhiofllpejaaDoor
open Go.RowKit
set_option linter.unusedVariables false

/-- Block p holds the cells cs of attributes. -/
def AB (p : Nat) (cs : List Value) (w : World) : Prop := w.heap[p]? = some (.cells cs.toArray 38 (0, 0))
section
variable {p : Nat} {cs : List Value} {w w' : World}
theorem AB.cell (h : AB p cs w) (j : Nat) (u : Value) (hu : cs[j]? = some u) : w.cell? ⟨p, j, none⟩ = some u := by
  unfold AB at h
  simp [World.cell?, h, hu]
theorem AB.free (h : AB p cs w) (j : Nat) : w.frozen? ⟨p, j, none⟩ = false := by
  unfold AB at h
  simp [World.frozen?, h]
theorem AB.set (h : AB p cs w) (j : Nat) (u : Value) : AB p (cs.set j u) (w.setCell ⟨p, j, none⟩ u) := by
  unfold AB at h ⊢
  simp [World.setCell, Array.getElem?_modify, h]
theorem AB.far (h : AB p cs w) {q : Nat} (hq : p ≠ q) (j : Nat) (u : Value) : AB p cs (w.setCell ⟨q, j, none⟩ u) := (Below.heap_setCell w ⟨q, j, none⟩ u p hq).trans h
theorem AB.lt (h : AB p cs w) : p < w.heap.size := by unfold AB at h; exact (Array.getElem?_eq_some_iff.1 h).1
theorem AB.grown (h : AB p cs w) (hg : w.grownBy w' none) : AB p cs w' := (hg.block p h.lt (by simp)).trans h
end

set_option maxRecDepth 100000 in
set_option maxHeartbeats 4000000 in
theorem tcopyAttr_any (at_ : At) (vc vp : Value) (B : Nat) (w : World) (h : AtR (· < B) w at_ vc vp) (hB : B ≤ w.heap.size) (hc : at_.cls.length ≤ 1000000) (hp : at_.prs.length ≤ 1000000) :
    Calls Tryd.prog 66 #[.agg #[.string at_.id, vc, vp]] w fun e w' => ∃ vc' vp', e = .returned (.agg #[.string at_.id, vc', vp']) ∧ AtR (w.heap.size ≤ ·) w' at_ vc' vp' ∧ Below w.heap.size w w' := by
  obtain ⟨ac, nc, cc, rfl⟩ := Rd.sl_form h.cls
  obtain ⟨ap, np, cp, rfl⟩ := Rd.sl_form h.prs
  have HA := Lib.hid h
  clear h
  go_enter Tryd.func66, Tryd.ntmps66
  go_upto_region 1 with (fail)
  obtain ⟨w0, hw0⟩ : ∃ w0, w0 = (w.alloc (.cells #[.string at_.id, .slice ac nc cc, .slice ap np cp] 38)).alloc (.cells #[.string ⟨#[]⟩, .slice none 0 0, .slice none 0 0] 38) := ⟨_, rfl⟩
  have P0 : AB w.heap.size [.string at_.id, .slice ac nc cc, .slice ap np cp] w0 := by
    rw [hw0]; exact (Below.heap_alloc _ _ _ (by simp)).trans (heap_alloc_new w _)
  have Q0 : AB (w.heap.size + 1) [.string ⟨#[]⟩, .slice none 0 0, .slice none 0 0] w0 := by
    rw [hw0]
    have := heap_alloc_new (w.alloc (.cells #[.string at_.id, .slice ac nc cc, .slice ap np cp] 38)) (.cells #[.string ⟨#[]⟩, .slice none 0 0, .slice none 0 0] 38)
    rw [World.size_alloc] at this
    exact this
  have b0 : Below w.heap.size w w0 := by rw [hw0]; exact ((Below.refl _ w).alloc (Nat.le_refl _) _).alloc (by simp) _
  have hs0 : w.heap.size + 2 ≤ w0.heap.size := by rw [hw0]; simp
  rw [← hw0]
  clear hw0
  have CS := Lib.hid (cloneS_any at_.cls B _ w0 (HA.out.cls.below (b0.mono hB)) (Nat.le_trans hB b0.size) hc)
  have d1 := P0.cell 1 _ rfl
  have HP0 := Lib.hid P0
  have HQ0 := Lib.hid Q0
  clear P0 Q0
  go_wp2_with fail
  refine CS.out.mono ?_
  rintro e w1 ⟨v1, rfl, hr1, b1⟩
  obtain ⟨a1, n1, c1, rfl⟩ := Rd.sl_form hr1
  have P1 := HP0.out.grown (grown_below b1)
  have Q1 := HQ0.out.grown (grown_below b1)
  have HP1 := Lib.hid P1
  have HQ1 := Lib.hid Q1
  have HR1 := Lib.hid (hr1.weaken (ok' := ((w.heap.size + 1) < ·)) (fun b hb => by omega))
  have hb1 := below_trans_size b0 b1
  have hs1 : w.heap.size + 2 ≤ w1.heap.size := Nat.le_trans hs0 b1.size
  have d1 := P1.cell 1 _ rfl
  have f1 := P1.free 1
  clear P1 Q1 HP0 HQ0 CS hr1 b0 b1 hs0
  go_upto_region 2 with (fail)
  obtain ⟨w2, hw2⟩ : ∃ w2, w2 = w1.setCell ⟨w.heap.size, 1, none⟩ (.slice a1 n1 c1) := ⟨_, rfl⟩
  have P2 : AB w.heap.size [.string at_.id, .slice a1 n1 c1, .slice ap np cp] w2 := by rw [hw2]; exact HP1.out.set 1 _
  have Q2 : AB (w.heap.size + 1) [.string ⟨#[]⟩, .slice none 0 0, .slice none 0 0] w2 := by rw [hw2]; exact HQ1.out.far (by omega) 1 _
  have R2 : Hid (Rd ((w.heap.size + 1) < ·) w2 (strsD at_.cls) [.slice a1 n1 c1]) := by
    show Rd _ _ _ _
    rw [hw2]
    exact Rd.keep (fun b hb hlt => ⟨hb, Below.heap_setCell w1 ⟨w.heap.size, 1, none⟩ _ b (by show b ≠ w.heap.size; omega)⟩) _ _ HR1.out
  have b2 : Below w.heap.size w w2 := by rw [hw2]; exact hb1.setCell (p := ⟨w.heap.size, 1, none⟩) (Nat.le_refl _) _
  have hs2 : w.heap.size + 2 ≤ w2.heap.size := by rw [hw2]; simpa [World.setCell] using hs1
  rw [← hw2]
  clear hw2 HP1 HQ1 HR1 hb1 hs1 d1 f1
  have CP := Lib.hid (cloneP_any at_.prs B _ w2 (HA.out.prs.below (b2.mono hB)) (Nat.le_trans hB b2.size) hp)
  have d2 := P2.cell 2 _ rfl
  have HP2 := Lib.hid P2
  have HQ2 := Lib.hid Q2
  clear P2 Q2
  go_wp2_with fail
  refine CP.out.mono ?_
  rintro e w3 ⟨v3, rfl, hr3, b3⟩
  obtain ⟨a3, n3, c3, rfl⟩ := Rd.sl_form hr3
  have P3 := HP2.out.grown (grown_below b3)
  have Q3 := HQ2.out.grown (grown_below b3)
  have HP3 := Lib.hid (P3.set 2 (.slice a3 n3 c3))
  have HQ3 := Lib.hid (Q3.far (q := w.heap.size) (by omega) 2 (.slice a3 n3 c3))
  have HR3 := Lib.hid (hr3.weaken (ok' := ((w.heap.size + 1) < ·)) (fun b hb => by omega))
  have HS3 := Lib.hid (Rd.keep (ok' := ((w.heap.size + 1) < ·)) (fun b hb hlt => ⟨hb, b3.block b hlt⟩) _ _ R2.out)
  have hb3 := below_trans_size b2 b3
  have d2 := P3.cell 2 _ rfl
  have f2 := P3.free 2
  clear P3 Q3 HP2 HQ2 CP hr3 b2 b3 R2 hs2
  go_upto_region 3 with (fail)
  obtain ⟨w4, hw4⟩ : ∃ w4, w4 = w3.setCell ⟨w.heap.size, 2, none⟩ (.slice a3 n3 c3) := ⟨_, rfl⟩
  rw [← hw4] at HP3 HQ3
  have K4 : ∀ b, w.heap.size + 1 < b → b < w3.heap.size → w4.heap[b]? = w3.heap[b]? := fun b hb _ => by rw [hw4]; exact Below.heap_setCell w3 ⟨w.heap.size, 2, none⟩ _ b (by show b ≠ w.heap.size; omega)
  have R4 := Lib.hid (Rd.keep (w' := w4) (ok' := ((w.heap.size + 1) < ·)) (fun b hb hlt => ⟨hb, K4 b hb hlt⟩) _ _ HR3.out)
  have S4 := Lib.hid (Rd.keep (w' := w4) (ok' := ((w.heap.size + 1) < ·)) (fun b hb hlt => ⟨hb, K4 b hb hlt⟩) _ _ HS3.out)
  have b4 : Below w.heap.size w w4 := by rw [hw4]; exact hb3.setCell (p := ⟨w.heap.size, 2, none⟩) (Nat.le_refl _) _
  rw [← hw4]
  clear hw4 K4 HR3 HS3 hb3 d2 f2
  have q0 := HP3.out.cell 0 _ rfl
  have q1 := HP3.out.cell 1 _ rfl
  have q2 := HP3.out.cell 2 _ rfl
  have r0 := HQ3.out.cell 0 _ rfl
  have r1 := HQ3.out.cell 1 _ rfl
  have r2 := HQ3.out.cell 2 _ rfl
  have g0 := HQ3.out.free 0
  have g1 := HQ3.out.free 1
  have g2 := HQ3.out.free 2
  have FB := Lib.hid (fun u0 u1 u2 => ((b4.setCell (p := ⟨w.heap.size + 1, 0, none⟩) (by simp) u0).setCell (p := ⟨w.heap.size + 1, 1, none⟩) (by simp) u1).setCell (p := ⟨w.heap.size + 1, 2, none⟩) (by simp) u2)
  have AV : ∀ (d : D) (cs : List Value), Rd ((w.heap.size + 1) < ·) w4 d cs → ∀ u0 u1 u2, Rd (w.heap.size ≤ ·) (((w4.setCell ⟨w.heap.size + 1, 0, none⟩ u0).setCell ⟨w.heap.size + 1, 1, none⟩ u1).setCell ⟨w.heap.size + 1, 2, none⟩ u2) d cs := fun d cs hd u0 u1 u2 =>
    (((hd.above (Above.set 0 u0)).above (Above.set 1 u1)).above (Above.set 2 u2)).weaken (fun b hb => by omega)
  have HAV := Lib.hid AV
  clear AV b4
  go_wp2
  exact bodyPost_ret (v := .agg #[.string at_.id, .slice a1 n1 c1, .slice a3 n3 c3]) (by simp [results, Tryd.results66, go_sem, r0, r1, r2]) rfl ⟨_, _, rfl, ⟨HAV.out _ _ S4.out _ _ _, HAV.out _ _ R4.out _ _ _⟩, FB.out _ _ _⟩
end Go.Proofs.YtjolhiofllpejaaDoor
