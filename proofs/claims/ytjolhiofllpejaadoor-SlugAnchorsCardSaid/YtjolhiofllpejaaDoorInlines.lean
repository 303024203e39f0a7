/- tree.Inlines: all inlines of blocks, in document order. -/
import Derived.Test.YtjolhiofllpejaaDoorInBs
import Derived.Laws.EntriesVeiled
namespace Go.Proofs.YtjolhiofllpejaaDoor
open Go.RowKit
set_option linter.unusedVariables false

/-- A box of one cell. -/
def Box1 (b : Nat) (v : Value) (t : TypeId) (w : World) : Prop := w.heap[b]? = some (.cells #[v] t (0, 0))
section
variable {b : Nat} {v : Value} {t : TypeId} {w w' : World}
theorem Box1.lt (h : Box1 b v t w) : b < w.heap.size := (Array.getElem?_eq_some_iff.1 h).1
theorem Box1.cell (h : Box1 b v t w) : w.cell? ⟨b, 0, none⟩ = some v := by unfold Box1 at h; simp [World.cell?, h]
theorem Box1.free (h : Box1 b v t w) : w.frozen? ⟨b, 0, none⟩ = false := by unfold Box1 at h; simp [World.frozen?, h]
theorem Box1.set (h : Box1 b v t w) (u : Value) : Box1 b u t (w.setCell ⟨b, 0, none⟩ u) := box_set h
theorem Box1.far (h : Box1 b v t w) {q j : Nat} (hq : b ≠ q) (u : Value) : Box1 b v t (w.setCell ⟨q, j, none⟩ u) := (Below.heap_setCell w ⟨q, j, none⟩ u b hq).trans h
theorem Box1.alloc (h : Box1 b v t w) (o : Obj) : Box1 b v t (w.alloc o) := (Below.heap_alloc w o b h.lt).trans h
theorem Box1.new (w : World) (v : Value) (t : TypeId) : Box1 w.heap.size v t (w.alloc (.cells #[v] t)) := heap_alloc_new w _
theorem Box1.below (h : Box1 b v t w) {B : Nat} (hB : b < B) (hb : Below B w w') : Box1 b v t w' := (hb.block b hB).trans h
theorem Box1.grown (h : Box1 b v t w) (hg : w.grownBy w' none) : Box1 b v t w' := (hg.block b h.lt (by simp)).trans h
theorem Box1.drew (h : Box1 b v t w) : Box1 b v t w.drew := h
end

theorem own_mono2 {w : World} {B B' : Nat} {e : TypeId} {k n : Nat} {v : Value} {xs : List Value} (h : w.ownsRow B e k v n xs) (hB : B' ≤ B) : w.ownsRow B' e k v n xs :=
  ⟨h.1, h.2.imp id fun ⟨g, cap, cur, h1, h2, h3⟩ => ⟨g, cap, cur, h1, Nat.le_trans hB h2, h3⟩⟩

set_option maxRecDepth 100000 in
set_option maxHeartbeats 4000000 in
theorem inlines_any (l : List Blk) (v : Value) (w : World) (h : Rd (· < w.heap.size) w (blksD l) [v]) (hbd : Blk.bdL l) (hsz : Blk.szL l ≤ 1000000) (hln : (Blk.inlsL l).length ≤ 1000000) :
    Calls Tryd.prog 38 #[v] w fun e w' => ∃ v' rows, e = .returned v' ∧ w'.ownsRow w.heap.size 42 10 v' (Blk.inlsL l).length rows.flatten ∧ RdL (fun _ => True) w' ((Blk.inlsL l).map Inl.d) rows ∧ (∀ r ∈ rows, r.length = 10) ∧ Below w.heap.size w w' := by
  obtain ⟨va, vn, vc, rfl⟩ := Rd.sl_form h
  have HR := Lib.hid h
  have HBD := Lib.hid hbd
  clear h hbd
  obtain ⟨N, hN⟩ : ∃ N, N = w.heap.size := ⟨_, rfl⟩
  go_enter Tryd.func38, Tryd.ntmps38
  go_upto_region 3 with (fail)
  obtain ⟨wA, hwA⟩ : ∃ wA, wA = (w.alloc (.cells #[.slice none 0 0] 40)).alloc (.cells #[.nilFunc] 98) := ⟨_, rfl⟩
  have b0 : Box1 N (.slice none 0 0) 40 wA := by rw [hwA, hN]; exact (Box1.new w _ _).alloc _
  have b1 : Box1 (N + 1) .nilFunc 98 wA := by
    rw [hwA, hN]
    have := Box1.new (w.alloc (.cells #[.slice none 0 0] 40)) .nilFunc 98
    rwa [World.size_alloc] at this
  have bl : Below N w wA := by rw [hwA, hN]; exact ((Below.refl _ _).alloc (Nat.le_refl _) _).alloc (by simp) _
  have sz : wA.heap.size = N + 2 := by rw [hwA, hN]; simp
  rw [← hwA, ← hN]
  rw [← hN] at HR
  have HN := Lib.hid hN
  clear hwA hN
  have c1 := b1.cell
  have f1 := b1.free
  go_upto_region 4 with (fail)
  obtain ⟨wB, hwB⟩ : ∃ wB, wB = wA.setCell ⟨N + 1, 0, none⟩ (inF N (N + 1)) := ⟨_, rfl⟩
  have d0 : Box1 N (.slice none 0 0) 40 wB := by rw [hwB]; exact b0.far (by omega) _
  have d1 : Box1 (N + 1) (inF N (N + 1)) 98 wB := by rw [hwB]; exact b1.set _
  have dl : Below N w wB := by rw [hwB]; exact bl.setCell (p := ⟨N + 1, 0, none⟩) (by show N ≤ N + 1; omega) _
  have dz : wB.heap.size = N + 2 := by rw [hwB]; simpa [World.setCell] using sz
  unfold inF at hwB
  rw [← hwB]
  clear hwB b0 b1 bl sz c1 f1
  go_upto_region 5 with (fail)
  obtain ⟨wC, hwC⟩ : ∃ wC, wC = wB.alloc (.cells #[.nilFunc] 104) := ⟨_, rfl⟩
  have b0 : Box1 N (.slice none 0 0) 40 wC := by rw [hwC]; exact d0.alloc _
  have b1 : Box1 (N + 1) (inF N (N + 1)) 98 wC := by rw [hwC]; exact d1.alloc _
  have b2 : Box1 (N + 2) .nilFunc 104 wC := by rw [hwC, ← dz]; exact Box1.new _ _ _
  have bl : Below N w wC := by rw [hwC]; exact dl.alloc (by omega) _
  have sz : wC.heap.size = N + 3 := by rw [hwC]; simp [dz]
  rw [← hwC]
  clear hwC d0 d1 dl dz
  have c2 := b2.cell
  have f2 := b2.free
  go_upto_region 6 with (fail)
  obtain ⟨wD, hwD⟩ : ∃ wD, wD = wC.setCell ⟨N + 2, 0, none⟩ (inG (N + 1) (N + 2)) := ⟨_, rfl⟩
  have d0 : Box1 N (.slice none 0 0) 40 wD := by rw [hwD]; exact b0.far (by omega) _
  have d1 : Box1 (N + 1) (inF N (N + 1)) 98 wD := by rw [hwD]; exact b1.far (by omega) _
  have d2 : Box1 (N + 2) (inG (N + 1) (N + 2)) 104 wD := by rw [hwD]; exact b2.set _
  have dl : Below N w wD := by rw [hwD]; exact bl.setCell (p := ⟨N + 2, 0, none⟩) (by show N ≤ N + 2; omega) _
  have dz : wD.heap.size = N + 3 := by rw [hwD]; simpa [World.setCell] using sz
  have c2 := d2.cell
  unfold inG at hwD c2
  rw [← hwD]
  clear hwD b0 b1 b2 bl sz f2
  have OLD : OL N (N + 3) N (N + 1) N (.slice none 0 0) [] [] wD := ⟨d0, d1, ⟨rfl, .inl ⟨rfl, rfl⟩⟩, RdL.none, by simp, by omega⟩
  have CB := Lib.hid (inbs_any (Blk.szL l) l N (N + 3) N (N + 1) (N + 2) [] [] (.slice va vn vc) (.slice none 0 0) wD (Nat.le_refl _) hsz (HR.out.below dl) (Nat.le_refl _) (by omega) (by omega) (by omega) (by omega) (by omega) (by omega) HBD.out OLD d2 (by simpa using hln))
  have HDL := Lib.hid dl
  clear OLD d0 d1 d2 dl
  go_wp2_with fail
  refine CB.out.mono ?_
  rintro e w1 ⟨rfl, vo, rows, OL1, KO1, OR1⟩
  have kb : w1.cell? ⟨N, 0, none⟩ = some vo := by
    have := OL1.bx
    simp [World.cell?, this]
  obtain ⟨ao, co, rfl⟩ := own_slice OL1.own
  have HO := Lib.hid OL1
  have HK : Hid (Below N w w1) := HDL.out.trans (KO1.below (B := N + 3) (Nat.le_refl _) (by omega) (by simp [Value.ownBlock]) (by omega))
  clear OL1 KO1 OR1 CB HDL c2
  go_wp2_with fail
  go_ret
  refine ⟨_, rows, rfl, ?_, RdL.keep (fun _ _ _ => ⟨trivial, rfl⟩) _ _ HO.out.red, HO.out.len, HN.out ▸ HK.out⟩
  have := own_mono2 HO.out.own (B' := w.heap.size) (by have := HN.out; omega)
  simpa using this
end Go.Proofs.YtjolhiofllpejaaDoor
