/- The small case with which each statement of layer 38 ends: it answers true. -/
import Derived.Test.YtgjhfjplalcnbaaDoorRBreak
import Derived.Test.YtgjhfjplalcnbaaDoorWords
namespace Go.Proofs.YtgjhfjplalcnbaaDoor
open Go.RowKit
set_option linter.unusedVariables false

theorem aw_first : brFirst [3, 2, 2, 5] 1 6 = [0, 1, 3] := by decide +kernel
theorem aw_cost : brCost [3, 2, 2, 5] 1 6 = 10 := by decide +kernel
theorem aw_words : words38 ⟨#[97, 32, 32, 98, 99]⟩ = [⟨#[97]⟩, ⟨#[98, 99]⟩] := by decide +kernel
theorem aw_ok : BrOk [3, 2, 2, 5] 1 6 := ⟨by omega, by omega, by decide⟩

set_option maxRecDepth 100000 in
set_option maxHeartbeats 1000000 in
theorem awake_any (w : World) : Calls Tryd.prog 7 #[] w fun e w' => e = .returned (.bool true) ∧ Below w.heap.size w w' := by
  go_enter Tryd.func7, Tryd.ntmps7
  go_wp2_with fail
  obtain ⟨w1, hw1⟩ : ∃ w1, w1 = w.alloc (.cells #[.int .i64 3, .int .i64 2, .int .i64 2, .int .i64 5] 3) := ⟨_, rfl⟩
  rw [← hw1]
  have B1 := Lib.hid (break_ok w1 w.heap.size 0 4 [3, 2, 2, 5] 1 6 aw_ok (by decide) (by decide) (by decide) (by unfold maxLen; decide) (by
    intro j x h
    rw [hw1]
    have := new_cells w [.int .i64 3, .int .i64 2, .int .i64 2, .int .i64 5] 3 j (.int .i64 x) (by
      rcases j with _ | _ | _ | _ | j <;> simp_all)
    rw [← this, Nat.zero_add]
    congr 1
    unfold Addr.add; split <;> simp_all))
  have hb1 : Below w.heap.size w w1 := by rw [hw1]; exact (Below.refl _ _).alloc (Nat.le_refl _) _
  clear hw1
  refine B1.out.mono ?_
  rintro e w2 ⟨v, rfl, hown, hb2⟩
  rw [aw_first] at hown
  rw [aw_cost]
  have hb2' := below_trans_size hb1 hb2
  go_wp2_with fail
  refine (words_any _ _ (by decide)).mono ?_
  rintro e w3 ⟨v3, rfl, hown3, hb3⟩
  rw [aw_words] at hown3
  have hown2 := own_below hown hb3
  go_wp2_with fail
  refine (break_range _ _ _ _ _ _ (.inl (by omega))).mono ?_
  rintro e w4 ⟨rfl, hb4⟩
  have h1 := own_below hown2 hb4
  have h2 := own_below hown3 hb4
  have hb5 := below_trans_size (below_trans_size hb2' hb3) hb4
  obtain ⟨g, cap, rfl, hc1⟩ := own_form h1 (by decide)
  obtain ⟨g', cap', rfl, hc2⟩ := own_form h2 (by decide)
  have c0 := h1.cellAt 0 (by decide)
  have c1 := h1.cellAt 1 (by decide)
  have c2 := h1.cellAt 2 (by decide)
  have d0 := h2.cellAt 0 (by decide)
  have d1 := h2.cellAt 1 (by decide)
  simp at c0 c1 c2 d0 d1
  clear h1 h2 hown hown2 hown3 B1
  go_wp2
  go_ret
  exact ⟨rfl, hb5⟩
end Go.Proofs.YtgjhfjplalcnbaaDoor
