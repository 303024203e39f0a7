/- The law's own comparison of two lists: it answers true at equal lists. -/
import Derived.Test.YtgjhfjplalcnbaaDoorMem
import Derived.Deep.QuietTactic
import Derived.BigQuiet
import Derived.WalkLawsBesides
namespace Go.Proofs.YtgjhfjplalcnbaaDoor
open Go.RowKit
set_option linter.unusedVariables false

set_option maxRecDepth 100000 in
set_option maxHeartbeats 400000 in
theorem texts_same (l : List ByteArray) (v1 v2 : Value) (w : World) (s1 : Sees w 1 v1 l.length (l.map Value.string)) (s2 : Sees w 1 v2 l.length (l.map Value.string)) :
    Calls Tryd.prog 10 #[v1, v2] w fun e w' => e = .returned (.bool true) ∧ ∃ q, w' = w.drewN q := by
  obtain ⟨-, a1, cap1, rfl, p1, p2, p3⟩ := s1
  obtain ⟨-, a2, cap2, rfl, q1, q2, q3⟩ := s2
  unfold maxLen at p2 q2
  rcases Nat.eq_zero_or_pos l.length with h0 | hpos
  · rw [h0] at *
    go_enter Tryd.func10, Tryd.ntmps10
    go_wp2
    refine wp_loop_rounds 1 ?_
    rw [rounds_succ]
    go_wp2
    go_ret
    exact ⟨rfl, 0, rfl⟩
  · rcases p3 with p3 | ⟨b1, o1, rfl, p3⟩
    · omega
    rcases q3 with q3 | ⟨b2, o2, rfl, q3⟩
    · omega
    have hne : ((l.length : Int) != l.length) = false := by simp
    go_enter Tryd.func10, Tryd.ntmps10
    go_wp2
    go_loopw [5] (fun i wr => ∃ k q : Nat, k ≤ l.length ∧ i = .int .i64 k ∧ wr = w.drewN q) (fun i _ => l.length - (intOf i).toNat)
    case atStart => exact ⟨0, 0, Nat.zero_le _, rfl, rfl⟩
    case round =>
      obtain ⟨k, q, hk, rfl, rfl⟩ := hrel
      by_cases hlt : k < l.length
      · have c1 := p3 k (.string l[k]) (by simp [hlt])
        have c2 := q3 k (.string l[k]) (by simp [hlt])
        clear p3 q3
        go_wp2_with fail
        go_quiet (fail)
        go_wp2
        go_roundw
        case rel => exact ⟨k + 1, _, by omega, by go_num, rfl⟩
        case measure => simp [intOf]; omega
      · go_wp2
        go_ret
        exact ⟨rfl, q, rfl⟩
end Go.Proofs.YtgjhfjplalcnbaaDoor
