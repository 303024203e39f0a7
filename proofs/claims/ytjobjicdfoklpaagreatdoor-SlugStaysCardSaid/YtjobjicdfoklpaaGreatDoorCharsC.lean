/- Contracts of chars.Space, Digit, Letter, Lower: what they are of a code point. -/
import Derived.Test.YtjobjicdfoklpaaGreatDoorPlFold
import Derived.Test.YtjobjicdfoklpaaGreatDoorRPlain
import Derived.WalkLawsBesides
namespace Go.Proofs.YtjobjicdfoklpaaGreatDoor
open Go.RowKit
set_option linter.unusedVariables false
set_option linter.unusedSimpArgs false

theorem ret_bool {a b : Bool} (h : a = b) : Ending.returned (.bool a) = .returned (.bool b) := by rw [h]
theorem ret_i64 {a b : Int} (h : a = b) : Ending.returned (.int .i64 a) = .returned (.int .i64 b) := by rw [h]

set_option maxRecDepth 100000 in
set_option maxHeartbeats 1000000 in
theorem chSpace_any (c : Nat) (w : World) (hc : c ≤ 1114111) :
    Calls Tryz.prog 189 #[.int .i64 (c : Int)] w fun e w' => e = .returned (.bool (spC c)) ∧ w = w' := by
  go_enter Tryz.func189, Tryz.ntmps189
  go_wp2
  all_goals
    go_ret
    refine ⟨ret_bool ?_, rfl⟩
    unfold spC
    (try simp only [beq_iff_eq, beq_eq_false_iff_ne, ne_eq] at *)
    rw [Bool.eq_iff_iff]
    simp
    omega

set_option maxRecDepth 100000 in
set_option maxHeartbeats 1000000 in
theorem chDigit_any (c : Nat) (w : World) (hc : c ≤ 1114111) :
    Calls Tryz.prog 131 #[.int .i64 (c : Int)] w fun e w' => e = .returned (.bool (digC c)) ∧ w = w' := by
  go_enter Tryz.func131, Tryz.ntmps131
  go_wp2
  all_goals
    go_ret
    refine ⟨ret_bool ?_, rfl⟩
    unfold digC inR
    rw [Bool.eq_iff_iff]
    simp
    (try omega)

set_option maxRecDepth 100000 in
set_option maxHeartbeats 4000000 in
theorem chLetter_any (c : Nat) (w : World) (hc : c ≤ 1114111) :
    Calls Tryz.prog 134 #[.int .i64 (c : Int)] w fun e w' => e = .returned (.bool (letterC c)) ∧ w = w' := by
  go_enter Tryz.func134, Tryz.ntmps134
  go_wp2
  all_goals
    go_ret
    refine ⟨ret_bool ?_, rfl⟩
    unfold letterC inR
    (try simp only [beq_iff_eq, beq_eq_false_iff_ne, ne_eq] at *)
    simp
    omega

set_option maxRecDepth 100000 in
set_option maxHeartbeats 4000000 in
theorem chLower_any (c : Nat) (w : World) (hc : c ≤ 1114111) :
    Calls Tryz.prog 191 #[.int .i64 (c : Int)] w fun e w' => e = .returned (.int .i64 (lowerC c : Nat)) ∧ w = w' := by
  go_enter Tryz.func191, Tryz.ntmps191
  go_wp2
  all_goals
    go_ret
    refine ⟨ret_i64 ?_, rfl⟩
    unfold lowerC
    (try simp only [bne_iff_ne, bne_eq_false_iff_eq, ne_eq] at *)
    (repeat' split) <;> omega
end Go.Proofs.YtjobjicdfoklpaaGreatDoor
