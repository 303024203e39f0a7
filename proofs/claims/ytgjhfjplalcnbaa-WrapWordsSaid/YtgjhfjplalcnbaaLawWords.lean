/- Proved: publisherlaw38.WrapWords returns true at every string, and the string reads as before. No condition. -/
import Derived.Test.YtgjhfjplalcnbaaRows
import Derived.Test.YtgjhfjplalcnbaaAwake
import Derived.Test.YtgjhfjplalcnbaaTexts
import Derived.ProofKit
import Derived.OpenShut
import Derived.ShutString
import Derived.ChangeOld
namespace Go.Proofs.Ytgjhfjplalcnbaa.LawWords
open Go.ChangeShapes Go.WideShapes Go.ChangeAt Go.RowKit
open Go.ChangeMaps (open_string shut_string)
set_option linter.unusedVariables false

theorem own : ownKnob Try.prog.godebug = none := by kernel_rfl
theorem laidOut : laidOutB Try.prog = true := by kernel_rfl

set_option maxRecDepth 100000 in
set_option maxHeartbeats 400000 in
theorem walk (a0 : ByteArray) (w0 : a0.size ≤ maxLen) (w : World) :
    Calls Try.prog 3 #[.string a0] w fun e w' => e = .returned (.bool true) ∧ Below w.heap.size w w' := by
  unfold maxLen at w0
  by_cases h : 2000 < a0.size
  · have e1 : decide ((2000 : Int) < (a0.size : Int)) = true := by simp; omega
    go_enter Try.func3, Try.ntmps3
    go_wp2_with fail
    refine (awake_any _).mono ?_
    rintro e w1 ⟨rfl, hb⟩
    go_wp2
    go_ret
    exact ⟨rfl, hb⟩
  · have e1 : decide ((2000 : Int) < (a0.size : Int)) = false := by simp; omega
    have e2 : decide ((a0.size : Int) ≤ (2000 : Int)) = true := by simp; omega
    have W1 := Lib.hid (fun w => words_any a0 w (by omega))
    have W2 := Lib.hid (fun w => rwords_any a0 w (by omega))
    go_enter Try.func3, Try.ntmps3
    go_wp2_with fail
    refine (W1.out _).mono ?_
    rintro e w1 ⟨v1, rfl, h1, b1⟩
    go_wp2_with fail
    refine (W2.out _).mono ?_
    rintro e w2 ⟨v2, rfl, h2, b2⟩
    have s1 := (Sees.of_own h1).below b2
    have s2 := Sees.of_own h2
    have b12 := below_trans_size b1 b2
    clear h1 h2
    go_wp2_with fail
    refine (texts_same _ _ _ _ s1 s2).mono ?_
    rintro e w3 ⟨rfl, q, rfl⟩
    clear s1 s2
    go_wp2_with fail
    refine (awake_any _).mono ?_
    rintro e w4 ⟨rfl, b4⟩
    go_wp2
    go_ret
    exact ⟨rfl, below_trans_size (below_dN b12 q) b4⟩

set_option maxRecDepth 100000 in
theorem lifted (os : Os) (started : os.Started) (H : Type) (enc : TypeId × Value → H) :
    ReturnsInHanded {} Try.checked os 3 .any (Rows.wrapWordsSpec.pre6 enc Try.prog Try.f3 Rows.wrapWordsRow.domain false) (Rows.wrapWordsSpec.post enc Try.prog Try.f3 false true false false) := by
  refine returnsInHanded_of_change (C := Try.checked) own started (by kernel_rfl) Try.func3
    (ChangeSpec.witness6 (enc := enc) (C := Try.checked) false ⟨#[], #[.string ByteArray.empty], []⟩ 8 (by kernel_rfl) (by kernel_rfl) (by kernel_rfl) (by kernel_rfl)) ?_
  intro W base args ds gs before hval0 hW hcnd _
  have hval : ∀ (j : Nat) t v, Try.f3.params[j]? = some t → args[j]? = some v → Value.okWide Try.prog W .any base t v := hval0
  have hW' := hW
  obtain ⟨p, q, hA0, hV, rfl, hfz, hnd⟩ := hW
  have hA : DataW.TrodAll enc Try.prog W 0 (fun _ => true) true Try.f3.params.toList args.toList ds p := hA0
  rw [Try.params3] at hA hval
  obtain ⟨v0, vs0, d0, ds0, p0, q0, hargs, rfl, rfl, h0, r0⟩ := trodAll_cons hA
  obtain ⟨rfl, rfl, rfl⟩ := trodAll_nil r0
  obtain rfl : args = #[v0] := by cases args; simp_all
  obtain ⟨rfl, rfl⟩ := trodVars_none hV
  obtain ⟨a0, rfl, rfl, rfl, w0⟩ := open_string Try.underlying9 (hval 0 9 v0 rfl rfl) h0
  clear hA0 hval0
  simp only [List.append_nil] at hW'
  refine (walk a0 w0 W).mono fun e W' ⟨he, bel⟩ => ?_
  subst he
  exact ⟨_, rfl, _, _, _, [], [], [], hW', trodAll_mk1 (shut_bool Try.underlying4 _), (trodAll_cons_mk (shut_string Try.underlying9 w0) trodAll_mk0), rfl, bel.frame _, fun h => by cases h⟩

theorem over : Rows.wrapWordsRow.holds Try.pinned (OpenSpec.ofChange Rows.wrapWordsSpec) :=
  OpenClaim.holds_of_wide 3 Try.f3 rfl rfl rfl rfl rfl rfl rfl ⟨rfl, rfl, rfl, rfl, rfl⟩ rfl rfl rfl rfl rfl (by kernel_rfl) Try.func3 (by kernel_rfl)
    (of_decide_eq_true (by kernel_rfl)) (by unfold Func.isWrapper; first | (rw [if_pos (by decide +kernel)]; kernel_rfl) | (rw [if_neg (by decide +kernel)]; exact ⟨rfl, rfl⟩))
    (fun os started H enc _ => lifted os started H enc)
end Go.Proofs.Ytgjhfjplalcnbaa.LawWords

namespace Go.Proofs.Ytgjhfjplalcnbaa
theorem wrapWords_proved : Rows.WrapWordsSaid := LawWords.over
#print axioms wrapWords_proved
end Go.Proofs.Ytgjhfjplalcnbaa
