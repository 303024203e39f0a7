/- Contracts of font.Width, font.Wide, publisherref37.Width and publisherref37.Wide: the plain widths. -/
import Derived.Test.YtgjhfjplalcnbaaDoorPlFont
import Derived.Test.YtgjhfjplalcnbaaDoorNext
import Derived.Test.YtgjhfjplalcnbaaDoorMem
import Derived.Lib.OthersKept
namespace Go.Proofs.YtgjhfjplalcnbaaDoor
open Go.RowKit
set_option linter.unusedVariables false

/-- The table of font lies where the program's text lays it. -/
def TabAt (w : World) : Prop := 0 < w.heap.size ∧ ∀ k, k < 95 → w.cell? ⟨0, k, none⟩ = some (.int .u8 ((asciiW.getD k 0 : Nat) : Int))
theorem TabAt.below {w w' : World} (h : TabAt w) (hb : Below w.heap.size w w') : TabAt w' :=
  ⟨Nat.lt_of_lt_of_le h.1 hb.size, fun k hk => by rw [hb.cell (p := ⟨0, k, none⟩) h.1]; exact h.2 k hk⟩

def inB (c lo hi : Int) : Bool := decide (lo ≤ c) && decide (c ≤ hi)
theorem in_any (p : Nat) (c lo hi : Int) (w : World) (hc : w.cell? ⟨p, 0, none⟩ = some (.int .i64 c)) :
    Calls Tryd.prog 42 #[.int .i64 lo, .int .i64 hi, .pointer (some ⟨p, 0, none⟩)] w fun e w' => e = .returned (.bool (inB c lo hi)) ∧ w = w' := by
  by_cases h1 : lo ≤ c
  · by_cases h2 : c ≤ hi
    · have hv : inB c lo hi = true := by simp [inB, h1, h2]
      rw [hv]
      go_enter Tryd.func42, Tryd.ntmps42
      go_wp2
      go_ret
      exact ⟨by simp, rfl⟩
    · have hv : inB c lo hi = false := by simp [inB, h2]
      rw [hv]
      go_enter Tryd.func42, Tryd.ntmps42
      go_wp2
      go_ret
      exact ⟨by simp, rfl⟩
  · have hv : inB c lo hi = false := by simp [inB, h1]
    rw [hv]
    go_enter Tryd.func42, Tryd.ntmps42
    go_wp2
    go_ret
    exact ⟨by simp, rfl⟩

set_option maxRecDepth 100000 in
set_option maxHeartbeats 8000000 in
theorem width_any (c : Nat) (w : World) (hc : c ≤ 1114111) (ht : TabAt w) :
    Calls Tryd.prog 29 #[.int .i64 c] w fun e w' => e = .returned (.int .i64 (widthC c : Nat)) ∧ Below w.heap.size w w' := by
  have hb1 : Below w.heap.size w (w.alloc (.cells #[.int .i64 c] 3)) := (Below.refl _ _).alloc (Nat.le_refl _) _
  have IN := Lib.hid (fun lo hi => in_any w.heap.size c lo hi (w.alloc (.cells #[.int .i64 c] 3)) (by simp [go_sem]))
  have HT := Lib.hid ht
  clear ht
  by_cases h1 : c < 32
  · rw [widthC_zero c (.inl h1)]
    clear hb1
    go_enter Tryd.func29, Tryd.ntmps29
    go_wp2
    go_ret
    exact ⟨rfl, (Below.refl _ _).alloc (Nat.le_refl _) _⟩
  by_cases h2 : c = 127
  · rw [widthC_zero c (.inr (.inl h2))]
    have e1 : ((c : Int) == 127) = true := by simp; omega
    have H2 := Lib.hid h2
    clear h2 hb1
    go_enter Tryd.func29, Tryd.ntmps29
    go_wp2
    go_ret
    exact ⟨rfl, (Below.refl _ _).alloc (Nat.le_refl _) _⟩
  have e1 : ((c : Int) == 127) = false := by simp; omega
  by_cases h3 : c < 127
  · rw [widthC_ascii c (by omega) h3]
    have hi : inB c 55296 57343 = false := by simp [inB]; omega
    have hg := HT.out.1
    have hcell := HT.out.2 (c - 32) (by omega)
    have hle := ascii_le ⟨c - 32, by omega⟩
    simp only at hle
    generalize asciiW.getD (c - 32) 0 = y at *
    have k1 : (0 : Int) ≤ (c : Int) - 32 := by omega
    have k2 : (c : Int) - 32 < 95 := by omega
    have k3 : ((c : Int) - 32).toNat = c - 32 := by omega
    have k4 : (32 : Int) ≤ (c : Int) := by omega
    have hy : wrap64 (y : Int) = (y : Int) := IntWalk.wrap64_in _ ⟨by omega, by omega⟩
    clear hb1 HT
    go_enter Tryd.func29, Tryd.ntmps29
    go_wp2_with fail
    refine (IN.out _ _).mono ?_
    rintro e w' ⟨rfl, rfl⟩
    go_wp2
    go_ret
    exact ⟨rfl, (Below.refl _ _).alloc (Nat.le_refl _) _⟩
  cases hi : inB c 55296 57343
  · have hns : ¬ (55296 ≤ c ∧ c ≤ 57343) := by simp [inB] at hi; omega
    rw [widthC_high c (by omega) hns hc]
    clear hb1 HT
    cases j0 : inB c 4352 4447
    rotate_left
    · have hw : wideB c = true := by simp [inB] at j0; simp [wideB]; omega
      rw [if_pos hw]
      clear hw
      go_enter Tryd.func29, Tryd.ntmps29
      iterate 2 (go_wp2_with fail; refine (IN.out _ _).mono ?_; rintro e w' ⟨rfl, rfl⟩)
      go_wp2
      go_ret
      exact ⟨rfl, (Below.refl _ _).alloc (Nat.le_refl _) _⟩
    cases j1 : inB c 11904 42191
    rotate_left
    · have hw : wideB c = true := by simp [inB] at j1; simp [wideB]; omega
      rw [if_pos hw]
      clear hw
      go_enter Tryd.func29, Tryd.ntmps29
      iterate 3 (go_wp2_with fail; refine (IN.out _ _).mono ?_; rintro e w' ⟨rfl, rfl⟩)
      go_wp2
      go_ret
      exact ⟨rfl, (Below.refl _ _).alloc (Nat.le_refl _) _⟩
    cases j2 : inB c 44032 55203
    rotate_left
    · have hw : wideB c = true := by simp [inB] at j2; simp [wideB]; omega
      rw [if_pos hw]
      clear hw
      go_enter Tryd.func29, Tryd.ntmps29
      iterate 4 (go_wp2_with fail; refine (IN.out _ _).mono ?_; rintro e w' ⟨rfl, rfl⟩)
      go_wp2
      go_ret
      exact ⟨rfl, (Below.refl _ _).alloc (Nat.le_refl _) _⟩
    cases j3 : inB c 63744 64255
    rotate_left
    · have hw : wideB c = true := by simp [inB] at j3; simp [wideB]; omega
      rw [if_pos hw]
      clear hw
      go_enter Tryd.func29, Tryd.ntmps29
      iterate 5 (go_wp2_with fail; refine (IN.out _ _).mono ?_; rintro e w' ⟨rfl, rfl⟩)
      go_wp2
      go_ret
      exact ⟨rfl, (Below.refl _ _).alloc (Nat.le_refl _) _⟩
    cases j4 : inB c 65072 65103
    rotate_left
    · have hw : wideB c = true := by simp [inB] at j4; simp [wideB]; omega
      rw [if_pos hw]
      clear hw
      go_enter Tryd.func29, Tryd.ntmps29
      iterate 6 (go_wp2_with fail; refine (IN.out _ _).mono ?_; rintro e w' ⟨rfl, rfl⟩)
      go_wp2
      go_ret
      exact ⟨rfl, (Below.refl _ _).alloc (Nat.le_refl _) _⟩
    cases j5 : inB c 65281 65376
    rotate_left
    · have hw : wideB c = true := by simp [inB] at j5; simp [wideB]; omega
      rw [if_pos hw]
      clear hw
      go_enter Tryd.func29, Tryd.ntmps29
      iterate 7 (go_wp2_with fail; refine (IN.out _ _).mono ?_; rintro e w' ⟨rfl, rfl⟩)
      go_wp2
      go_ret
      exact ⟨rfl, (Below.refl _ _).alloc (Nat.le_refl _) _⟩
    have hw : ¬ wideB c = true := by simp [inB] at j0 j1 j2 j3 j4 j5; simp [wideB]; omega
    rw [if_neg hw]
    clear hw
    go_enter Tryd.func29, Tryd.ntmps29
    iterate 7 (go_wp2_with fail; refine (IN.out _ _).mono ?_; rintro e w' ⟨rfl, rfl⟩)
    go_wp2
    go_ret
    exact ⟨rfl, (Below.refl _ _).alloc (Nat.le_refl _) _⟩
  · have hs : 55296 ≤ c ∧ c ≤ 57343 := by simp [inB] at hi; omega
    rw [widthC_zero c (.inr (.inr (.inl hs)))]
    clear hb1 HT hs
    go_enter Tryd.func29, Tryd.ntmps29
    go_wp2_with fail
    refine (IN.out _ _).mono ?_
    rintro e w' ⟨rfl, rfl⟩
    go_wp2
    go_ret
    exact ⟨rfl, (Below.refl _ _).alloc (Nat.le_refl _) _⟩
end Go.Proofs.YtgjhfjplalcnbaaDoor
