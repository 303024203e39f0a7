/- Contracts of the code point readers of publisherref01 and of white space, over this seat's translation. -/
import Derived.Test.YtjolhiofllpejaaDoorProg
import Derived.Test.YtjolhiofllpejaaDoorPlChars
import Derived.WalkKit
import Derived.Outline
import Derived.Deep.QuietTactic
import Derived.BigQuiet
import Derived.Below
import Derived.Lib.Hide
namespace Go.Proofs.YtjolhiofllpejaaDoor
open Go.RowKit
set_option linter.unusedVariables false

theorem ret_int {k : IntKind} {a b : Int} (h : a = b) : Ending.returned (.int k a) = .returned (.int k b) := by rw [h]

theorem space_any (c : Int) (w : World) :
    Calls Tryd.prog 47 #[.int .i64 c] w fun e w' => e = .returned (.bool (c == 32 || c == 10)) ∧ w = w' := by
  by_cases h : (c == 32) = true
  · go_enter Tryd.func47, Tryd.ntmps47
    go_wp2
    go_ret
    exact ⟨by simp [h], rfl⟩
  · have h' : (c == 32) = false := by simpa using h
    go_enter Tryd.func47, Tryd.ntmps47
    go_wp2
    go_ret
    exact ⟨by simp [h'], rfl⟩

theorem rspace_any (c : Int) (w : World) :
    Calls Tryd.prog 53 #[.int .i64 c] w fun e w' => e = .returned (.bool (c == 32 || c == 10)) ∧ w = w' := by
  by_cases h : (c == 32) = true
  · go_enter Tryd.func53, Tryd.ntmps53
    go_wp2
    go_ret
    exact ⟨by simp [h], rfl⟩
  · have h' : (c == 32) = false := by simpa using h
    go_enter Tryd.func53, Tryd.ntmps53
    go_wp2
    go_ret
    exact ⟨by simp [h'], rfl⟩

theorem more_any (s : ByteArray) (i low high : Nat) (w : World) (hs : s.size ≤ 9223372036854775807) (hl : low < 256) (hh : high < 256) (hi : i < 9223372036854775807) :
    Calls Tryd.prog 77 #[.string s, .int .i64 i, .int .i64 low, .int .i64 high] w fun e w' => e = .returned (.int .i64 (moreV s i low high)) ∧ w = w' := by
  obtain ⟨V, hV⟩ : ∃ V, V = moreV s i low high := ⟨_, rfl⟩
  rw [← hV]
  unfold moreV at hV
  have HV := Lib.hid hV
  clear hV
  have hb := bt_lt s i
  by_cases h1 : i < s.size
  · have hw : wrap64 (s[i].toNat : Int) = (bt s i : Int) := by rw [bt_eq s i h1]; exact IntWalk.wrap64_in _ ⟨by omega, by omega⟩
    by_cases h2 : low ≤ bt s i
    · by_cases h3 : bt s i ≤ high
      · go_enter Tryd.func77, Tryd.ntmps77
        go_wp2
        go_ret
        exact ⟨ret_int (by rw [HV.out, if_pos ⟨h1, h2, h3⟩]), rfl⟩
      · go_enter Tryd.func77, Tryd.ntmps77
        go_wp2
        go_ret
        exact ⟨ret_int (by rw [HV.out, if_neg (by omega)]), rfl⟩
    · go_enter Tryd.func77, Tryd.ntmps77
      go_wp2
      go_ret
      exact ⟨ret_int (by rw [HV.out, if_neg (by omega)]), rfl⟩
  · go_enter Tryd.func77, Tryd.ntmps77
    go_wp2
    go_ret
    exact ⟨ret_int (by rw [HV.out, if_neg (by omega)]), rfl⟩

theorem pair_ret {a b c d : Int} (h1 : a = c) (h2 : b = d) : Ending.returned (.agg #[.int .i64 a, .int .i64 b]) = .returned (.agg #[.int .i64 c, .int .i64 d]) := by rw [h1, h2]

/-- 'more' called with a given value, at whatever world. -/
def MoreIs (s : ByteArray) (i low high v : Int) : Prop :=
  ∀ w : World, Calls Tryd.prog 77 #[.string s, .int .i64 i, .int .i64 low, .int .i64 high] w fun e w' => e = .returned (.int .i64 v) ∧ w = w'
theorem more_is (s : ByteArray) (i low high : Nat) (j : Int) (hj : j = (i : Int)) (hs : s.size ≤ 140737488355328) (hl : low < 256) (hh : high < 256) (hi : i < 9223372036854775807) : MoreIs s j low high (moreV s i low high) := by
  subst hj; exact fun w => more_any s i low high w (by omega) hl hh hi

set_option maxHeartbeats 400000 in
theorem three_any (s : ByteArray) (i : Nat) (w : World) (hs : s.size ≤ 140737488355328) (hi : i < s.size) (h1 : 224 ≤ bt s i) (h2 : bt s i ≤ 239) :
    Calls Tryd.prog 78 #[.string s, .int .i64 i] w fun e w' => e = .returned (.agg #[.int .i64 (Utf8.decode s i).1, .int .i64 (Utf8.decode s i).2]) ∧ Below w.heap.size w w' := by
  obtain ⟨D1, D2⟩ := dec_three s i hi h1 h2
  generalize hb : bt s i = b at *
  have hw : wrap64 (s[i].toNat : Int) = (b : Int) := by rw [bt_eq s i hi, hb]; exact IntWalk.wrap64_in _ ⟨by omega, by omega⟩
  clear hb
  have x1 := moreV_bd s (i + 1) (lowOf b) (highOf b) (by unfold lowOf; split <;> (try split) <;> omega)
  have y1 := moreV_bd s (i + 2) 128 191 (by omega)
  have M1 := more_is s (i + 1) (lowOf b) (highOf b) (↑i + 1) (by omega) hs (by unfold lowOf; split <;> (try split) <;> omega) (by unfold highOf; split <;> (try split) <;> omega) (by omega)
  have M2 := more_is s (i + 2) 128 191 (↑i + 2) (by omega) hs (by omega) (by omega) (by omega)
  generalize moreV s (i + 1) (lowOf b) (highOf b) = x at *
  generalize moreV s (i + 2) 128 191 = y at *
  generalize Utf8.decode s i = d at *
  obtain ⟨d1, d2⟩ := d
  have k : (((b : Int) == 224) = true ∧ ((b : Int) == 237) = false ∧ lowOf b = 160 ∧ highOf b = 191) ∨ (((b : Int) == 224) = false ∧ ((b : Int) == 237) = true ∧ lowOf b = 128 ∧ highOf b = 159) ∨
      (((b : Int) == 224) = false ∧ ((b : Int) == 237) = false ∧ lowOf b = 128 ∧ highOf b = 191) := by
    unfold lowOf highOf
    by_cases k1 : b = 224
    · left; subst k1; simp
    · by_cases k2 : b = 237
      · right; left; subst k2; simp
      · right; right
        refine ⟨by simp; omega, by simp; omega, ?_, ?_⟩ <;> repeat (first | rw [if_neg (by omega)])
  have E1 := Lib.hid D1
  have E2 := Lib.hid D2
  clear D1 D2
  rcases k with ⟨k1, k2, k3, k4⟩ | ⟨k1, k2, k3, k4⟩ | ⟨k1, k2, k3, k4⟩
  all_goals
    rw [k3, k4] at M1
    clear k3 k4
    go_enter Tryd.func78, Tryd.ntmps78
    go_wp2_with fail
    refine (M1 _).mono ?_
    rintro e w' ⟨rfl, rfl⟩
    go_wp2_with fail
    refine (M2 _).mono ?_
    rintro e w' ⟨rfl, rfl⟩
    by_cases hx : x < 0
    · go_wp2
      refine bodyPost_ret (v := .agg #[.int .i64 65533, .int .i64 1]) (by simp [results, Tryd.results78, go_sem]) rfl ⟨?_, (Below.refl _ _).alloc (Nat.le_refl _) _⟩
      obtain ⟨rfl, rfl⟩ := Prod.mk.inj (E1.out (.inl hx))
      rfl
    · by_cases hy : y < 0
      · go_wp2
        refine bodyPost_ret (v := .agg #[.int .i64 65533, .int .i64 1]) (by simp [results, Tryd.results78, go_sem]) rfl ⟨?_, (Below.refl _ _).alloc (Nat.le_refl _) _⟩
        obtain ⟨rfl, rfl⟩ := Prod.mk.inj (E1.out (.inr hy))
        rfl
      · go_wp2
        refine bodyPost_ret (v := .agg #[.int .i64 ((b - 224) * 4096 + x * 64 + y), .int .i64 3]) (by simp [results, Tryd.results78, go_sem]) rfl ⟨?_, (Below.refl _ _).alloc (Nat.le_refl _) _⟩
        obtain ⟨r1, r2⟩ := E2.out (by omega) (by omega)
        exact pair_ret r1 (by simp only [r2]; rfl)

set_option maxHeartbeats 400000 in
theorem four_any (s : ByteArray) (i : Nat) (w : World) (hs : s.size ≤ 140737488355328) (hi : i < s.size) (h1 : 240 ≤ bt s i) (h2 : bt s i ≤ 244) :
    Calls Tryd.prog 79 #[.string s, .int .i64 i] w fun e w' => e = .returned (.agg #[.int .i64 (Utf8.decode s i).1, .int .i64 (Utf8.decode s i).2]) ∧ Below w.heap.size w w' := by
  obtain ⟨D1, D2⟩ := dec_four s i hi h1 h2
  generalize hb : bt s i = b at *
  have hw : wrap64 (s[i].toNat : Int) = (b : Int) := by rw [bt_eq s i hi, hb]; exact IntWalk.wrap64_in _ ⟨by omega, by omega⟩
  clear hb
  have x1 := moreV_bd s (i + 1) (lowOf b) (highOf b) (by unfold lowOf; split <;> (try split) <;> omega)
  have y1 := moreV_bd s (i + 2) 128 191 (by omega)
  have z1 := moreV_bd s (i + 3) 128 191 (by omega)
  have M1 := more_is s (i + 1) (lowOf b) (highOf b) (↑i + 1) (by omega) hs (by unfold lowOf; split <;> (try split) <;> omega) (by unfold highOf; split <;> (try split) <;> omega) (by omega)
  have M2 := more_is s (i + 2) 128 191 (↑i + 2) (by omega) hs (by omega) (by omega) (by omega)
  have M3 := more_is s (i + 3) 128 191 (↑i + 3) (by omega) hs (by omega) (by omega) (by omega)
  generalize moreV s (i + 1) (lowOf b) (highOf b) = x at *
  generalize moreV s (i + 2) 128 191 = y at *
  generalize moreV s (i + 3) 128 191 = z at *
  generalize Utf8.decode s i = d at *
  obtain ⟨d1, d2⟩ := d
  have k : (((b : Int) == 240) = true ∧ ((b : Int) == 244) = false ∧ lowOf b = 144 ∧ highOf b = 191) ∨ (((b : Int) == 240) = false ∧ ((b : Int) == 244) = true ∧ lowOf b = 128 ∧ highOf b = 143) ∨
      (((b : Int) == 240) = false ∧ ((b : Int) == 244) = false ∧ lowOf b = 128 ∧ highOf b = 191) := by
    unfold lowOf highOf
    by_cases k1 : b = 240
    · left; subst k1; simp
    · by_cases k2 : b = 244
      · right; left; subst k2; simp
      · right; right
        refine ⟨by simp; omega, by simp; omega, ?_, ?_⟩ <;> repeat (first | rw [if_neg (by omega)])
  have E1 := Lib.hid D1
  have E2 := Lib.hid D2
  clear D1 D2
  rcases k with ⟨k1, k2, k3, k4⟩ | ⟨k1, k2, k3, k4⟩ | ⟨k1, k2, k3, k4⟩
  all_goals
    rw [k3, k4] at M1
    clear k3 k4
    go_enter Tryd.func79, Tryd.ntmps79
    go_wp2_with fail
    refine (M1 _).mono ?_
    rintro e w' ⟨rfl, rfl⟩
    go_wp2_with fail
    refine (M2 _).mono ?_
    rintro e w' ⟨rfl, rfl⟩
    go_wp2_with fail
    refine (M3 _).mono ?_
    rintro e w' ⟨rfl, rfl⟩
    by_cases hn : x < 0 ∨ y < 0 ∨ z < 0
    · obtain ⟨rfl, rfl⟩ := Prod.mk.inj (E1.out hn)
      by_cases hx : x < 0
      · go_wp2
        exact bodyPost_ret (v := .agg #[.int .i64 65533, .int .i64 1]) (by simp [results, Tryd.results79, go_sem]) rfl ⟨rfl, (Below.refl _ _).alloc (Nat.le_refl _) _⟩
      · by_cases hy : y < 0
        · go_wp2
          exact bodyPost_ret (v := .agg #[.int .i64 65533, .int .i64 1]) (by simp [results, Tryd.results79, go_sem]) rfl ⟨rfl, (Below.refl _ _).alloc (Nat.le_refl _) _⟩
        · have hz : z < 0 := by omega
          go_wp2
          exact bodyPost_ret (v := .agg #[.int .i64 65533, .int .i64 1]) (by simp [results, Tryd.results79, go_sem]) rfl ⟨rfl, (Below.refl _ _).alloc (Nat.le_refl _) _⟩
    · have hx : 0 ≤ x := by omega
      have hy : 0 ≤ y := by omega
      have hz : 0 ≤ z := by omega
      clear hn
      go_wp2
      refine bodyPost_ret (v := .agg #[.int .i64 ((b - 240) * 262144 + x * 4096 + y * 64 + z), .int .i64 4]) (by simp [results, Tryd.results79, go_sem]) rfl ⟨?_, (Below.refl _ _).alloc (Nat.le_refl _) _⟩
      obtain ⟨r1, r2⟩ := E2.out hx hy hz
      exact pair_ret r1 (by simp only [r2]; rfl)
end Go.Proofs.YtjolhiofllpejaaDoor
