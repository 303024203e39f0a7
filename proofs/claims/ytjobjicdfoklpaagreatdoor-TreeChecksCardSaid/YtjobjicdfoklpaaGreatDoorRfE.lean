/- Contract of publisherref04.inlineFields. -/
import Derived.Test.YtjobjicdfoklpaaGreatDoorRfF
import Derived.Test.YtjobjicdfoklpaaGreatDoorChF
import Derived.BigGuardPart
namespace Go.Proofs.YtjobjicdfoklpaaGreatDoor
open Go.RowKit
set_option linter.unusedVariables false
set_option linter.unusedSimpArgs false

theorem kind_pat (k : Int) : (k < 1 ∨ 16 < k) ∨ (1 ≤ k ∧ k ≤ 16) ∧ (
    (([1, 4, 5, 9, 10, 12, 14, 15] : List Int).contains k = true ∧ ([9, 10, 16] : List Int).contains k = false ∧ ([9, 10, 14] : List Int).contains k = false ∧ ([10, 11] : List Int).contains k = false ∧ ([6, 7, 8, 9, 10, 11] : List Int).contains k = false ∧ (k == 15) = false ∧ (k == 13) = false) ∨
    (([1, 4, 5, 9, 10, 12, 14, 15] : List Int).contains k = false ∧ ([9, 10, 16] : List Int).contains k = false ∧ ([9, 10, 14] : List Int).contains k = false ∧ ([10, 11] : List Int).contains k = false ∧ ([6, 7, 8, 9, 10, 11] : List Int).contains k = false ∧ (k == 15) = false ∧ (k == 13) = false) ∨
    (([1, 4, 5, 9, 10, 12, 14, 15] : List Int).contains k = false ∧ ([9, 10, 16] : List Int).contains k = false ∧ ([9, 10, 14] : List Int).contains k = false ∧ ([10, 11] : List Int).contains k = false ∧ ([6, 7, 8, 9, 10, 11] : List Int).contains k = true ∧ (k == 15) = false ∧ (k == 13) = false) ∨
    (([1, 4, 5, 9, 10, 12, 14, 15] : List Int).contains k = true ∧ ([9, 10, 16] : List Int).contains k = true ∧ ([9, 10, 14] : List Int).contains k = true ∧ ([10, 11] : List Int).contains k = false ∧ ([6, 7, 8, 9, 10, 11] : List Int).contains k = true ∧ (k == 15) = false ∧ (k == 13) = false) ∨
    (([1, 4, 5, 9, 10, 12, 14, 15] : List Int).contains k = true ∧ ([9, 10, 16] : List Int).contains k = true ∧ ([9, 10, 14] : List Int).contains k = true ∧ ([10, 11] : List Int).contains k = true ∧ ([6, 7, 8, 9, 10, 11] : List Int).contains k = true ∧ (k == 15) = false ∧ (k == 13) = false) ∨
    (([1, 4, 5, 9, 10, 12, 14, 15] : List Int).contains k = false ∧ ([9, 10, 16] : List Int).contains k = false ∧ ([9, 10, 14] : List Int).contains k = false ∧ ([10, 11] : List Int).contains k = true ∧ ([6, 7, 8, 9, 10, 11] : List Int).contains k = true ∧ (k == 15) = false ∧ (k == 13) = false) ∨
    (([1, 4, 5, 9, 10, 12, 14, 15] : List Int).contains k = false ∧ ([9, 10, 16] : List Int).contains k = false ∧ ([9, 10, 14] : List Int).contains k = false ∧ ([10, 11] : List Int).contains k = false ∧ ([6, 7, 8, 9, 10, 11] : List Int).contains k = false ∧ (k == 15) = false ∧ (k == 13) = true) ∨
    (([1, 4, 5, 9, 10, 12, 14, 15] : List Int).contains k = true ∧ ([9, 10, 16] : List Int).contains k = false ∧ ([9, 10, 14] : List Int).contains k = true ∧ ([10, 11] : List Int).contains k = false ∧ ([6, 7, 8, 9, 10, 11] : List Int).contains k = false ∧ (k == 15) = false ∧ (k == 13) = false) ∨
    (([1, 4, 5, 9, 10, 12, 14, 15] : List Int).contains k = true ∧ ([9, 10, 16] : List Int).contains k = false ∧ ([9, 10, 14] : List Int).contains k = false ∧ ([10, 11] : List Int).contains k = false ∧ ([6, 7, 8, 9, 10, 11] : List Int).contains k = false ∧ (k == 15) = true ∧ (k == 13) = false) ∨
    (([1, 4, 5, 9, 10, 12, 14, 15] : List Int).contains k = false ∧ ([9, 10, 16] : List Int).contains k = true ∧ ([9, 10, 14] : List Int).contains k = false ∧ ([10, 11] : List Int).contains k = false ∧ ([6, 7, 8, 9, 10, 11] : List Int).contains k = false ∧ (k == 15) = false ∧ (k == 13) = false)) := by
  rcases in_kinds k with rfl | rfl | rfl | rfl | rfl | rfl | rfl | rfl | rfl | rfl | rfl | rfl | rfl | rfl | rfl | rfl | hk
  case inr.inr.inr.inr.inr.inr.inr.inr.inr.inr.inr.inr.inr.inr.inr.inr => exact .inl hk
  all_goals (right; simp)

set_option maxRecDepth 100000 in
set_option maxHeartbeats 8000000 in
theorem rInlineFields_any (w : World) (k : Int) (t d ti : ByteArray) (at_ : At) (ar : List ByteArray) (ci : List Ci) (ks : List Inl) (ac ap aa ai ak : Option Addr) (cc cp ca cai ck : Nat)
    (h : InR (· < w.heap.size) w at_ ar ci ks (.slice ac at_.cls.length cc) (.slice ap at_.prs.length cp) (.slice aa ar.length ca) (.slice ai ci.length cai) (.slice ak ks.length ck)) :
    Calls Tryz.prog 283 #[.agg #[.int .i64 k, .string t, .string d, .string ti, .string at_.id, .slice ac at_.cls.length cc, .slice ap at_.prs.length cp, .slice aa ar.length ca, .slice ai ci.length cai, .slice ak ks.length ck]] w (RetB (.bool (inFields k t d ti at_ ar ci ks)) w) := by
  have l1 := (sl_len h.at_.cls).2
  have l2 := (sl_len h.at_.prs).2
  obtain ⟨-, l3, m3⟩ := sl_len h.args
  obtain ⟨-, l4, m4⟩ := sl_len h.cites
  obtain ⟨-, l5, m5⟩ := sl_len h.kids
  unfold maxLen at m3 m4 m5
  have AE := Lib.hid (fun w => rNoAttr_any at_ ac ap cc cp w (by omega) (by omega))
  clear l1 l2
  have HV : Hid (inFields k t d ti at_ ar ci ks = (decide (1 ≤ k) && decide (k ≤ 16) && (([1, 4, 5, 9, 10, 12, 14, 15] : List Int).contains k || t.toList.isEmpty) && (([9, 10, 16] : List Int).contains k || d.toList.isEmpty) && (([9, 10, 14] : List Int).contains k || ti.toList.isEmpty) &&
  (([10, 11] : List Int).contains k || at_.none) && (([6, 7, 8, 9, 10, 11] : List Int).contains k || ((ks.length : Int) == 0)) && ((k == 15) || ((ar.length : Int) == 0)) && ((k == 13) || ((ci.length : Int) == 0)))) := by
    show _ = _
    rw [emp_eq, emp_eq, emp_eq, len0, len0, len0]
    rfl
  obtain ⟨V, hV⟩ : ∃ V, V = inFields k t d ti at_ ar ci ks := ⟨_, rfl⟩
  rw [← hV] at HV ⊢
  have hpat0 := kind_pat k
  have IL1 := Lib.hid (fun (w : World) => in_lit k [1, 4, 5, 9, 10, 12, 14, 15] w 3 (by decide))
  have IL2 := Lib.hid (fun (w : World) => in_lit k [9, 10, 16] w 3 (by decide))
  have IL3 := Lib.hid (fun (w : World) => in_lit k [9, 10, 14] w 3 (by decide))
  have IL4 := Lib.hid (fun (w : World) => in_lit k [10, 11] w 3 (by decide))
  have IL5 := Lib.hid (fun (w : World) => in_lit k [6, 7, 8, 9, 10, 11] w 3 (by decide))
  generalize ([1, 4, 5, 9, 10, 12, 14, 15] : List Int).contains k = b1 at *
  generalize ([9, 10, 16] : List Int).contains k = b2 at *
  generalize ([9, 10, 14] : List Int).contains k = b3 at *
  generalize ([10, 11] : List Int).contains k = b4 at *
  generalize ([6, 7, 8, 9, 10, 11] : List Int).contains k = b5 at *
  generalize at_.none = bn at *
  obtain ⟨w1, hw1⟩ : ∃ w1, w1 = w.alloc (.cells #[.int .i64 k, .string t, .string d, .string ti, .string at_.id, .slice ac at_.cls.length cc, .slice ap at_.prs.length cp, .slice aa ar.length ca, .slice ai ci.length cai, .slice ak ks.length ck] 47) := ⟨_, rfl⟩
  have k1 : CB 47 w.heap.size [.int .i64 k, .string t, .string d, .string ti, .string at_.id, .slice ac at_.cls.length cc, .slice ap at_.prs.length cp, .slice aa ar.length ca, .slice ai ci.length cai, .slice ak ks.length ck] w1 := by rw [hw1]; exact CB.new _ _ _
  have B1 : Hid (Below w.heap.size w w1) := by show Below _ _ _; rw [hw1]; exact (Below.refl _ _).alloc (Nat.le_refl _) _
  have p0 := k1.cell 0 _ rfl
  have K1 := Lib.hid k1
  clear hV h k1
  go_enter Tryz.func283, Tryz.ntmps283
  simp only [List.append_eq, List.cons_append, List.nil_append]
  go_upto_region 1 with (fail)
  rw [← hw1]
  clear hw1
  go_wp2_with fail
  refine (IL1.out w1).mono ?_
  rintro e w2 ⟨rfl, b2⟩
  have K2 := Lib.hid (K1.out.below b2)
  have B2 := Lib.hid (below_trans_size B1.out b2)
  have p0 := K2.out.cell 0 _ rfl
  clear b2 K1 B1
  go_wp2_with fail
  refine (IL2.out w2).mono ?_
  rintro e w3 ⟨rfl, b3⟩
  have K3 := Lib.hid (K2.out.below b3)
  have B3 := Lib.hid (below_trans_size B2.out b3)
  have p0 := K3.out.cell 0 _ rfl
  clear b3 K2 B2
  go_wp2_with fail
  refine (IL3.out w3).mono ?_
  rintro e w4 ⟨rfl, b4⟩
  have K4 := Lib.hid (K3.out.below b4)
  have B4 := Lib.hid (below_trans_size B3.out b4)
  have p0 := K4.out.cell 0 _ rfl
  clear b4 K3 B3
  go_wp2_with fail
  refine (IL4.out w4).mono ?_
  rintro e w5 ⟨rfl, b5⟩
  have K5 := Lib.hid (K4.out.below b5)
  have B5 := Lib.hid (below_trans_size B4.out b5)
  have p0 := K5.out.cell 0 _ rfl
  clear b5 K4 B4
  go_wp2_with fail
  refine (IL5.out w5).mono ?_
  rintro e w6 ⟨rfl, b6⟩
  have K6 := Lib.hid (K5.out.below b6)
  have B6 := Lib.hid (below_trans_size B5.out b6)
  have p0 := K6.out.cell 0 _ rfl
  clear b6 K5 B5

  have p0 := K6.out.cell 0 _ rfl
  have p1 := K6.out.cell 1 _ rfl
  have p2 := K6.out.cell 2 _ rfl
  have p3 := K6.out.cell 3 _ rfl
  have p4 := K6.out.cell 4 _ rfl
  have p5 := K6.out.cell 5 _ rfl
  have p6 := K6.out.cell 6 _ rfl
  have p7 := K6.out.cell 7 _ rfl
  have p8 := K6.out.cell 8 _ rfl
  have p9 := K6.out.cell 9 _ rfl
  rcases hpat0 with hk | ⟨⟨hk1, hk2⟩, hpat⟩
  · have hv : V = false := by
      rw [HV.out]
      have : (decide (1 ≤ k) && decide (k ≤ 16)) = false := by rw [Bool.and_eq_false_iff]; simp; omega
      rw [this]; rfl
    have HE := Lib.hid hv
    by_cases hk1 : 1 ≤ k
    · have q1 : decide ((1 : Int) ≤ k) = true := by simpa using hk1
      have q2 : decide (k ≤ (16 : Int)) = false := by simp; omega
      clear hv hk
      go_wp2
      go_ret
      exact ⟨by rw [HE.out]; rfl, B6.out⟩
    · have q1 : decide ((1 : Int) ≤ k) = false := by simpa using hk1
      clear hv hk
      go_wp2
      go_ret
      exact ⟨by rw [HE.out]; rfl, B6.out⟩
  have q1 : decide ((1 : Int) ≤ k) = true := by simpa using hk1
  have q2 : decide (k ≤ (16 : Int)) = true := by simpa using hk2
  rw [q1, q2] at HV
  generalize hq15 : (k == 15) = q15 at *
  generalize hq13 : (k == 13) = q13 at *
  clear hk1 hk2
  rcases hpat with ⟨rfl, rfl, rfl, rfl, rfl, rfl, rfl⟩ | ⟨rfl, rfl, rfl, rfl, rfl, rfl, rfl⟩ | ⟨rfl, rfl, rfl, rfl, rfl, rfl, rfl⟩ | ⟨rfl, rfl, rfl, rfl, rfl, rfl, rfl⟩ | ⟨rfl, rfl, rfl, rfl, rfl, rfl, rfl⟩ | ⟨rfl, rfl, rfl, rfl, rfl, rfl, rfl⟩ | ⟨rfl, rfl, rfl, rfl, rfl, rfl, rfl⟩ | ⟨rfl, rfl, rfl, rfl, rfl, rfl, rfl⟩ | ⟨rfl, rfl, rfl, rfl, rfl, rfl, rfl⟩ | ⟨rfl, rfl, rfl, rfl, rfl, rfl, rfl⟩
  all_goals
    go_wp2_with (go_at_call 182; refine (AE.out _).mono ?_; rintro e w7 ⟨rfl, hb7⟩; have K7 := K6.out.below hb7; have p7 := K7.cell 7 _ rfl; have p8 := K7.cell 8 _ rfl; have p9 := K7.cell 9 _ rfl; have p0 := K7.cell 0 _ rfl)
    all_goals
      go_ret
      refine ⟨ret_bool ?_, ?_⟩
      · rw [HV.out]
        (try simp only [*])
        (try simp)
        (try (simp only [← List.length_eq_zero_iff]; omega))
      · first | exact below_trans_size B6.out hb7 | exact B6.out
end Go.Proofs.YtjobjicdfoklpaaGreatDoor
