/- Contracts of tree.inlineFields, blockFields, fits. -/
import Derived.Test.YtjobjicdfoklpaaGreatDoorChH
import Derived.Test.YtjobjicdfoklpaaGreatDoorSmall
import Derived.BigGuardPart
namespace Go.Proofs.YtjobjicdfoklpaaGreatDoor
open Go.RowKit
set_option linter.unusedVariables false
set_option linter.unusedSimpArgs false

/-- An inline lies at a place. -/
structure InP (w : World) (b o : Nat) (k : Int) (t d ti : ByteArray) (at_ : At) (ar : List ByteArray) (ci : List Ci) (ks : List Inl) (ac ap aa ai ak : Option Addr) (cc cp ca cai ck : Nat) : Prop where
  cells : InCells w b o k t d ti at_.id (.slice ac at_.cls.length cc) (.slice ap at_.prs.length cp) (.slice aa ar.length ca) (.slice ai ci.length cai) (.slice ak ks.length ck)
  rd : InR (· < w.heap.size) w at_ ar ci ks (.slice ac at_.cls.length cc) (.slice ap at_.prs.length cp) (.slice aa ar.length ca) (.slice ai ci.length cai) (.slice ak ks.length ck)
  lt : b < w.heap.size
theorem InR.up {w w' : World} {at_ : At} {ar : List ByteArray} {ci : List Ci} {ks : List Inl} {vc vp va vi vk : Value} (h : InR (· < w.heap.size) w at_ ar ci ks vc vp va vi vk) (hb : Below w.heap.size w w') : InR (· < w'.heap.size) w' at_ ar ci ks vc vp va vi vk :=
  ⟨h.at_.up hb, h.args.up hb, h.cites.up hb, h.kids.up hb⟩
theorem InP.up {w w' : World} {b o : Nat} {k : Int} {t d ti : ByteArray} {at_ : At} {ar : List ByteArray} {ci : List Ci} {ks : List Inl} {ac ap aa ai ak : Option Addr} {cc cp ca cai ck : Nat}
    (h : InP w b o k t d ti at_ ar ci ks ac ap aa ai ak cc cp ca cai ck) (hb : Below w.heap.size w w') : InP w' b o k t d ti at_ ar ci ks ac ap aa ai ak cc cp ca cai ck :=
  ⟨h.cells.at2 (hb.block b h.lt), h.rd.up hb, Nat.lt_of_lt_of_le h.lt hb.size⟩
theorem sl_len {ok : Nat → Prop} {w : World} {k : Nat} {l : List D} {a : Option Addr} {n c : Nat} (h : Rd ok w (.sl k l) [.slice a n c]) : n = l.length ∧ n ≤ c ∧ c ≤ maxLen := by
  obtain ⟨a', c', h1, h2⟩ := h.sl_open
  have h3 : n = l.length ∧ c = c' := by simp at h1; exact ⟨h1.2.1, h1.2.2⟩
  obtain ⟨rfl, rfl⟩ := h3
  exact ⟨rfl, h2.le, h2.max⟩
theorem in_kinds (k : Int) : k = 1 ∨ k = 2 ∨ k = 3 ∨ k = 4 ∨ k = 5 ∨ k = 6 ∨ k = 7 ∨ k = 8 ∨ k = 9 ∨ k = 10 ∨ k = 11 ∨ k = 12 ∨ k = 13 ∨ k = 14 ∨ k = 15 ∨ k = 16 ∨ (k < 1 ∨ 16 < k) := by omega

set_option maxRecDepth 100000 in
set_option maxHeartbeats 8000000 in
theorem inlineFields_any (w : World) (b o : Nat) (k : Int) (t d ti : ByteArray) (at_ : At) (ar : List ByteArray) (ci : List Ci) (ks : List Inl) (ac ap aa ai ak : Option Addr) (cc cp ca cai ck : Nat)
    (h : InP w b o k t d ti at_ ar ci ks ac ap aa ai ak cc cp ca cai ck) :
    Calls Tryz.prog 163 #[.pointer (some ⟨b, o, none⟩)] w (RetB (.bool (inFields k t d ti at_ ar ci ks)) w) := by
  have l1 := (sl_len h.rd.at_.cls).2
  have l2 := (sl_len h.rd.at_.prs).2
  obtain ⟨-, l3, m3⟩ := sl_len h.rd.args
  obtain ⟨-, l4, m4⟩ := sl_len h.rd.cites
  obtain ⟨-, l5, m5⟩ := sl_len h.rd.kids
  unfold maxLen at m3 m4 m5
  have AE := Lib.hid (fun w => aEmpty_any at_ ac ap cc cp w (by omega) (by omega))
  clear l1 l2
  have HP := Lib.hid h
  obtain ⟨c0, c1, c2, c3, c4, c5, c6, c7, c8, c9⟩ := h.cells
  have e1 := len0 ar
  have e2 := len0 ci
  have e3 := len0 ks
  have HV : Hid (inFields k t d ti at_ ar ci ks = (decide (1 ≤ k) && decide (k ≤ 16) && (([1, 4, 5, 9, 10, 12, 14, 15] : List Int).contains k || emptyS t) && (([9, 10, 16] : List Int).contains k || emptyS d) && (([9, 10, 14] : List Int).contains k || emptyS ti) &&
  (([10, 11] : List Int).contains k || at_.none) && (([6, 7, 8, 9, 10, 11] : List Int).contains k || ks.isEmpty) && (decide (k = 15) || ar.isEmpty) && (decide (k = 13) || ci.isEmpty))) := rfl
  have HD := Lib.hid (emp_eq d).symm
  have HT := Lib.hid (emp_eq t).symm
  have HTI := Lib.hid (emp_eq ti).symm
  obtain ⟨V, hV⟩ : ∃ V, V = inFields k t d ti at_ ar ci ks := ⟨_, rfl⟩
  rw [← hV] at HV ⊢
  generalize at_.none = bn at *
  generalize ar.isEmpty = ba at *
  generalize ci.isEmpty = bc at *
  generalize ks.isEmpty = bk at *
  clear hV h
  rcases in_kinds k with rfl | rfl | rfl | rfl | rfl | rfl | rfl | rfl | rfl | rfl | rfl | rfl | rfl | rfl | rfl | rfl | hk
  case inr.inr.inr.inr.inr.inr.inr.inr.inr.inr.inr.inr.inr.inr.inr.inr =>
    have hv : V = false := by
      rw [HV.out]
      have : (decide (1 ≤ k) && decide (k ≤ 16)) = false := by rw [Bool.and_eq_false_iff]; simp; omega
      rw [this]; rfl
    have HE := Lib.hid hv
    rcases hk with hk | hk
    all_goals
      clear hv e1 e2 e3
      go_enter Tryz.func163, Tryz.ntmps163
      simp only [List.append_eq, List.cons_append, List.nil_append]
      go_wp2
      go_ret
      exact ⟨by rw [HE.out]; rfl, Below.refl _ _⟩
  all_goals
    go_enter Tryz.func163, Tryz.ntmps163
    simp only [List.append_eq, List.cons_append, List.nil_append]
    go_wp2_with (go_at_call 173; refine (AE.out _).mono ?_; rintro e w1 ⟨rfl, hb1⟩; obtain ⟨p0, p1, p2, p3, p4, p5, p6, p7, p8, p9⟩ := (HP.out.up hb1).cells)
    all_goals
      go_ret
      refine ⟨ret_bool ?_, ?_⟩
      · rw [HV.out, HD.out, HT.out, HTI.out]
        simp only [*]
        simp
      · first | exact hb1 | exact Below.refl _ _
end Go.Proofs.YtjobjicdfoklpaaGreatDoor
