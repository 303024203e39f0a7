/- The contract of tree.checkLink. The contract of tree.checkInline. -/
import Derived.Test.YtjobjicdfoklpaaGreatDoorChN
namespace Go.Proofs.YtjobjicdfoklpaaGreatDoor
open Go.RowKit
set_option linter.unusedVariables false
set_option linter.unusedSimpArgs false

theorem sl_eq {ok : Nat → Prop} {w : World} {k : Nat} {l : List D} {a : Option Addr} {n c : Nat} (h : Rd ok w (.sl k l) [.slice a n c]) : Rd ok w (.sl k l) [.slice a n c] := h

set_option maxRecDepth 100000 in
set_option maxHeartbeats 8000000 in
theorem checkLink_any (w : World) (b o : Nat) (k : Int) (t d ti : ByteArray) (at_ : At) (ar : List ByteArray) (ci : List Ci) (ks : List Inl) (ac ap aa ai ak : Option Addr) (cc cp ca cai ck : Nat)
    (h : InP w b o k t d ti at_ ar ci ks ac ap aa ai ak cc cp ca cai ck) (hs : InS t d ti at_ ar ci) (hk : k = 9 ∨ k = 10) :
    Calls Tryz.prog 202 #[.pointer (some ⟨b, o, none⟩)] w (RetB (.int .i64 (targetErr k t d ti at_ ks : Nat)) w) := by
  have HP := Lib.hid h
  obtain ⟨s1, s2, s3, s4, -, -⟩ := hs
  have LT := Lib.hid (fun w => label_any t w (by omega))
  have CD := Lib.hid (fun w => tLine_any d w (by omega))
  have CT := Lib.hid (fun w => tLine_any ti w (by omega))
  have AC := Lib.hid (fun wx (hb : Below w.heap.size w wx) => aCheck_any at_ ac ap cc cp wx (h.rd.at_.up hb) s4)
  have AK := Lib.hid (fun wx q (hb : Below w.heap.size w wx) => anyKind_any _ ks _ _ [9, 16, 12, 14, 13] wx.heap.size 5 ((wx.alloc (.cells #[.int .i64 9, .int .i64 16, .int .i64 12, .int .i64 14, .int .i64 13] 3)).drewN q) (Nat.le_refl _)
    ((h.rd.kids.up hb).up (below_dN ((Below.refl _ _).alloc (Nat.le_refl _) _) q)) (by simp) (ints5 wx 3 9 16 12 14 13))
  simp only [List.length_cons, List.length_nil, Nat.reduceAdd] at AK
  obtain ⟨c0, c1, c2, c3, c4, c5, c6, c7, c8, c9⟩ := h.cells
  have HE : Hid (targetErr k t d ti at_ ks = if emptyS t = false ∧ (emptyS d = false ∨ emptyS ti = false) then 5
  else if emptyS t = false ∧ labelS t = false then 6
  else if lineS d = false ∨ lineS ti = false then 17
  else if k = 9 ∧ Inl.anyL refKinds ks = true then 5
  else if k = 10 then at_.err else 0) := rfl
  have hrk : Inl.anyL [9, 16, 12, 14, 13] ks = Inl.anyL refKinds ks := rfl
  rw [hrk] at AK
  obtain ⟨V, hV⟩ : ∃ V, V = targetErr k t d ti at_ ks := ⟨_, rfl⟩
  rw [← hV] at HE ⊢
  have HD := Lib.hid (emp_eq d).symm
  have HT := Lib.hid (emp_eq t).symm
  have HTI := Lib.hid (emp_eq ti).symm
  generalize labelS t = L at *
  generalize lineS d = L1 at *
  generalize lineS ti = L2 at *
  generalize Inl.anyL refKinds ks = K at *
  generalize at_.err = E at *
  clear hV h hrk s1 s2 s3 s4
  cases hT : t.toList.isEmpty <;> cases hD : d.toList.isEmpty <;> cases hTI : ti.toList.isEmpty <;> rcases hk with rfl | rfl
  all_goals
    go_enter Tryz.func202, Tryz.ntmps202
    go_wp2_with (first | (go_at_call 180; refine (LT.out _).mono ?_; rintro e w2 ⟨rfl, hb1⟩; obtain ⟨p0, p1, p2, p3, p4, p5, p6, p7, p8, p9⟩ := (HP.out.up hb1).cells) | (go_at_call 69; (with_reducible refine (CD.out _).mono ?_); rintro e w2 ⟨rfl, q, rfl⟩) | (go_at_call 69; (with_reducible refine (CT.out _).mono ?_); rintro e w2 ⟨rfl, q2, rfl⟩) | (go_at_call 179; refine (AC.out _ (by first | exact below_dN hb1 _ | exact below_dN (Below.refl _ _) _)).mono ?_; rintro e w2 ⟨rfl, hb3⟩) | (go_at_call 213; refine (AK.out _ _ (by first | exact hb1 | exact Below.refl _ _)).mono ?_; rintro e w2 ⟨rfl, rfl⟩))
    all_goals
      go_ret
      refine ⟨ret_i64 ?_, ?_⟩
      · (try simp only [Bool.not_eq_true', Bool.not_eq_false'] at *)
        rw [HE.out, HD.out, HT.out, HTI.out, hT, hD, hTI]
        simp [*]
      · first
        | exact below_trans_size (below_dN hb1 _) hb3 | exact below_trans_size (below_dN (Below.refl _ _) _) hb3
        | exact below_dN (hb1.alloc hb1.size _) _ | exact below_dN ((Below.refl _ _).alloc (Nat.le_refl _) _) _
        | exact below_dN hb1 _ | exact below_dN (Below.refl _ _) _ | exact hb1 | exact Below.refl _ _
end Go.Proofs.YtjobjicdfoklpaaGreatDoor

namespace Go.Proofs.YtjobjicdfoklpaaGreatDoor
open Go.RowKit
set_option linter.unusedVariables false
set_option linter.unusedSimpArgs false

theorem fields_and {k : Int} {t d ti : ByteArray} {a : At} {ar : List ByteArray} {ci : List Ci} {ks : List Inl} (h : inFields k t d ti a ar ci ks = true) : 1 ≤ k ∧ k ≤ 16 ∧ (k = 15 ∨ ar = []) := by
  unfold inFields at h
  simp only [Bool.and_eq_true, Bool.or_eq_true, decide_eq_true_eq] at h
  obtain ⟨⟨⟨⟨⟨⟨⟨⟨h1, h2⟩, -⟩, -⟩, -⟩, -⟩, -⟩, h8⟩, -⟩ := h
  refine ⟨h1, h2, ?_⟩
  rcases h8 with h | h
  · exact .inl h
  · exact .inr (by simpa using h)

set_option maxRecDepth 100000 in
set_option maxHeartbeats 8000000 in
theorem checkInline_any (w : World) (b o : Nat) (k bf : Int) (t d ti : ByteArray) (at_ : At) (ar : List ByteArray) (ci : List Ci) (ks : List Inl) (ac ap aa ai ak : Option Addr) (cc cp ca cai ck : Nat)
    (h : InP w b o k t d ti at_ ar ci ks ac ap aa ai ak cc cp ca cai ck) (hs : InS t d ti at_ ar ci) (hf : inFields k t d ti at_ ar ci ks = true) :
    Calls Tryz.prog 165 #[.pointer (some ⟨b, o, none⟩), .int .i64 bf] w (RetB (.int .i64 (oneErr bf false false k t d ti at_ ar ci ks : Nat)) w) := by
  have HP := Lib.hid h
  obtain ⟨f1, f2, f3⟩ := fields_and hf
  have l1 := (sl_len h.rd.at_.cls).2
  have l2 := (sl_len h.rd.at_.prs).2
  obtain ⟨-, l5, m5⟩ := sl_len h.rd.kids
  have AE := Lib.hid (fun w => aEmpty_any at_ ac ap cc cp w (by omega) (by omega))
  unfold maxLen at m5
  clear l1 l2
  have CL := Lib.hid (fun w => tLine_any t w (by have := hs.t; omega))
  have AC := Lib.hid (fun wx (hb : Below w.heap.size w wx) => aCheck_any at_ ac ap cc cp wx (h.rd.at_.up hb) hs.at_)
  have LK := Lib.hid (checkLink_any w b o k t d ti at_ ar ci ks ac ap aa ai ak cc cp ca cai ck h hs)
  have NM := Lib.hid (fun hk => checkNamed_any w b o k t d ti at_ ar ci ks ac ap aa ai ak cc cp ca cai ck h hs hk f3)
  have CC := Lib.hid (checkCites_any ci ai cai w h.rd.cites hs.cis)
  have AD := Lib.hid (address_any d w (by have := hs.d; omega))
  have OO := Lib.hid (oneOf_any bf [2, 3] w.heap.size 2 _ (by simp) (ints2 w 3 2 3))
  simp only [List.length_cons, List.length_nil, Nat.reduceAdd] at OO
  have hoo : ([2, 3] : List Int).contains bf = (decide (bf = 2) || decide (bf = 3)) := by rw [Bool.eq_iff_iff]; simp
  rw [hoo] at OO
  obtain ⟨c0, c1, c2, c3, c4, c5, c6, c7, c8, c9⟩ := h.cells
  have e3 := len0 ks
  have HE : Hid (oneErr bf false false k t d ti at_ ar ci ks = if inFields k t d ti at_ ar ci ks = false then 5
  else if k = 1 ∨ k = 4 ∨ k = 5 then (if emptyS t = true ∨ lineS t = false then 17 else if k ≠ 5 ∧ bf = k then 5 else 0)
  else if k = 2 then (if bf = 2 ∨ bf = 3 ∨ false = true ∨ false = true then 5 else 0)
  else if k = 3 then (if false = true then 5 else 0)
  else if k = 6 ∨ k = 7 ∨ k = 8 then (if ks.isEmpty = true then 8 else 0)
  else if k = 9 ∨ k = 10 then targetErr k t d ti at_ ks
  else if k = 11 then (if at_.none = true then 8 else at_.err)
  else if k = 12 ∨ k = 14 ∨ k = 15 then namedErr k t ti ar
  else if k = 13 then citesErr ci
  else if autoS d = true then 0 else 5) := rfl
  rw [hf] at HE
  obtain ⟨V, hV⟩ : ∃ V, V = oneErr bf false false k t d ti at_ ar ci ks := ⟨_, rfl⟩
  rw [← hV] at HE ⊢
  have HT := Lib.hid (emp_eq t).symm
  generalize lineS t = L at *
  generalize targetErr k t d ti at_ ks = E1 at *
  generalize at_.none = bn at *
  generalize at_.err = E2 at *
  generalize namedErr k t ti ar = E3 at *
  generalize citesErr ci = E4 at *
  generalize autoS d = bu at *
  generalize ks.isEmpty = bk at *
  clear hV h hs hf hoo
  rcases in_kinds k with rfl | rfl | rfl | rfl | rfl | rfl | rfl | rfl | rfl | rfl | rfl | rfl | rfl | rfl | rfl | rfl | hk
  case inr.inr.inr.inr.inr.inr.inr.inr.inr.inr.inr.inr.inr.inr.inr.inr => omega
  all_goals
    go_enter Tryz.func165, Tryz.ntmps165
    go_wp2_with (first | (go_at_call 69; refine (CL.out _).mono ?_; rintro e w2 ⟨rfl, q, rfl⟩) | (go_at_call 164; refine OO.out.mono ?_; rintro e w2 ⟨rfl, rfl⟩) | (go_at_call 202; refine (LK.out (by simp)).mono ?_; rintro e w2 ⟨rfl, hb3⟩) | (go_at_call 173; refine (AE.out _).mono ?_; rintro e w2 ⟨rfl, hb1⟩; obtain ⟨p0, p1, p2, p3, p4, p5, p6, p7, p8, p9⟩ := (HP.out.up hb1).cells) | (go_at_call 179; refine (AC.out _ hb1).mono ?_; rintro e w2 ⟨rfl, hb3⟩) | (go_at_call 203; refine (NM.out (by simp)).mono ?_; rintro e w2 ⟨rfl, hb3⟩) | (go_at_call 204; refine CC.out.mono ?_; rintro e w2 ⟨rfl, hb3⟩) | (go_at_call 205; refine AD.out.mono ?_; rintro e w2 ⟨rfl, hb3⟩))
    all_goals
      go_ret
      refine ⟨ret_i64 ?_, ?_⟩
      · (try simp only [Bool.not_eq_true', Bool.not_eq_false', beq_iff_eq, beq_eq_false_iff_ne, ne_eq] at *)
        rw [HE.out, HT.out]
        simp [*]
      · first
        | exact below_trans_size hb1 hb3 | exact hb3 | exact hb1
        | exact (Below.refl _ _).alloc (Nat.le_refl _) _
        | exact below_dN (Below.refl _ _) _ | exact Below.refl _ _
end Go.Proofs.YtjobjicdfoklpaaGreatDoor
