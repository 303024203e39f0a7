/- Contracts of publisherref04.target, one. Contracts of publisherref04.list, Line: the first error of inlines. -/
import Derived.Test.YtlbioncagkkkoaaGreatDoorKRfD
import Derived.Test.YtlbioncagkkkoaaGreatDoorKRfE
import Derived.Test.YtlbioncagkkkoaaGreatDoorKRfH
import Derived.Test.YtlbioncagkkkoaaGreatDoorKChU
import Derived.BigGuardPart
import Derived.Deep.DeepCutAuto
namespace Go.Proofs.YtlbioncagkkkoaaGreatDoor
open Go.RowKit
set_option linter.unusedVariables false
set_option linter.unusedSimpArgs false

set_option maxRecDepth 100000 in
set_option maxHeartbeats 8000000 in
theorem rTarget_any (w : World) (k : Int) (t d ti : ByteArray) (at_ : At) (ar : List ByteArray) (ci : List Ci) (ks : List Inl) (ac ap aa ai ak : Option Addr) (cc cp ca cai ck : Nat)
    (h : InR (· < w.heap.size) w at_ ar ci ks (.slice ac at_.cls.length cc) (.slice ap at_.prs.length cp) (.slice aa ar.length ca) (.slice ai ci.length cai) (.slice ak ks.length ck)) (hs : InS t d ti at_ ar ci) (hk : k = 9 ∨ k = 10) :
    Calls Tryz.prog 247 #[.agg #[.int .i64 k, .string t, .string d, .string ti, .string at_.id, .slice ac at_.cls.length cc, .slice ap at_.prs.length cp, .slice aa ar.length ca, .slice ai ci.length cai, .slice ak ks.length ck]] w (RetB (.int .i64 (targetErr k t d ti at_ ks : Nat)) w) := by
  obtain ⟨s1, s2, s3, s4, -, -⟩ := hs
  have LT := Lib.hid (fun w => rLabel_any t w (by omega))
  have CD := Lib.hid (fun w => rLine_any d w (by omega))
  have CT := Lib.hid (fun w => rLine_any ti w (by omega))
  have AC := Lib.hid (fun wx (hb : Below w.heap.size w wx) => rCheck3_any at_ ac ap cc cp wx (h.at_.up hb) s4)
  have AK := Lib.hid (fun wx (hb : Below w.heap.size w wx) => rAnyOf_any _ ks (.slice ak ks.length ck) false wx (Nat.le_refl _) (h.kids.up hb))
  change Hid (∀ wx, Below w.heap.size w wx → Calls Tryz.prog 170 #[.slice ak ks.length ck, .bool false] wx (RetB (.bool (Inl.anyL refKinds ks)) wx)) at AK
  have HE : Hid (targetErr k t d ti at_ ks = if emptyS t = false ∧ (emptyS d = false ∨ emptyS ti = false) then 5
  else if emptyS t = false ∧ labelS t = false then 6
  else if lineS d = false ∨ lineS ti = false then 17
  else if k = 9 ∧ Inl.anyL refKinds ks = true then 5
  else if k = 10 then at_.err else 0) := rfl
  obtain ⟨V, hV⟩ : ∃ V, V = targetErr k t d ti at_ ks := ⟨_, rfl⟩
  rw [← hV] at HE ⊢
  have HD := Lib.hid (emp_eq d).symm
  have HT := Lib.hid (emp_eq t).symm
  have HTI := Lib.hid (emp_eq ti).symm
  generalize labelS t = L at *
  generalize lineS d = L1 at *
  generalize lineS ti = L2 at *
  generalize Inl.anyL refKinds ks = A at *
  generalize at_.err = E at *
  obtain ⟨w1, hw1⟩ : ∃ w1, w1 = w.alloc (.cells #[.int .i64 k, .string t, .string d, .string ti, .string at_.id, .slice ac at_.cls.length cc, .slice ap at_.prs.length cp, .slice aa ar.length ca, .slice ai ci.length cai, .slice ak ks.length ck] 47) := ⟨_, rfl⟩
  have k1 : CB 47 w.heap.size [.int .i64 k, .string t, .string d, .string ti, .string at_.id, .slice ac at_.cls.length cc, .slice ap at_.prs.length cp, .slice aa ar.length ca, .slice ai ci.length cai, .slice ak ks.length ck] w1 := by rw [hw1]; exact CB.new _ _ _
  have b1 : Below w.heap.size w w1 := by rw [hw1]; exact (Below.refl _ _).alloc (Nat.le_refl _) _
  have p0 := k1.cell 0 _ rfl
  have p1 := k1.cell 1 _ rfl
  have p2 := k1.cell 2 _ rfl
  have p3 := k1.cell 3 _ rfl
  have p4 := k1.cell 4 _ rfl
  have p5 := k1.cell 5 _ rfl
  have p6 := k1.cell 6 _ rfl
  have p7 := k1.cell 7 _ rfl
  have p8 := k1.cell 8 _ rfl
  have p9 := k1.cell 9 _ rfl
  have K1 := Lib.hid k1
  have B1 := Lib.hid b1
  clear hV h k1 b1 s1 s2 s3 s4
  go_enter Tryz.func247, Tryz.ntmps247
  (try simp only [List.append_eq, List.cons_append, List.nil_append])
  go_upto_region 1 with (fail)
  rw [← hw1]
  clear hw1
  cases hT : t.toList.isEmpty <;> cases hD : d.toList.isEmpty <;> cases hTI : ti.toList.isEmpty <;> rcases hk with rfl | rfl
  all_goals
    go_wp2_with (first
      | (go_at_call 142; refine (LT.out _).mono ?_; rintro e w2 ⟨rfl, hb2⟩; have K2 := K1.out.below hb2; have HB2 := Lib.hid (below_trans_size B1.out hb2); have p0 := K2.cell 0 _ rfl; have p2 := K2.cell 2 _ rfl; have p3 := K2.cell 3 _ rfl; have p4 := K2.cell 4 _ rfl; have p5 := K2.cell 5 _ rfl; have p6 := K2.cell 6 _ rfl; have p9 := K2.cell 9 _ rfl)
      | (go_at_call 42; (with_reducible refine (CD.out _).mono ?_); rintro e w3 ⟨rfl, hb3⟩; have K3 := (by first | exact K2.below hb3 | exact K1.out.below hb3 : CB 47 w.heap.size _ w3); have HB3 : Hid (Below w.heap.size w w3) := (by first | exact Lib.hid (below_trans_size HB2.out hb3) | exact Lib.hid (below_trans_size B1.out hb3)); have p0 := K3.cell 0 _ rfl; have p3 := K3.cell 3 _ rfl; have p4 := K3.cell 4 _ rfl; have p5 := K3.cell 5 _ rfl; have p6 := K3.cell 6 _ rfl; have p9 := K3.cell 9 _ rfl)
      | (go_at_call 42; (with_reducible refine (CT.out _).mono ?_); rintro e w4 ⟨rfl, hb4⟩; have K4 := K3.below hb4; have HB4 := Lib.hid (below_trans_size HB3.out hb4); have p0 := K4.cell 0 _ rfl; have p4 := K4.cell 4 _ rfl; have p5 := K4.cell 5 _ rfl; have p6 := K4.cell 6 _ rfl; have p9 := K4.cell 9 _ rfl)
      | (go_at_call 170; refine (AK.out _ HB4.out).mono ?_; rintro e w5 ⟨rfl, hb5⟩; have K5 := K4.below hb5; have HB5 := Lib.hid (below_trans_size HB4.out hb5); have p0 := K5.cell 0 _ rfl; have p4 := K5.cell 4 _ rfl; have p5 := K5.cell 5 _ rfl; have p6 := K5.cell 6 _ rfl; have p9 := K5.cell 9 _ rfl)
      | (go_at_call 140; refine (AC.out _ (by first | exact HB5.out | exact HB4.out)).mono ?_; rintro e w6 ⟨rfl, hb6⟩; have HB6 : Hid (Below w.heap.size w w6) := (by first | exact Lib.hid (below_trans_size HB5.out hb6) | exact Lib.hid (below_trans_size HB4.out hb6))))
    all_goals
      go_ret
      refine ⟨ret_i64 ?_, ?_⟩
      · (try simp only [Bool.not_eq_true', Bool.not_eq_false'] at *)
        rw [HE.out, HD.out, HT.out, HTI.out, hT, hD, hTI]
        simp [*]
      · first | exact HB6.out | exact HB5.out | exact HB4.out | exact HB3.out | exact HB2.out | exact B1.out

set_option maxRecDepth 100000 in
set_option maxHeartbeats 8000000 in
theorem rOne_any (w : World) (k : Int) (t d ti : ByteArray) (at_ : At) (ar : List ByteArray) (ci : List Ci) (ks : List Inl) (ac ap aa ai ak : Option Addr) (cc cp ca cai ck : Nat) (bf : Int) (fi la : Bool)
    (h : InR (· < w.heap.size) w at_ ar ci ks (.slice ac at_.cls.length cc) (.slice ap at_.prs.length cp) (.slice aa ar.length ca) (.slice ai ci.length cai) (.slice ak ks.length ck)) (hs : InS t d ti at_ ar ci) :
    Calls Tryz.prog 235 #[.agg #[.int .i64 k, .string t, .string d, .string ti, .string at_.id, .slice ac at_.cls.length cc, .slice ap at_.prs.length cp, .slice aa ar.length ca, .slice ai ci.length cai, .slice ak ks.length ck], .int .i64 bf, .bool fi, .bool la] w (RetB (.int .i64 (oneErr bf fi la k t d ti at_ ar ci ks : Nat)) w) := by
  have l1 := (sl_len h.at_.cls).2
  have l2 := (sl_len h.at_.prs).2
  obtain ⟨-, l5, m5⟩ := sl_len h.kids
  have AE := Lib.hid (fun w => rNoAttr_any at_ ac ap cc cp w (by omega) (by omega))
  unfold maxLen at m5
  clear l1 l2
  have CL := Lib.hid (fun w => rLine_any t w (by have := hs.t; omega))
  have AC := Lib.hid (fun wx (hb : Below w.heap.size w wx) => rCheck3_any at_ ac ap cc cp wx (h.at_.up hb) hs.at_)
  have LK := Lib.hid (fun wx (hb : Below w.heap.size w wx) hk => rTarget_any wx k t d ti at_ ar ci ks ac ap aa ai ak cc cp ca cai ck (h.up hb) hs hk)
  have NM := Lib.hid (fun wx (hb : Below w.heap.size w wx) => rNamed_any wx k t d ti at_ ar ci ks ac ap aa ai ak cc cp ca cai ck (h.up hb) hs)
  have CC := Lib.hid (fun wx (hb : Below w.heap.size w wx) => rCites_any ci ai cai wx (h.cites.up hb) hs.cis)
  have AD := Lib.hid (fun w => rAuto_any d w (by have := hs.d; omega))
  have FD := Lib.hid (fun wx (hb : Below w.heap.size w wx) => rInlineFields_any wx k t d ti at_ ar ci ks ac ap aa ai ak cc cp ca cai ck (h.up hb))
  have e3 := len0 ks
  have HE : Hid (oneErr bf fi la k t d ti at_ ar ci ks = if inFields k t d ti at_ ar ci ks = false then 5
  else if k = 1 ∨ k = 4 ∨ k = 5 then (if emptyS t = true ∨ lineS t = false then 17 else if k ≠ 5 ∧ bf = k then 5 else 0)
  else if k = 2 then (if bf = 2 ∨ bf = 3 ∨ fi = true ∨ la = true then 5 else 0)
  else if k = 3 then (if la = true then 5 else 0)
  else if k = 6 ∨ k = 7 ∨ k = 8 then (if ks.isEmpty = true then 8 else 0)
  else if k = 9 ∨ k = 10 then targetErr k t d ti at_ ks
  else if k = 11 then (if at_.none = true then 8 else at_.err)
  else if k = 12 ∨ k = 14 ∨ k = 15 then namedErr k t ti ar
  else if k = 13 then citesErr ci
  else if autoS d = true then 0 else 5) := rfl
  have HF := Lib.hid (fun hf => (fields_and (k := k) (t := t) (d := d) (ti := ti) (a := at_) (ar := ar) (ci := ci) (ks := ks) hf))
  obtain ⟨V, hV⟩ : ∃ V, V = oneErr bf fi la k t d ti at_ ar ci ks := ⟨_, rfl⟩
  rw [← hV] at HE ⊢
  have HT := Lib.hid (emp_eq t).symm
  generalize lineS t = L at *
  generalize targetErr k t d ti at_ ks = E1 at *
  generalize at_.none = bn at *
  generalize at_.err = E2 at *
  generalize namedErr k t ti ar = E3 at *
  generalize citesErr ci = E4 at *
  generalize autoS d = bu at *
  generalize ks.isEmpty = bk at *
  generalize inFields k t d ti at_ ar ci ks = bf0 at *
  obtain ⟨w1, hw1⟩ : ∃ w1, w1 = w.alloc (.cells #[.int .i64 k, .string t, .string d, .string ti, .string at_.id, .slice ac at_.cls.length cc, .slice ap at_.prs.length cp, .slice aa ar.length ca, .slice ai ci.length cai, .slice ak ks.length ck] 47) := ⟨_, rfl⟩
  have k1 : CB 47 w.heap.size [.int .i64 k, .string t, .string d, .string ti, .string at_.id, .slice ac at_.cls.length cc, .slice ap at_.prs.length cp, .slice aa ar.length ca, .slice ai ci.length cai, .slice ak ks.length ck] w1 := by rw [hw1]; exact CB.new _ _ _
  have b1 : Below w.heap.size w w1 := by rw [hw1]; exact (Below.refl _ _).alloc (Nat.le_refl _) _
  have p0 := k1.cell 0 _ rfl
  have p1 := k1.cell 1 _ rfl
  have p2 := k1.cell 2 _ rfl
  have p3 := k1.cell 3 _ rfl
  have p4 := k1.cell 4 _ rfl
  have p5 := k1.cell 5 _ rfl
  have p6 := k1.cell 6 _ rfl
  have p7 := k1.cell 7 _ rfl
  have p8 := k1.cell 8 _ rfl
  have p9 := k1.cell 9 _ rfl
  have K1 := Lib.hid k1
  have B1 := Lib.hid b1
  clear hV h hs k1 b1
  go_enter Tryz.func235, Tryz.ntmps235
  (try simp only [List.append_eq, List.cons_append, List.nil_append])
  go_upto_region 1 with (fail)
  rw [← hw1]
  clear hw1
  go_wp2_with fail
  refine (FD.out _ B1.out).mono ?_
  rintro e w2 ⟨rfl, hb2⟩
  have K2 := Lib.hid (K1.out.below hb2)
  have B2 := Lib.hid (below_trans_size B1.out hb2)
  clear p0 p1 p2 p3 p4 p5 p6 p7 p8 p9 hb2 FD K1 B1
  have p0 := K2.out.cell 0 _ rfl
  have p1 := K2.out.cell 1 _ rfl
  have p2 := K2.out.cell 2 _ rfl
  have p3 := K2.out.cell 3 _ rfl
  have p4 := K2.out.cell 4 _ rfl
  have p5 := K2.out.cell 5 _ rfl
  have p6 := K2.out.cell 6 _ rfl
  have p7 := K2.out.cell 7 _ rfl
  have p8 := K2.out.cell 8 _ rfl
  have p9 := K2.out.cell 9 _ rfl
  cases bf0 with
  | false =>
    have HV : Hid (V = 5) := HE.out
    clear p0 p1 p2 p3 p4 p5 p6 p7 p8 p9
    go_wp2
    go_ret
    exact ⟨by rw [HV.out]; rfl, B2.out⟩
  | true =>
  obtain ⟨f1, f2, -⟩ := HF.out rfl
  clear HF
  rcases in_kinds k with rfl | rfl | rfl | rfl | rfl | rfl | rfl | rfl | rfl | rfl | rfl | rfl | rfl | rfl | rfl | rfl | hk
  case inr.inr.inr.inr.inr.inr.inr.inr.inr.inr.inr.inr.inr.inr.inr.inr => omega
  all_goals
    go_wp2_with (first
      | (go_at_call 42; refine (CL.out _).mono ?_; rintro e w3 ⟨rfl, hb3⟩; have K3 := K2.out.below hb3; have HB3 := Lib.hid (below_trans_size B2.out hb3); have p0 := K3.cell 0 _ rfl)
      | (go_at_call 247; refine (LK.out _ B2.out (by simp)).mono ?_; rintro e w3 ⟨rfl, hb3⟩; have HB3 := Lib.hid (below_trans_size B2.out hb3))
      | (go_at_call 136; refine (AE.out _).mono ?_; rintro e w3 ⟨rfl, hb3⟩; have K3 := K2.out.below hb3; have HB3 := Lib.hid (below_trans_size B2.out hb3); have p4 := K3.cell 4 _ rfl; have p5 := K3.cell 5 _ rfl; have p6 := K3.cell 6 _ rfl)
      | (go_at_call 140; refine (AC.out _ HB3.out).mono ?_; rintro e w4 ⟨rfl, hb4⟩; have HB4 := Lib.hid (below_trans_size HB3.out hb4))
      | (go_at_call 248; refine (NM.out _ B2.out).mono ?_; rintro e w3 ⟨rfl, hb3⟩; have HB3 := Lib.hid (below_trans_size B2.out hb3))
      | (go_at_call 249; refine (CC.out _ B2.out).mono ?_; rintro e w3 ⟨rfl, hb3⟩; have HB3 := Lib.hid (below_trans_size B2.out hb3))
      | (go_at_call 250; refine (AD.out _).mono ?_; rintro e w3 ⟨rfl, hb3⟩; have HB3 := Lib.hid (below_trans_size B2.out hb3)))
    all_goals
      go_ret
      refine ⟨ret_i64 ?_, ?_⟩
      · (try simp only [Bool.not_eq_true', Bool.not_eq_false', beq_iff_eq, beq_eq_false_iff_ne, ne_eq] at *)
        rw [HE.out, HT.out]
        simp [*]
      · first | exact HB4.out | exact HB3.out | exact B2.out
end Go.Proofs.YtlbioncagkkkoaaGreatDoor

namespace Go.Proofs.YtlbioncagkkkoaaGreatDoor
open Go.RowKit
set_option linter.unusedVariables false
set_option linter.unusedSimpArgs false

def LsRel (l : List Inl) (dp : Nat) (E : Nat) (w : World) (vb vi : Value) (wr : World) : Prop := ∃ k : Nat, k ≤ l.length ∧ vi = .int .i64 k ∧ vb = .int .i64 (befK l k) ∧ Below w.heap.size w wr ∧ Inl.errL (befK l k) (decide (k = 0)) dp (l.drop k) = E
theorem errL_head (bf : Int) (st : Bool) (dp : Nat) (k : Int) (t d ti : ByteArray) (a : At) (ar : List ByteArray) (ci : List Ci) (ks : List Inl) (l : List Inl) (h15 : ¬ 15 < dp) (fi la : Bool) (hfi : fi = (decide (dp = 0) && st)) (hla : la = (decide (dp = 0) && l.isEmpty)) :
    Inl.errL bf st dp (Inl.mk k t d ti a ar ci ks :: l) = if oneErr bf fi la k t d ti a ar ci ks ≠ 0 then oneErr bf fi la k t d ti a ar ci ks else if Inl.errL 0 true (dp + 1) ks ≠ 0 then Inl.errL 0 true (dp + 1) ks else Inl.errL k false dp l := by
  subst hfi hla
  rw [Inl.errL, if_neg h15, Inl.err]
  by_cases h1 : oneErr bf (decide (dp = 0) && st) (decide (dp = 0) && l.isEmpty) k t d ti a ar ci ks = 0
  · simp only [h1, ne_eq, not_true_eq_false, if_false]
    rfl
  · simp only [ne_eq, h1, not_false_eq_true, if_true]

set_option maxRecDepth 100000 in
set_option maxHeartbeats 4000000 in
theorem rList_any (n : Nat) : ∀ (l : List Inl) (dp : Nat) (a : Option Addr) (cap : Nat) (w : World), Inl.szL l ≤ n → dp ≤ 1000000 → Inl.smallL l → Rd (· < w.heap.size) w (inlsD l) [.slice a l.length cap] →
    Calls Tryz.prog 211 #[.slice a l.length cap, .int .i64 (dp : Int)] w (RetB (.int .i64 (Inl.errL 0 true dp l : Nat)) w) := by
  induction n using Nat.strongRecOn with
  | _ n ih =>
    intro l dp a cap w hn hdp hsm h
    obtain ⟨a', c', hv, hs⟩ := Rd.sl_open h
    obtain ⟨rfl, rfl⟩ : a' = a ∧ c' = cap := by simp at hv; exact ⟨hv.1.symm, hv.2.symm⟩
    have hcap : l.length ≤ c' := by simpa using hs.le
    have hmx := hs.max
    unfold maxLen at hmx
    have HS := Lib.hid hs
    have IH := Lib.hid ih
    have SM := Lib.hid hsm
    obtain ⟨E, hE⟩ : ∃ E, Inl.errL 0 true dp l = E := ⟨_, rfl⟩
    rw [hE]
    have R0 : Hid (LsRel l dp E w (.int .i64 0) (.int .i64 0) w) := ⟨0, Nat.zero_le _, rfl, rfl, Below.refl _ _, hE⟩
    clear hs hv h ih hsm hE
    go_enter Tryz.func211, Tryz.ntmps211
    (try simp only [List.append_eq, List.cons_append, List.nil_append])
    go_wp2
    go_loopw [5, 6] (fun b i wr => LsRel l dp E w b i wr) (fun _ i _ => l.length - (intOf i).toNat)
    case atStart => exact R0.out
    case round =>
      clear R0
      obtain ⟨k, hk, rfl, rfl, hbel, herr⟩ := hrel
      have HB := Lib.hid hbel
      by_cases hlt : k < l.length
      · obtain ⟨x, hx⟩ : ∃ x, l[k]? = some x := ⟨_, List.getElem?_eq_getElem hlt⟩
        by_cases h15 : 15 < dp
        · have q15 : decide ((15 : Int) < (dp : Int)) = true := by simp; omega
          have HE : Hid (E = 11) := by
            show E = 11
            rw [← herr, drop_cons l k x hx, Inl.errL, if_pos h15]
          clear herr hx hbel
          generalize befK l k = bf at *
          go_wp2
          go_ret
          exact ⟨by rw [HE.out]; rfl, HB.out⟩
        have q15 : decide ((15 : Int) < (dp : Int)) = false := by simp; omega
        have hbs := befK_succ hx
        have hxs : x.small := Inl.smallL_get SM.out hx
        have hsz := Inl.szL_get l k _ hx
        rw [drop_cons l k x hx] at herr
        have hle : (l.drop (k + 1)).isEmpty = ((k : Int) == (l.length : Int) - 1) := by
          rw [Bool.eq_iff_iff]; simp; omega
        obtain ⟨kd, t, d, ti, at_, ar, ci, ks⟩ := x
        rw [Inl.sz] at hsz
        obtain ⟨hins, hks⟩ := inS_of hxs
        have hz0 : decide (dp = 0) = ((dp : Int) == 0) := by rw [Bool.eq_iff_iff]; simp
        have hzk : decide (k = 0) = ((k : Int) == 0) := by rw [Bool.eq_iff_iff]; simp
        obtain ⟨fi, hfi⟩ : ∃ fi, fi = (decide (dp = 0) && decide (k = 0)) := ⟨_, rfl⟩
        obtain ⟨la, hla⟩ : ∃ la, la = (decide (dp = 0) && (l.drop (k + 1)).isEmpty) := ⟨_, rfl⟩
        rw [errL_head _ _ _ _ _ _ _ _ _ _ _ _ h15 fi la hfi hla] at herr
        rw [hz0, hzk] at hfi
        rw [hz0, hle] at hla
        obtain ⟨b, off, ac, ap, aa, ai, ak, cc, cp, ca, cai, ck, ha, hP0⟩ := inP_at HS.out hx
        have hP := hP0.up hbel
        subst ha
        obtain ⟨c0, c1, c2, c3, c4, c5, c6, c7, c8, c9⟩ := hP.cells
        have HP := Lib.hid hP
        have ONE := Lib.hid (fun bf fi la => rOne_any wr kd t d ti at_ ar ci ks ac ap aa ai ak cc cp ca cai ck bf fi la hP.rd hins)
        have KID := Lib.hid (fun wx (hb : Below wr.heap.size wr wx) => IH.out (Inl.szL ks) (by omega) ks (dp + 1) ak ck wx (Nat.le_refl _) (by omega) hks (hP.up hb).rd.kids)
        simp only [Int.natCast_add, Int.natCast_one] at KID
        have HBS := Lib.hid hbs
        have HFI := Lib.hid hfi
        have HLA := Lib.hid hla
        have HERR := Lib.hid herr
        clear hx hbs hxs hsz herr hle hins hks hz0 hzk hfi hla hP0 hP hbel
        generalize befK l k = bf at *
        obtain ⟨E1, hE1⟩ : ∃ E1, E1 = oneErr bf fi la kd t d ti at_ ar ci ks := ⟨_, rfl⟩
        rw [← hE1] at HERR
        have HE1 := Lib.hid hE1
        clear hE1
        go_upto_region 7 with (fail)
        go_cut [7] (fun s wx => s = .int .i64 (E1 : Int) ∧ Below wr.heap.size wr wx)
        case first =>
          cases hz : ((dp : Int) == 0) with
          | false =>
            rw [hz] at HFI HLA
            have h1 : fi = false := HFI.out
            have h2 : la = false := HLA.out
            have HE2 : Hid (E1 = oneErr bf false false kd t d ti at_ ar ci ks) := by show E1 = _; rw [HE1.out, h1, h2]
            clear h1 h2
            go_wp2_with fail
            refine (ONE.out _ _ _).mono ?_
            rintro e w3 ⟨rfl, b3⟩
            have HB3 := Lib.hid b3
            clear b3
            go_wp2_with fail
            go_meet
            exact ⟨by rw [HE2.out], HB3.out⟩
          | true =>
            cases hk0 : ((k : Int) == 0) <;> cases hkl : ((k : Int) == (l.length : Int) - 1)
            all_goals
              rw [hz, hk0] at HFI
              rw [hz, hkl] at HLA
              have h1 := HFI.out
              have h2 := HLA.out
              simp only [Bool.and_true, Bool.and_false, Bool.true_and] at h1 h2
              have HE2 := HE1
              rw [h1, h2] at HE2
              clear h1 h2
              go_wp2_with fail
              refine (ONE.out _ _ _).mono ?_
              rintro e w3 ⟨rfl, b3⟩
              have HB3 := Lib.hid b3
              clear b3
              go_wp2_with fail
              go_meet
              exact ⟨by rw [HE2.out], HB3.out⟩
        case rest =>
          obtain ⟨rfl, hbc⟩ := hcut
          have HPC := Lib.hid (HP.out.up hbc)
          have HBC := Lib.hid hbc
          have HBB := Lib.hid (below_trans_size HB.out hbc)
          clear c0 c1 c2 c3 c4 c5 c6 c7 c8 c9 hbc ONE HFI HLA HE1
          have c0 := HPC.out.cells.c0
          have c9 := HPC.out.cells.c9
          by_cases he1 : E1 = 0
          case neg =>
            have hn1 : ((E1 : Int) != 0) = true := by rw [bne_iff_ne]; omega
            have HV : Hid (E = E1) := by
              show E = E1
              rw [← HERR.out, if_pos he1]
            clear he1
            go_wp2
            go_ret
            exact ⟨by rw [HV.out]; rfl, HBB.out⟩
          subst he1
          have HERR2 : Hid ((if Inl.errL 0 true (dp + 1) ks ≠ 0 then Inl.errL 0 true (dp + 1) ks else Inl.errL kd false dp (l.drop (k + 1))) = E) := by
            show _ = E
            exact (if_neg (by simp)).symm.trans HERR.out
          clear HERR
          obtain ⟨E2, hE2⟩ : ∃ E2, E2 = Inl.errL 0 true (dp + 1) ks := ⟨_, rfl⟩
          rw [← hE2] at HERR2 KID
          clear hE2
          go_wp2_with fail
          refine (KID.out _ HBC.out).mono ?_
          rintro e w4 ⟨rfl, b4⟩
          have HP4 := Lib.hid (HPC.out.up b4)
          have HB4 := Lib.hid (below_trans_size HBB.out b4)
          clear b4 c0 c9
          have c0 := HP4.out.cells.c0
          by_cases he2 : E2 = 0
          case neg =>
            have hn2 : ((E2 : Int) != 0) = true := by rw [bne_iff_ne]; omega
            have HV : Hid (E = E2) := by
              show E = E2
              rw [← HERR2.out, if_pos he2]
            clear he2
            go_wp2
            go_ret
            exact ⟨by rw [HV.out]; rfl, HB4.out⟩
          subst he2
          have HN : Hid (Inl.errL kd false dp (l.drop (k + 1)) = E) := by
            show _ = E
            exact (if_neg (by simp)).symm.trans HERR2.out
          clear HERR2
          go_wp2
          go_roundw
          case rel => exact ⟨k + 1, by omega, by go_num, by rw [HBS.out]; rfl, HB4.out, by rw [HBS.out, decide_eq_false (by omega)]; exact HN.out⟩
          case measure => simp [intOf]; omega
      · have HE : Hid (E = 0) := by
          show E = 0
          rw [← herr, List.drop_of_length_le (by omega), Inl.errL]
        clear herr hbel
        generalize befK l k = bf at *
        go_wp2
        go_ret
        exact ⟨by rw [HE.out]; rfl, HB.out⟩

set_option maxRecDepth 100000 in
set_option maxHeartbeats 1000000 in
theorem rLineErr_any (l : List Inl) (a : Option Addr) (cap : Nat) (w : World) (hsm : Inl.smallL l) (h : Rd (· < w.heap.size) w (inlsD l) [.slice a l.length cap]) :
    Calls Tryz.prog 171 #[.slice a l.length cap] w (RetB (.int .i64 (lineErr l : Nat)) w) := by
  have CK := Lib.hid (rList_any _ l 0 a cap w (Nat.le_refl _) (by omega) hsm h)
  change Hid (Calls _ _ _ _ (RetB (.int .i64 (lineErr l : Nat)) w)) at CK
  generalize lineErr l = E at *
  clear h hsm
  go_enter Tryz.func171, Tryz.ntmps171
  go_wp2_with fail
  refine CK.out.mono ?_
  rintro e w1 ⟨rfl, b1⟩
  have HB := Lib.hid b1
  clear b1
  go_wp2
  go_ret
  exact ⟨rfl, HB.out⟩
end Go.Proofs.YtlbioncagkkkoaaGreatDoor
