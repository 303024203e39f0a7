/- Contracts of publisherref04.list, Line: the first error of inlines. -/
import Derived.Test.YtjobjicdfoklpaaGreatDoorRfI
import Derived.Test.YtjobjicdfoklpaaGreatDoorChS
import Derived.Deep.DeepCutAuto
namespace Go.Proofs.YtjobjicdfoklpaaGreatDoor
open Go.RowKit
set_option linter.unusedVariables false
set_option linter.unusedSimpArgs false

def LsRel (l : List Inl) (dp : Nat) (E : Nat) (w : World) (vb vi : Value) (wr : World) : Prop := ∃ k : Nat, k ≤ l.length ∧ vi = .int .i64 k ∧ vb = .int .i64 (befK l k) ∧ Below w.heap.size w wr ∧ Inl.errL (befK l k) (decide (k = 0)) dp (l.drop k) = E
theorem errL_head (bf : Int) (st : Bool) (dp : Nat) (k : Int) (t d ti : ByteArray) (a : At) (ar : List ByteArray) (ci : List Ci) (ks : List Inl) (l : List Inl) (h15 : ¬ 15 < dp) (fi la : Bool) (hfi : fi = (decide (dp = 0) && st)) (hla : la = (decide (dp = 0) && l.isEmpty)) :
    Inl.errL bf st dp (Inl.mk k t d ti a ar ci ks :: l) = if oneErr bf fi la k t d ti a ar ci ks ≠ 0 then oneErr bf fi la k t d ti a ar ci ks else if Inl.errL 0 true (dp + 1) ks ≠ 0 then Inl.errL 0 true (dp + 1) ks else Inl.errL k false dp l := by
  subst hfi hla
  rw [Inl.errL, if_neg h15, Inl.err]
  by_cases h1 : oneErr bf (decide (dp = 0) && st) (decide (dp = 0) && l.isEmpty) k t d ti a ar ci ks = 0
  · simp only [h1, ne_eq, not_true_eq_false, if_false]
    rfl
  · simp only [ne_eq, h1, not_false_eq_true, if_true]

set_option maxRecDepth 100000 in
set_option maxHeartbeats 4000000 in
theorem rList_any (n : Nat) : ∀ (l : List Inl) (dp : Nat) (a : Option Addr) (cap : Nat) (w : World), Inl.szL l ≤ n → dp ≤ 1000000 → Inl.smallL l → Rd (· < w.heap.size) w (inlsD l) [.slice a l.length cap] →
    Calls Tryz.prog 253 #[.slice a l.length cap, .int .i64 (dp : Int)] w (RetB (.int .i64 (Inl.errL 0 true dp l : Nat)) w) := by
  induction n using Nat.strongRecOn with
  | _ n ih =>
    intro l dp a cap w hn hdp hsm h
    obtain ⟨a', c', hv, hs⟩ := Rd.sl_open h
    obtain ⟨rfl, rfl⟩ : a' = a ∧ c' = cap := by simp at hv; exact ⟨hv.1.symm, hv.2.symm⟩
    have hcap : l.length ≤ c' := by simpa using hs.le
    have hmx := hs.max
    unfold maxLen at hmx
    have HS := Lib.hid hs
    have IH := Lib.hid ih
    have SM := Lib.hid hsm
    obtain ⟨E, hE⟩ : ∃ E, Inl.errL 0 true dp l = E := ⟨_, rfl⟩
    rw [hE]
    have R0 : Hid (LsRel l dp E w (.int .i64 0) (.int .i64 0) w) := ⟨0, Nat.zero_le _, rfl, rfl, Below.refl _ _, hE⟩
    clear hs hv h ih hsm hE
    go_enter Tryz.func253, Tryz.ntmps253
    (try simp only [List.append_eq, List.cons_append, List.nil_append])
    go_wp2
    go_loopw [5, 6] (fun b i wr => LsRel l dp E w b i wr) (fun _ i _ => l.length - (intOf i).toNat)
    case atStart => exact R0.out
    case round =>
      clear R0
      obtain ⟨k, hk, rfl, rfl, hbel, herr⟩ := hrel
      have HB := Lib.hid hbel
      by_cases hlt : k < l.length
      · obtain ⟨x, hx⟩ : ∃ x, l[k]? = some x := ⟨_, List.getElem?_eq_getElem hlt⟩
        by_cases h15 : 15 < dp
        · have q15 : decide ((15 : Int) < (dp : Int)) = true := by simp; omega
          have HE : Hid (E = 11) := by
            show E = 11
            rw [← herr, drop_cons l k x hx, Inl.errL, if_pos h15]
          clear herr hx hbel
          generalize befK l k = bf at *
          go_wp2
          go_ret
          exact ⟨by rw [HE.out]; rfl, HB.out⟩
        have q15 : decide ((15 : Int) < (dp : Int)) = false := by simp; omega
        have hbs := befK_succ hx
        have hxs : x.small := Inl.smallL_get SM.out hx
        have hsz := Inl.szL_get l k _ hx
        rw [drop_cons l k x hx] at herr
        have hle : (l.drop (k + 1)).isEmpty = ((k : Int) == (l.length : Int) - 1) := by
          rw [Bool.eq_iff_iff]; simp; omega
        obtain ⟨kd, t, d, ti, at_, ar, ci, ks⟩ := x
        rw [Inl.sz] at hsz
        obtain ⟨hins, hks⟩ := inS_of hxs
        have hz0 : decide (dp = 0) = ((dp : Int) == 0) := by rw [Bool.eq_iff_iff]; simp
        have hzk : decide (k = 0) = ((k : Int) == 0) := by rw [Bool.eq_iff_iff]; simp
        obtain ⟨fi, hfi⟩ : ∃ fi, fi = (decide (dp = 0) && decide (k = 0)) := ⟨_, rfl⟩
        obtain ⟨la, hla⟩ : ∃ la, la = (decide (dp = 0) && (l.drop (k + 1)).isEmpty) := ⟨_, rfl⟩
        rw [errL_head _ _ _ _ _ _ _ _ _ _ _ _ h15 fi la hfi hla] at herr
        rw [hz0, hzk] at hfi
        rw [hz0, hle] at hla
        obtain ⟨b, off, ac, ap, aa, ai, ak, cc, cp, ca, cai, ck, ha, hP0⟩ := inP_at HS.out hx
        have hP := hP0.up hbel
        subst ha
        obtain ⟨c0, c1, c2, c3, c4, c5, c6, c7, c8, c9⟩ := hP.cells
        have HP := Lib.hid hP
        have ONE := Lib.hid (fun bf fi la => rOne_any wr kd t d ti at_ ar ci ks ac ap aa ai ak cc cp ca cai ck bf fi la hP.rd hins)
        have KID := Lib.hid (fun wx (hb : Below wr.heap.size wr wx) => IH.out (Inl.szL ks) (by omega) ks (dp + 1) ak ck wx (Nat.le_refl _) (by omega) hks (hP.up hb).rd.kids)
        simp only [Int.natCast_add, Int.natCast_one] at KID
        have HBS := Lib.hid hbs
        have HFI := Lib.hid hfi
        have HLA := Lib.hid hla
        have HERR := Lib.hid herr
        clear hx hbs hxs hsz herr hle hins hks hz0 hzk hfi hla hP0 hP hbel
        generalize befK l k = bf at *
        obtain ⟨E1, hE1⟩ : ∃ E1, E1 = oneErr bf fi la kd t d ti at_ ar ci ks := ⟨_, rfl⟩
        rw [← hE1] at HERR
        have HE1 := Lib.hid hE1
        clear hE1
        go_upto_region 7 with (fail)
        go_cut [7] (fun s wx => s = .int .i64 (E1 : Int) ∧ Below wr.heap.size wr wx)
        case first =>
          cases hz : ((dp : Int) == 0) with
          | false =>
            rw [hz] at HFI HLA
            have h1 : fi = false := HFI.out
            have h2 : la = false := HLA.out
            have HE2 : Hid (E1 = oneErr bf false false kd t d ti at_ ar ci ks) := by show E1 = _; rw [HE1.out, h1, h2]
            clear h1 h2
            go_wp2_with fail
            refine (ONE.out _ _ _).mono ?_
            rintro e w3 ⟨rfl, b3⟩
            have HB3 := Lib.hid b3
            clear b3
            go_wp2_with fail
            go_meet
            exact ⟨by rw [HE2.out], HB3.out⟩
          | true =>
            cases hk0 : ((k : Int) == 0) <;> cases hkl : ((k : Int) == (l.length : Int) - 1)
            all_goals
              rw [hz, hk0] at HFI
              rw [hz, hkl] at HLA
              have h1 := HFI.out
              have h2 := HLA.out
              simp only [Bool.and_true, Bool.and_false, Bool.true_and] at h1 h2
              have HE2 := HE1
              rw [h1, h2] at HE2
              clear h1 h2
              go_wp2_with fail
              refine (ONE.out _ _ _).mono ?_
              rintro e w3 ⟨rfl, b3⟩
              have HB3 := Lib.hid b3
              clear b3
              go_wp2_with fail
              go_meet
              exact ⟨by rw [HE2.out], HB3.out⟩
        case rest =>
          obtain ⟨rfl, hbc⟩ := hcut
          have HPC := Lib.hid (HP.out.up hbc)
          have HBC := Lib.hid hbc
          have HBB := Lib.hid (below_trans_size HB.out hbc)
          clear c0 c1 c2 c3 c4 c5 c6 c7 c8 c9 hbc ONE HFI HLA HE1
          have c0 := HPC.out.cells.c0
          have c9 := HPC.out.cells.c9
          by_cases he1 : E1 = 0
          case neg =>
            have hn1 : ((E1 : Int) != 0) = true := by rw [bne_iff_ne]; omega
            have HV : Hid (E = E1) := by
              show E = E1
              rw [← HERR.out, if_pos he1]
            clear he1
            go_wp2
            go_ret
            exact ⟨by rw [HV.out]; rfl, HBB.out⟩
          subst he1
          have HERR2 : Hid ((if Inl.errL 0 true (dp + 1) ks ≠ 0 then Inl.errL 0 true (dp + 1) ks else Inl.errL kd false dp (l.drop (k + 1))) = E) := by
            show _ = E
            exact (if_neg (by simp)).symm.trans HERR.out
          clear HERR
          obtain ⟨E2, hE2⟩ : ∃ E2, E2 = Inl.errL 0 true (dp + 1) ks := ⟨_, rfl⟩
          rw [← hE2] at HERR2 KID
          clear hE2
          go_wp2_with fail
          refine (KID.out _ HBC.out).mono ?_
          rintro e w4 ⟨rfl, b4⟩
          have HP4 := Lib.hid (HPC.out.up b4)
          have HB4 := Lib.hid (below_trans_size HBB.out b4)
          clear b4 c0 c9
          have c0 := HP4.out.cells.c0
          by_cases he2 : E2 = 0
          case neg =>
            have hn2 : ((E2 : Int) != 0) = true := by rw [bne_iff_ne]; omega
            have HV : Hid (E = E2) := by
              show E = E2
              rw [← HERR2.out, if_pos he2]
            clear he2
            go_wp2
            go_ret
            exact ⟨by rw [HV.out]; rfl, HB4.out⟩
          subst he2
          have HN : Hid (Inl.errL kd false dp (l.drop (k + 1)) = E) := by
            show _ = E
            exact (if_neg (by simp)).symm.trans HERR2.out
          clear HERR2
          go_wp2
          go_roundw
          case rel => exact ⟨k + 1, by omega, by go_num, by rw [HBS.out]; rfl, HB4.out, by rw [HBS.out, decide_eq_false (by omega)]; exact HN.out⟩
          case measure => simp [intOf]; omega
      · have HE : Hid (E = 0) := by
          show E = 0
          rw [← herr, List.drop_of_length_le (by omega), Inl.errL]
        clear herr hbel
        generalize befK l k = bf at *
        go_wp2
        go_ret
        exact ⟨by rw [HE.out]; rfl, HB.out⟩

set_option maxRecDepth 100000 in
set_option maxHeartbeats 1000000 in
theorem rLineErr_any (l : List Inl) (a : Option Addr) (cap : Nat) (w : World) (hsm : Inl.smallL l) (h : Rd (· < w.heap.size) w (inlsD l) [.slice a l.length cap]) :
    Calls Tryz.prog 216 #[.slice a l.length cap] w (RetB (.int .i64 (lineErr l : Nat)) w) := by
  have CK := Lib.hid (rList_any _ l 0 a cap w (Nat.le_refl _) (by omega) hsm h)
  change Hid (Calls _ _ _ _ (RetB (.int .i64 (lineErr l : Nat)) w)) at CK
  generalize lineErr l = E at *
  clear h hsm
  go_enter Tryz.func216, Tryz.ntmps216
  go_wp2_with fail
  refine CK.out.mono ?_
  rintro e w1 ⟨rfl, b1⟩
  have HB := Lib.hid b1
  clear b1
  go_wp2
  go_ret
  exact ⟨rfl, HB.out⟩
end Go.Proofs.YtjobjicdfoklpaaGreatDoor
