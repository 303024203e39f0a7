/- Contracts of tree.checkBlocks and Blocks: the first error of blocks; of a formula's check they ask the contract where there is a formula. The contract of tree.Check: the first error of a document. -/
import Derived.Test.YtjobjicdfoklpaaGreatDoorChU
import Derived.StillTailTactics
import Derived.Test.YtjobjicdfoklpaaGreatDoorChH
import Derived.Test.YtjobjicdfoklpaaGreatDoorSizeD
namespace Go.Proofs.YtjobjicdfoklpaaGreatDoor
open Go.RowKit
set_option linter.unusedVariables false
set_option linter.unusedSimpArgs false

mutual
/-- Is there a formula, at any depth? -/
def Blk.mth : Blk → Bool
  | .mk k _ _ _ _ _ _ _ ks => decide (k = 4) || Blk.mthL ks
def Blk.mthL : List Blk → Bool
  | [] => false
  | x :: l => x.mth || Blk.mthL l
end
theorem Blk.mthL_get : ∀ {l : List Blk} {k : Nat} {x : Blk}, l[k]? = some x → x.mth = true → Blk.mthL l = true
  | [], _, _, h, _ => by simp at h
  | y :: l, 0, x, h, hx => by simp at h; subst h; rw [Blk.mthL, hx]; rfl
  | y :: l, k + 1, x, h, hx => by rw [Blk.mthL, Blk.mthL_get (l := l) (k := k) (by simpa using h) hx, Bool.or_true]
theorem Blk.smallL_get : ∀ {l : List Blk} {k : Nat} {x : Blk}, Blk.smallL l → l[k]? = some x → x.small
  | [], _, _, _, h => by simp at h
  | y :: l, 0, x, hb, h => by simp at h; subst h; rw [Blk.smallL] at hb; exact hb.1
  | y :: l, k + 1, x, hb, h => by rw [Blk.smallL] at hb; exact Blk.smallL_get (l := l) (k := k) hb.2 (by simpa using h)
theorem blS_of {k lv : Int} {i t d ti : ByteArray} {a : At} {li : List Inl} {ks : List Blk} (h : (Blk.mk k lv i t d ti a li ks).small) : BlS i t d ti a li ∧ Blk.smallL ks := by
  unfold Blk.small at h
  obtain ⟨h1, h2, h3, h4, h5, h6, h7, h8⟩ := h
  exact ⟨⟨h1, h2, h3, h4, h5, h6⟩, h8⟩
theorem bl_errL_cons (cl : ByteArray → Bool) (par : Int) (dp : Nat) (k lv : Int) (i t d ti : ByteArray) (a : At) (li : List Inl) (ks l : List Blk) (h15 : ¬ 15 < dp) :
    Blk.errL cl par dp (Blk.mk k lv i t d ti a li ks :: l) = if blFields k lv i t d ti a li ks = false ∨ placeB k par = false then 5
      else if itsErr cl k lv i t d ti a li ks ≠ 0 then itsErr cl k lv i t d ti a li ks else if Blk.errL cl k (dp + 1) ks ≠ 0 then Blk.errL cl k (dp + 1) ks else Blk.errL cl par dp l := by
  rw [Blk.errL, Blk.err, if_neg h15]
  by_cases h1 : blFields k lv i t d ti a li ks = false ∨ placeB k par = false
  · rw [if_pos h1, if_pos h1]; rfl
  · rw [if_neg h1, if_neg h1]
    by_cases h2 : itsErr cl k lv i t d ti a li ks = 0
    · simp only [h2, ne_eq, not_true_eq_false, if_false]
    · simp only [ne_eq, h2, not_false_eq_true, if_true]
def CbRel (cl : ByteArray → Bool) (l : List Blk) (par : Int) (dp : Nat) (E : Nat) (w : World) (vi : Value) (wr : World) : Prop := ∃ k : Nat, k ≤ l.length ∧ vi = .int .i64 k ∧ Below w.heap.size w wr ∧ Blk.errL cl par dp (l.drop k) = E

set_option maxRecDepth 100000 in
set_option maxHeartbeats 8000000 in
theorem checkBlocks_any (cl : ByteArray → Bool) (n : Nat) : ∀ (l : List Blk) (par : Int) (dp : Nat) (a : Option Addr) (cap : Nat) (w : World), Blk.szL l ≤ n → dp ≤ 1000000 → Blk.smallL l → (Blk.mthL l = true → MathC cl) → Rd (· < w.heap.size) w (blksD l) [.slice a l.length cap] →
    Calls Tryz.prog 71 #[.slice a l.length cap, .int .i64 par, .int .i64 (dp : Int)] w (RetB (.int .i64 (Blk.errL cl par dp l : Nat)) w) := by
  induction n using Nat.strongRecOn with
  | _ n ih =>
    intro l par dp a cap w hn hdp hsm hmt h
    obtain ⟨a', c', hv, hs⟩ := Rd.sl_open h
    obtain ⟨rfl, rfl⟩ : a' = a ∧ c' = cap := by simp at hv; exact ⟨hv.1.symm, hv.2.symm⟩
    have hcap : l.length ≤ c' := by simpa using hs.le
    have hmx := hs.max
    unfold maxLen at hmx
    have HS := Lib.hid hs
    have IH := Lib.hid ih
    have SM := Lib.hid hsm
    have MT := Lib.hid hmt
    obtain ⟨E, hE⟩ : ∃ E, Blk.errL cl par dp l = E := ⟨_, rfl⟩
    rw [hE]
    have R0 : Hid (CbRel cl l par dp E w (.int .i64 0) w) := ⟨0, Nat.zero_le _, rfl, Below.refl _ _, hE⟩
    clear hs hv h ih hsm hmt hE
    by_cases h15 : 15 < dp
    · have q15 : decide ((15 : Int) < (dp : Int)) = true := by simp; omega
      go_enter Tryz.func71, Tryz.ntmps71
      go_wp2
      go_loopw [13] (fun i wr => CbRel cl l par dp E w i wr) (fun i _ => l.length - (intOf i).toNat)
      case atStart => exact R0.out
      case round =>
        clear R0
        obtain ⟨k, hk, rfl, hbel, herr⟩ := hrel
        have HB := Lib.hid hbel
        by_cases hlt : k < l.length
        · obtain ⟨x, hx⟩ : ∃ x, l[k]? = some x := ⟨_, List.getElem?_eq_getElem hlt⟩
          have HE : Hid (E = 11) := by
            show E = 11
            rw [← herr, drop_cons l k x hx, Blk.errL]
            have : x.err cl par dp = 11 := by cases x; rw [Blk.err, if_pos h15]
            rw [this]; rfl
          clear herr hx
          go_wp2
          go_ret
          exact ⟨by rw [HE.out]; rfl, HB.out⟩
        · have HE : Hid (E = 0) := by
            show E = 0
            rw [← herr, List.drop_of_length_le (by omega), Blk.errL]
          clear herr
          go_wp2
          go_ret
          exact ⟨by rw [HE.out]; rfl, HB.out⟩
    · have q15 : decide ((15 : Int) < (dp : Int)) = false := by simp; omega
      go_enter Tryz.func71, Tryz.ntmps71
      go_wp2
      go_loopw [13] (fun i wr => CbRel cl l par dp E w i wr) (fun i _ => l.length - (intOf i).toNat)
      case atStart => exact R0.out
      case round =>
        clear R0
        obtain ⟨k, hk, rfl, hbel, herr⟩ := hrel
        have HB := Lib.hid hbel
        by_cases hlt : k < l.length
        · obtain ⟨x, hx⟩ : ∃ x, l[k]? = some x := ⟨_, List.getElem?_eq_getElem hlt⟩
          have hxs : x.small := Blk.smallL_get SM.out hx
          have hsz := Blk.szL_get l k _ hx
          have hmg := Blk.mthL_get hx
          rw [drop_cons l k x hx] at herr
          obtain ⟨kd, lv, i, t, d, ti, at_, li, ks⟩ := x
          rw [Blk.sz] at hsz
          obtain ⟨hbs, hks⟩ := blS_of hxs
          rw [bl_errL_cons _ _ _ _ _ _ _ _ _ _ _ _ _ h15] at herr
          have hm4 : kd = 4 → MathC cl := fun e => MT.out (hmg (by rw [Blk.mth, decide_eq_true e]; rfl))
          have hmk : Blk.mthL ks = true → MathC cl := fun e => MT.out (hmg (by rw [Blk.mth, e, Bool.or_true]))
          obtain ⟨b, off, ac, ap, al, ak, cc, cp, cl', ck, rfl, hP0⟩ := blP_at HS.out hx
          have hP := hP0.up hbel
          have HP := Lib.hid hP
          have IFD := Lib.hid (blockFields_any wr b (off + k * 11) kd lv i t d ti at_ li ks ac ap al ak cc cp cl' ck hP)
          have FT := Lib.hid (fun w => fits_any kd par w)
          have CI := Lib.hid (fun wx (hb : Below wr.heap.size wr wx) hf => checkBlock_any cl wx b (off + k * 11) kd lv i t d ti at_ li ks ac ap al ak cc cp cl' ck (hP.up hb) hbs hf hm4)
          have CK := Lib.hid (fun wx (hb : Below wr.heap.size wr wx) => IH.out (Blk.szL ks) (by omega) ks kd (dp + 1) ak ck wx (Nat.le_refl _) (by omega) hks hmk (hP.up hb).rd.kids)
          have HERR := Lib.hid herr
          clear hxs hsz hmg hbs hks hm4 hmk hP hP0 herr hx hbel
          cases hf : blFields kd lv i t d ti at_ li ks with
          | false =>
            rw [hf] at IFD
            have HE : Hid (E = 5) := by
              show E = 5
              have := HERR.out
              rw [if_pos (.inl hf)] at this; exact this.symm
            clear hf
            go_wp2_with fail
            refine IFD.out.mono ?_
            rintro e w2 ⟨rfl, hb2⟩
            go_wp2
            go_ret
            exact ⟨by rw [HE.out]; rfl, below_trans_size HB.out hb2⟩
          | true =>
            rw [hf] at IFD
            cases hpl : placeB kd par with
            | false =>
              rw [hpl] at FT
              have HE : Hid (E = 5) := by
                show E = 5
                have := HERR.out
                rw [if_pos (.inr hpl)] at this; exact this.symm
              clear hf hpl
              go_wp2_with fail
              refine IFD.out.mono ?_
              rintro e w2 ⟨rfl, hb2⟩
              obtain ⟨p0, p1, p2, p3, p4, p5, p6, p7, p8, p9, p10⟩ := (HP.out.up hb2).cells
              go_wp2_with fail
              refine (FT.out _).mono ?_
              rintro e w3 ⟨rfl, hb3⟩
              go_wp2
              go_ret
              exact ⟨by rw [HE.out]; rfl, below_trans_size HB.out (below_trans_size hb2 hb3)⟩
            | true =>
              rw [hpl] at FT
              have HERR3 : Hid ((if itsErr cl kd lv i t d ti at_ li ks ≠ 0 then itsErr cl kd lv i t d ti at_ li ks else if Blk.errL cl kd (dp + 1) ks ≠ 0 then Blk.errL cl kd (dp + 1) ks else Blk.errL cl par dp (l.drop (k + 1))) = E) := by
                show _ = _
                have := HERR.out
                rw [if_neg (by rw [hf, hpl]; simp)] at this; exact this
              have CI2 := Lib.hid (fun wx hb => CI.out wx hb hf)
              clear hf hpl HERR CI
              generalize itsErr cl kd lv i t d ti at_ li ks = E1 at *
              generalize Blk.errL cl kd (dp + 1) ks = E2 at *
              obtain ⟨c0, c1, c2, c3, c4, c5, c6, c7, c8, c9, c10⟩ := HP.out.cells
              go_wp2_with fail
              refine IFD.out.mono ?_
              rintro e w2 ⟨rfl, hb2⟩
              obtain ⟨p0, p1, p2, p3, p4, p5, p6, p7, p8, p9, p10⟩ := (HP.out.up hb2).cells
              go_wp2_with fail
              refine (FT.out _).mono ?_
              rintro e w3 ⟨rfl, hb3⟩
              have HBX := Lib.hid (below_trans_size hb2 hb3)
              have CIW := Lib.hid (CI2.out _ HBX.out)
              clear c0 c1 c2 c3 c4 c5 c6 c7 c8 c9 c10 p0 p1 p2 p3 p4 p5 p6 p7 p8 p9 p10 hb2 hb3 CI2
              by_cases h1 : E1 = 0
              · have HE3 : Hid ((if E2 ≠ 0 then E2 else Blk.errL cl par dp (l.drop (k + 1))) = E) := by
                  show _ = _
                  have := HERR3.out
                  rw [if_neg (by simpa using h1)] at this; exact this
                subst h1
                go_wp2_with fail
                refine CIW.out.mono ?_
                rintro e w4 ⟨rfl, hb4⟩
                have HB4 := Lib.hid (below_trans_size HBX.out hb4)
                obtain ⟨p0, p1, p2, p3, p4, p5, p6, p7, p8, p9, p10⟩ := (HP.out.up HB4.out).cells
                have HB4d : Hid (Below wr.heap.size wr w4.drew) := below_dN HB4.out 1
                have CKW := Lib.hid (CK.out _ HB4d.out)
                clear CIW hb4 CK HERR3
                by_cases h2 : E2 = 0
                · have HE4 : Hid (Blk.errL cl par dp (l.drop (k + 1)) = E) := by
                    show _ = _
                    have := HE3.out
                    rw [if_neg (by simpa using h2)] at this; exact this
                  subst h2
                  go_upto_region 12 with (fail)
                  go_still_tail 10, (by kernel_rfl)
                  change wpList _ _ _ _ _ w4.drew
                  go_wp2_with fail
                  refine CKW.out.mono ?_
                  rintro e w5 ⟨rfl, hb5⟩
                  have HB5 := Lib.hid (below_trans_size HB4d.out hb5)
                  clear CKW hb5
                  go_wp2
                  go_roundw
                  case rel => exact ⟨k + 1, by omega, by go_num, below_trans_size HB.out HB5.out, HE4.out⟩
                  case measure => simp [intOf]; omega
                · have HE4 : Hid (E = E2) := by
                    show _ = _
                    have := HE3.out
                    rw [if_pos h2] at this; exact this.symm
                  have hn2 : ((E2 : Int) != 0) = true := by rw [bne_iff_ne]; omega
                  clear h2
                  go_upto_region 12 with (fail)
                  go_still_tail 10, (by kernel_rfl)
                  change wpList _ _ _ _ _ w4.drew
                  go_wp2_with fail
                  refine CKW.out.mono ?_
                  rintro e w5 ⟨rfl, hb5⟩
                  have HB5 := Lib.hid (below_trans_size HB4d.out hb5)
                  clear CKW hb5
                  go_wp2
                  go_ret
                  exact ⟨by rw [HE4.out]; rfl, below_trans_size HB.out HB5.out⟩
              · have HE3 : Hid (E = E1) := by
                  show _ = _
                  have := HERR3.out
                  rw [if_pos h1] at this; exact this.symm
                have hn1 : ((E1 : Int) != 0) = true := by rw [bne_iff_ne]; omega
                clear h1
                go_wp2_with fail
                refine CIW.out.mono ?_
                rintro e w4 ⟨rfl, hb4⟩
                have HB4 := Lib.hid (below_trans_size HBX.out hb4)
                clear CIW hb4
                go_wp2
                go_ret
                exact ⟨by rw [HE3.out]; rfl, below_trans_size HB.out HB4.out⟩
        · have HE : Hid (E = 0) := by
            show E = 0
            rw [← herr, List.drop_of_length_le (by omega), Blk.errL]
          clear herr
          go_wp2
          go_ret
          exact ⟨by rw [HE.out]; rfl, HB.out⟩

set_option maxRecDepth 100000 in
theorem tBlocks_any (cl : ByteArray → Bool) (l : List Blk) (a : Option Addr) (cap : Nat) (w : World) (hsm : Blk.smallL l) (hm : Blk.mthL l = true → MathC cl) (h : Rd (· < w.heap.size) w (blksD l) [.slice a l.length cap]) :
    Calls Tryz.prog 23 #[.slice a l.length cap] w (RetB (.int .i64 (Blk.errL cl 0 0 l : Nat)) w) := by
  have CK := Lib.hid (checkBlocks_any cl _ l 0 0 a cap w (Nat.le_refl _) (by omega) hsm hm h)
  generalize Blk.errL cl 0 0 l = E at *
  clear h hsm hm
  go_enter Tryz.func23, Tryz.ntmps23
  go_wp2_with fail
  refine CK.out.mono ?_
  rintro e w1 ⟨rfl, hb⟩
  go_wp2
  go_ret
  exact ⟨rfl, hb⟩
end Go.Proofs.YtjobjicdfoklpaaGreatDoor

namespace Go.Proofs.YtjobjicdfoklpaaGreatDoor
open Go.RowKit
set_option linter.unusedVariables false
set_option linter.unusedSimpArgs false

/-- The first error of a document. -/
def docErr (cl : ByteArray → Bool) (me : List Pr) (l : List Blk) : Nat :=
  if 32768 < Blk.allL l ∨ 64 < me.length then 3 else if metErr [] me ≠ 0 then metErr [] me else Blk.errL cl 0 0 l
def DcRel (T : TypeId) (p : Nat) (cs : List Value) (w : World) (mb : Nat) (l : List Pr) (E : Nat) (vi : Value) (wr : World) : Prop :=
  ∃ k : Nat, k ≤ l.length ∧ vi = .int .i64 k ∧ EtB T p cs w mb k ((l.take k).map Pr.key).reverse wr ∧ metErr ((l.take k).map Pr.key) (l.drop k) = E

set_option maxRecDepth 100000 in
set_option maxHeartbeats 8000000 in
theorem tCheck_any (cl : ByteArray → Bool) (me : List Pr) (l : List Blk) (am ab : Option Addr) (cm nb cb : Nat) (w : World) (hme : me.length ≤ 1000) (hmets : ∀ p ∈ me, p.key.size ≤ 1000 ∧ p.val.size ≤ 1000)
    (hall : Blk.allL l ≤ 32768) (hsm : Blk.smallL l) (hm : Blk.mthL l = true → MathC cl)
    (h1 : Rd (· < w.heap.size) w (prsD me) [.slice am me.length cm]) (h2 : Rd (· < w.heap.size) w (blksD l) [.slice ab nb cb]) :
    Calls Tryz.prog 22 #[.agg #[.slice am me.length cm, .slice ab nb cb]] w (RetB (.int .i64 (docErr cl me l : Nat)) w) := by
  obtain ⟨a1, c1, hv1, hs1⟩ := Rd.sl_open h1
  obtain ⟨rfl, rfl⟩ : a1 = am ∧ c1 = cm := by simp at hv1; exact ⟨hv1.1.symm, hv1.2.symm⟩
  obtain ⟨a2, c2, hv2, hs2⟩ := Rd.sl_open h2
  obtain ⟨rfl, rfl, rfl⟩ : a2 = ab ∧ nb = l.length ∧ c2 = cb := by simp at hv2; exact ⟨hv2.1.symm, hv2.2.1, hv2.2.2.symm⟩
  have l1 : me.length ≤ c1 := by simpa using hs1.le
  have m1 := hs1.max
  unfold maxLen at m1
  have HS1 := Lib.hid hs1
  have SP := Lib.hid hmets
  have HB := Lib.hid h2
  have SM := Lib.hid hsm
  have MA := Lib.hid hm
  obtain ⟨V, hV⟩ : ∃ V, V = docErr cl me l := ⟨_, rfl⟩
  have HE : Hid (V = docErr cl me l) := hV
  have HAL := Lib.hid hall
  rw [← hV]
  clear hV hs1 hmets h2 hsm hm h1 hv1 hv2 hall hs2
  obtain ⟨w0, hw0⟩ : ∃ w0, w0 = w.alloc (.cells #[.slice a1 me.length c1, .slice a2 l.length c2] 25) := ⟨_, rfl⟩
  have hb0 : Below w.heap.size w w0 := by rw [hw0]; exact (Below.refl _ _).alloc (Nat.le_refl _) _
  have k1 : CB 25 w.heap.size [.slice a1 me.length c1, .slice a2 l.length c2] w0 := by rw [hw0]; exact CB.new _ _ _
  have SZ := Lib.hid (tSize_any l a1 a2 me.length c1 l.length c2 w0 (by have := HAL.out; omega) (HB.out.up hb0))
  have x0 := k1.cell 0 _ rfl
  have x1 := k1.cell 1 _ rfl
  have HK := Lib.hid k1
  have HB0 := Lib.hid hb0
  have hall := HAL.out
  obtain ⟨N, hN⟩ : ∃ N, N = Blk.allL l := ⟨_, rfl⟩
  have HN : Hid (N = Blk.allL l) := hN
  rw [← hN] at SZ hall
  have hb3 : decide ((32768 : Int) < (N : Int)) = false := by simp; omega
  clear k1 hb0 hN hall
  go_enter Tryz.func22, Tryz.ntmps22
  go_upto_region 1 with (fail)
  rw [← hw0]
  clear hw0
  go_wp2_with fail
  refine SZ.out.mono ?_
  rintro e w1 ⟨rfl, b1⟩
  have K1 := Lib.hid (HK.out.below b1)
  have B1 := Lib.hid (below_trans_size HB0.out b1)
  have x0 := K1.out.cell 0 _ rfl
  have x1 := K1.out.cell 1 _ rfl
  have LT := Lib.hid K1.out.lt
  clear SZ
  by_cases hml : 64 < me.length
  · have q1 : decide ((64 : Int) < (me.length : Int)) = true := by simp; omega
    have HV : Hid (V = 3) := by show V = 3; rw [HE.out, docErr, if_pos (.inr hml)]
    clear b1
    go_wp2
    go_ret
    exact ⟨by rw [HV.out]; rfl, B1.out⟩
  · have q1 : decide ((64 : Int) < (me.length : Int)) = false := by simp; omega
    have HE2 : Hid (V = if metErr [] me ≠ 0 then metErr [] me else Blk.errL cl 0 0 l) := by show V = _; rw [HE.out, docErr, if_neg (by have := HAL.out; omega)]
    obtain ⟨w2, hw2⟩ : ∃ w2, w2 = w1.alloc (.map #[] 0) := ⟨_, rfl⟩
    have b2 : Below w1.heap.size w1 w2 := by rw [hw2]; exact (Below.refl _ _).alloc (Nat.le_refl _) _
    have K2 := Lib.hid (K1.out.below b2)
    have R0 : Hid (DcRel 25 w.heap.size [.slice a1 me.length c1, .slice a2 l.length c2] w w1.heap.size me (metErr [] me) (.int .i64 0) w2) := by
      refine ⟨0, Nat.zero_le _, rfl, ⟨K2.out, ?_, below_trans_size B1.out b2, B1.out.size, ?_, Nat.le_refl _⟩, rfl⟩
      · rw [hw2]; exact SetAt.made w1
      · have := LT.out; omega
    have x0' := K2.out.cell 0 _ rfl
    have x1' := K2.out.cell 1 _ rfl
    obtain ⟨E1, hE1⟩ : ∃ E1, E1 = metErr [] me := ⟨_, rfl⟩
    rw [← hE1] at HE2 R0
    have hmm := @run_makeMap Tryz.prog
    clear hE1 hml b1 b2
    go_upto_region 4 with (fail)
    rw [← hw2]
    clear hmm hw2 x0 x1
    go_wp2
    go_loopw [19] (fun i wr => DcRel 25 w.heap.size [.slice a1 me.length c1, .slice a2 l.length c2] w w1.heap.size me E1 i wr) (fun i _ => me.length - (intOf i).toNat)
    case atStart => exact R0.out
    case round =>
      clear R0 x0' x1'
      obtain ⟨k, hk, rfl, hEt, herr⟩ := hrel
      have HET := Lib.hid hEt
      by_cases hlt : k < me.length
      · obtain ⟨x, hx⟩ : ∃ x, me[k]? = some x := ⟨_, List.getElem?_eq_getElem hlt⟩
        obtain ⟨b, off, rfl, -, -, c0, c1'⟩ := prs_at HS1.out hx
        have c0 : wr.cell? ⟨b, off + k * 2, none⟩ = some (.string x.key) := by rw [hEt.2.2.1.cell (p := ⟨b, off + k * 2, none⟩) (cell_lt c0)]; exact c0
        have c1' : wr.cell? ⟨b, off + k * 2 + 1, none⟩ = some (.string x.val) := by rw [hEt.2.2.1.cell (p := ⟨b, off + k * 2 + 1, none⟩) (cell_lt c1')]; exact c1'
        have hxs := SP.out x (List.mem_of_getElem? hx)
        have HX := Lib.hid hx
        have HERR : Hid (metErr ((me.take k).map Pr.key) (x :: me.drop (k + 1)) = E1) := by show _ = _; rw [← drop_cons me k x hx]; exact herr
        obtain ⟨key, val⟩ := x
        dsimp only at c0 c1' hxs
        have CN := Lib.hid (fun w => name_any key w (by omega))
        have CV := Lib.hid (fun w => tLine_any val w (by omega))
        have CT := Lib.hid (fun w => tTrimmed_any val w (by omega))
        have HTK : Hid ((me.take (k + 1)).map Pr.key = (me.take k).map Pr.key ++ [key]) := by show _ = _; rw [List.take_add_one, HX.out]; simp
        obtain ⟨wi, hwi⟩ : ∃ wi, wi = wr.alloc (.cells #[.string key, .string val] 61) := ⟨_, rfl⟩
        have hEi := hEt.alloc (.cells #[.string key, .string val] 61)
        rw [← hwi] at hEi
        have i0 : wi.cell? ⟨wr.heap.size, 0, none⟩ = some (.string key) := by rw [hwi]; exact new_cell wr [.string key, .string val] _ 0 _ rfl
        have i1 : wi.cell? ⟨wr.heap.size, 1, none⟩ = some (.string val) := by rw [hwi]; exact new_cell wr [.string key, .string val] _ 1 _ rfl
        have HEI := Lib.hid hEi
        clear herr hEt hx
        cases hn : nameOk key with
        | false =>
          rw [hn] at CN
          have HV : Hid (V = 6) := by
            show V = 6
            have := HERR.out
            rw [metErr, if_pos hn] at this
            rw [HE2.out, ← this]; rfl
          clear hn
          go_upto_region 7 with (fail)
          rw [← hwi]
          clear hwi hEi
          go_wp2_with fail
          refine (CN.out _).mono ?_
          rintro e w3 ⟨rfl, rfl⟩
          go_wp2
          go_ret
          exact ⟨by rw [HV.out]; rfl, HEI.out.2.2.1⟩
        | true =>
          rw [hn] at CN
          cases hln : lineS val with
          | false =>
            rw [hln] at CV
            have HV : Hid (V = 17) := by
              show V = 17
              have := HERR.out
              rw [metErr, if_neg (by rw [hn]; decide), if_pos (.inl hln)] at this
              rw [HE2.out, ← this]; rfl
            clear hn hln
            go_upto_region 7 with (fail)
            rw [← hwi]
            clear hwi hEi
            go_wp2_with fail
            refine (CN.out _).mono ?_
            rintro e w3 ⟨rfl, rfl⟩
            go_wp2_with fail
            refine (CV.out _).mono ?_
            rintro e w3 ⟨rfl, q, rfl⟩
            go_wp2
            go_ret
            exact ⟨by rw [HV.out]; rfl, below_dN HEI.out.2.2.1 q⟩
          | true =>
            rw [hln] at CV
            cases htr : trimS val with
            | false =>
              rw [htr] at CT
              have HV : Hid (V = 17) := by
                show V = 17
                have := HERR.out
                rw [metErr, if_neg (by rw [hn]; decide), if_pos (.inr htr)] at this
                rw [HE2.out, ← this]; rfl
              clear hn hln htr
              go_upto_region 7 with (fail)
              rw [← hwi]
              clear hwi hEi
              go_wp2_with fail
              refine (CN.out _).mono ?_
              rintro e w3 ⟨rfl, rfl⟩
              go_wp2_with fail
              refine (CV.out _).mono ?_
              rintro e w3 ⟨rfl, q, rfl⟩
              go_wp2_with fail
              refine (CT.out _).mono ?_
              rintro e w3 ⟨rfl, rfl⟩
              go_wp2
              go_ret
              exact ⟨by rw [HV.out]; rfl, below_dN HEI.out.2.2.1 q⟩
            | true =>
              rw [htr] at CT
              have HLK := Lib.hid (fun q => (hEi.drewN q).2.1.look key (by unfold maxLen; omega))
              have HPUT := Lib.hid (fun q => (hEi.drewN q).2.1.put key (by unfold maxLen; omega) (by unfold maxLen; omega))
              have hor : ¬ (lineS val = false ∨ trimS val = false) := by rw [hln, htr]; decide
              cases hb : hasB ((me.take k).map Pr.key) key with
              | true =>
                have HV : Hid (V = 7) := by
                  show V = 7
                  have := HERR.out
                  rw [metErr, if_neg (by rw [hn]; decide), if_neg hor, if_pos hb] at this
                  rw [HE2.out, ← this]; rfl
                have HBB := Lib.hid hb
                clear hn hln hb htr hor
                go_upto_region 7 with (fail)
                rw [← hwi]
                clear hwi hEi
                go_wp2_with fail
                refine (CN.out _).mono ?_
                rintro e w3 ⟨rfl, rfl⟩
                go_wp2_with fail
                refine (CV.out _).mono ?_
                rintro e w3 ⟨rfl, q, rfl⟩
                go_wp2_with fail
                refine (CT.out _).mono ?_
                rintro e w3 ⟨rfl, rfl⟩
                have hlk := HLK.out q
                rw [hasB_rev, HBB.out] at hlk
                go_wp2
                go_ret
                exact ⟨by rw [HV.out]; rfl, below_dN HEI.out.2.2.1 q⟩
              | false =>
                have HN2 : Hid (metErr ((me.take (k + 1)).map Pr.key) (me.drop (k + 1)) = E1) := by
                  show _ = _
                  have := HERR.out
                  rw [metErr, if_neg (by rw [hn]; decide), if_neg hor, if_neg (by rw [hb]; decide)] at this
                  rw [HTK.out]; exact this
                have HBB := Lib.hid hb
                clear hn hln hb htr hor
                go_upto_region 7 with (fail)
                rw [← hwi]
                clear hwi hEi
                go_wp2_with fail
                refine (CN.out _).mono ?_
                rintro e w3 ⟨rfl, rfl⟩
                go_wp2_with fail
                refine (CV.out _).mono ?_
                rintro e w3 ⟨rfl, q, rfl⟩
                go_wp2_with fail
                refine (CT.out _).mono ?_
                rintro e w3 ⟨rfl, rfl⟩
                have hlk := HLK.out q
                rw [hasB_rev, HBB.out] at hlk
                obtain ⟨w', hup, hS', hg⟩ := HPUT.out q
                have HN' := Lib.hid ((HEI.out.drewN q).put hg hS')
                clear hS' hg
                go_wp2
                go_roundw
                case rel => exact ⟨k + 1, by omega, by go_num, by rw [HTK.out, List.reverse_append]; exact HN'.out, HN2.out⟩
                case measure => simp [intOf]; omega
      · obtain rfl : k = me.length := by omega
        have HV : Hid (V = Blk.errL cl 0 0 l) := by
          show V = _
          rw [List.drop_length, metErr] at herr
          rw [HE2.out, ← herr]; rfl
        have p1 : wr.cell? ⟨w.heap.size, 1, none⟩ = some (.slice a2 l.length c2) := hEt.1.cell 1 _ rfl
        have TB := Lib.hid (tBlocks_any cl l a2 c2 wr SM.out MA.out (HB.out.up hEt.2.2.1))
        rw [← HV.out] at TB
        clear herr hEt hk hlt
        go_wp2_with fail
        refine TB.out.mono ?_
        rintro e w4 ⟨rfl, b4⟩
        go_wp2
        go_ret
        exact ⟨rfl, below_trans_size HET.out.2.2.1 b4⟩
end Go.Proofs.YtjobjicdfoklpaaGreatDoor
