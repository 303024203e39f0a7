/- The small case with which each statement of layer 4 ends: the plain facts, and 'text'. The small case with which each statement of layer 4 ends: it answers true. The small case with which each statement of layer 4 ends: the walk. -/
import Derived.Test.YtjobjicdfoklpaaGreatDoorChW
import Derived.Test.YtjobjicdfoklpaaGreatDoorMergP
import Derived.Test.YtjobjicdfoklpaaGreatDoorSeqG
import Derived.Test.YtjobjicdfoklpaaGreatDoorMerge
import Derived.Test.YtjobjicdfoklpaaGreatDoorAppend
namespace Go.Proofs.YtjobjicdfoklpaaGreatDoor
open Go.RowKit
set_option linter.unusedVariables false
set_option linter.unusedSimpArgs false

def at0 : At := ⟨⟨#[]⟩, [], []⟩
def txI (t : ByteArray) : Inl := .mk 1 t ⟨#[]⟩ ⟨#[]⟩ at0 [] [] []
def awB : Blk := .mk 2 1 ⟨#[]⟩ ⟨#[]⟩ ⟨#[]⟩ ⟨#[]⟩ at0 [txI ⟨#[84]⟩] []
theorem aw_check : docErr (fun _ => true) [] [awB] = 0 := by decide +kernel
theorem aw_name : docErr (fun _ => true) [⟨⟨#[97, 32, 98]⟩, ⟨#[]⟩⟩] [] = 6 := by decide +kernel
theorem aw_mth : Blk.mthL [awB] = false := by decide +kernel
theorem aw_all : Blk.allL [awB] = 2 := by decide +kernel
theorem aw_dep : Blk.depL [awB] = 1 := by decide +kernel
theorem aw_plain : Inl.plainL [txI ⟨#[84]⟩] = [84] := by decide +kernel
theorem aw_merge : Inl.mergeL [txI ⟨#[97]⟩, txI ⟨#[]⟩, txI ⟨#[98]⟩] = [txI ⟨#[97, 98]⟩] := by rfl
theorem aw_diff : [txI ⟨#[97]⟩, txI ⟨#[98]⟩] ≠ [txI ⟨#[97, 98]⟩] := by simp

def txC (t : ByteArray) : List Value := [.int .i64 1, .string t, .string ⟨#[]⟩, .string ⟨#[]⟩, .string ⟨#[]⟩, .slice none 0 0, .slice none 0 0, .slice none 0 0, .slice none 0 0, .slice none 0 0]
set_option maxRecDepth 100000 in
set_option maxHeartbeats 1000000 in
theorem text_any (t : ByteArray) (w : World) :
    Calls Tryz.prog 61 #[.string t] w fun e w' => e = .returned (.agg (txC t).toArray) ∧ Below w.heap.size w w' := by
  obtain ⟨w0, hw0⟩ : ∃ w0, w0 = w.alloc (.cells #[.int .i64 0, .string ⟨#[]⟩, .string ⟨#[]⟩, .string ⟨#[]⟩, .string ⟨#[]⟩, .slice none 0 0, .slice none 0 0, .slice none 0 0, .slice none 0 0, .slice none 0 0] 47) := ⟨_, rfl⟩
  have b0 : Below w.heap.size w w0 := by rw [hw0]; exact (Below.refl _ _).alloc (Nat.le_refl _) _
  have P0 : PB w.heap.size [.int .i64 0, .string ⟨#[]⟩, .string ⟨#[]⟩, .string ⟨#[]⟩, .string ⟨#[]⟩, .slice none 0 0, .slice none 0 0, .slice none 0 0, .slice none 0 0, .slice none 0 0] w0 := by rw [hw0]; exact heap_alloc_new w _
  have r0 := P0.cell 0 _ rfl
  have r1 := P0.cell 1 _ rfl
  have r2 := P0.cell 2 _ rfl
  have r3 := P0.cell 3 _ rfl
  have r4 := P0.cell 4 _ rfl
  have r5 := P0.cell 5 _ rfl
  have r6 := P0.cell 6 _ rfl
  have r7 := P0.cell 7 _ rfl
  have r8 := P0.cell 8 _ rfl
  have r9 := P0.cell 9 _ rfl
  have g0 := P0.free 0
  have g1 := P0.free 1
  have g2 := P0.free 2
  have g3 := P0.free 3
  have g4 := P0.free 4
  have g5 := P0.free 5
  have g6 := P0.free 6
  have g7 := P0.free 7
  have g8 := P0.free 8
  have g9 := P0.free 9
  have FB := Lib.hid (fun u0 u1 u2 u3 u4 u5 u6 u7 u8 u9 => (((((((((b0.setCell (p := ⟨w.heap.size, 0, none⟩) (Nat.le_refl _) u0).setCell (p := ⟨w.heap.size, 1, none⟩) (Nat.le_refl _) u1).setCell (p := ⟨w.heap.size, 2, none⟩) (Nat.le_refl _) u2).setCell (p := ⟨w.heap.size, 3, none⟩) (Nat.le_refl _) u3).setCell (p := ⟨w.heap.size, 4, none⟩) (Nat.le_refl _) u4).setCell (p := ⟨w.heap.size, 5, none⟩) (Nat.le_refl _) u5).setCell (p := ⟨w.heap.size, 6, none⟩) (Nat.le_refl _) u6).setCell (p := ⟨w.heap.size, 7, none⟩) (Nat.le_refl _) u7).setCell (p := ⟨w.heap.size, 8, none⟩) (Nat.le_refl _) u8).setCell (p := ⟨w.heap.size, 9, none⟩) (Nat.le_refl _) u9)
  clear P0 b0
  go_enter Tryz.func61, Tryz.ntmps61
  go_upto_region 1 with (fail)
  rw [← hw0]
  clear hw0
  go_wp2
  exact bodyPost_ret (v := .agg (txC t).toArray) (by simp [txC, results, Tryz.results61, go_sem, r0, r1, r2, r3, r4, r5, r6, r7, r8, r9]) rfl ⟨rfl, FB.out _ _ _ _ _ _ _ _ _ _⟩
end Go.Proofs.YtjobjicdfoklpaaGreatDoor

namespace Go.Proofs.YtjobjicdfoklpaaGreatDoor
open Go.RowKit
set_option linter.unusedVariables false
set_option linter.unusedSimpArgs false

theorem Rd.sl_of {ok : Nat → Prop} {w : World} {k : Nat} {l : List D} {rows : List (List Value)} {b cap : Nat} (hl : l.length ≤ cap) (hm : cap ≤ maxLen) (h : RdL ok w l rows) (hk : ∀ r ∈ rows, r.length = k) (hok : ok b) (hb : b < w.heap.size)
    (hc : ∀ j u, rows.flatten[j]? = some u → w.cell? ⟨b, j, none⟩ = some u) : Rd ok w (.sl k l) [.slice (some ⟨b, 0, none⟩) l.length cap] := by
  unfold Rd
  exact ⟨_, cap, rows, rfl, hl, hm, h, hk, .inr ⟨b, 0, rfl, hok, hb, fun j u hu => by rw [Nat.zero_add]; exact hc j u hu⟩⟩
theorem at0_rd (ok : Nat → Prop) (w : World) : AtR ok w at0 (.slice none 0 0) (.slice none 0 0) := ⟨Rd.nil_mk _ _ _, Rd.nil_mk _ _ _⟩
theorem txI_rd (ok : Nat → Prop) (w : World) (t : ByteArray) : Rd ok w (txI t).d (txC t) := Inl.mk_ 1 t ⟨#[]⟩ ⟨#[]⟩ ⟨at0_rd _ _, Rd.nil_mk _ _ _, Rd.nil_mk _ _ _, Rd.nil_mk _ _ _⟩

def bRow (p : Nat) : List Value := [.int .i64 2, .int .i64 1, .string ⟨#[]⟩, .string ⟨#[]⟩, .string ⟨#[]⟩, .string ⟨#[]⟩, .string ⟨#[]⟩, .slice none 0 0, .slice none 0 0, .slice (some ⟨p, 0, none⟩) 1 1, .slice none 0 0]
structure AwS (w0 : World) (p1 p2 p3 p5 : Nat) (wr : World) : Prop where
  k1 : CB 47 p1 (txC ⟨#[84]⟩) wr
  k2 : CB 54 p2 (bRow p1) wr
  k3 : CB 25 p3 [.slice none 0 0, .slice (some ⟨p2, 0, none⟩) 1 1] wr
  k5 : CB 47 p5 (txC ⟨#[97]⟩ ++ txC ⟨#[98]⟩) wr
  bl : Below w0.heap.size w0 wr
theorem AwS.below {w0 wr w' : World} {p1 p2 p3 p5 : Nat} (h : AwS w0 p1 p2 p3 p5 wr) (hb : Below wr.heap.size wr w') : AwS w0 p1 p2 p3 p5 w' :=
  ⟨h.k1.below hb, h.k2.below hb, h.k3.below hb, h.k5.below hb, below_trans_size h.bl hb⟩
theorem AwS.rdL {w0 wr : World} {p1 p2 p3 p5 : Nat} (h : AwS w0 p1 p2 p3 p5 wr) : Rd (· < wr.heap.size) wr (inlsD [txI ⟨#[84]⟩]) [.slice (some ⟨p1, 0, none⟩) 1 1] :=
  Rd.sl_of (l := [txI ⟨#[84]⟩].map Inl.d) (rows := [txC ⟨#[84]⟩]) (by simp) (by unfold maxLen; decide) (RdL.one (txI_rd _ _ _)) (by simp [txC]) h.k1.lt h.k1.lt (fun j u hu => h.k1.cell j u (by simpa using hu))
theorem AwS.rdB {w0 wr : World} {p1 p2 p3 p5 : Nat} (h : AwS w0 p1 p2 p3 p5 wr) : Rd (· < wr.heap.size) wr (blksD [awB]) [.slice (some ⟨p2, 0, none⟩) 1 1] :=
  Rd.sl_of (l := [awB].map Blk.d) (rows := [bRow p1]) (by simp) (by unfold maxLen; decide) (RdL.one (Blk.mk_ 2 1 ⟨#[]⟩ ⟨#[]⟩ ⟨#[]⟩ ⟨#[]⟩ ⟨at0_rd _ _, h.rdL, Rd.nil_mk _ _ _⟩)) (by simp [bRow]) h.k2.lt h.k2.lt (fun j u hu => h.k2.cell j u (by simpa using hu))
theorem AwS.rdT {w0 wr : World} {p1 p2 p3 p5 : Nat} (h : AwS w0 p1 p2 p3 p5 wr) : Rd (· < wr.heap.size) wr (inlsD [txI ⟨#[97]⟩, txI ⟨#[98]⟩]) [.slice (some ⟨p5, 0, none⟩) 2 2] :=
  Rd.sl_of (l := [txI ⟨#[97]⟩, txI ⟨#[98]⟩].map Inl.d) (rows := [txC ⟨#[97]⟩, txC ⟨#[98]⟩]) (by simp) (by unfold maxLen; decide) (RdL.cons (txI_rd _ _ _) (RdL.one (txI_rd _ _ _))) (by simp [txC]) h.k5.lt h.k5.lt (fun j u hu => h.k5.cell j u (by simpa using hu))
theorem aw_line : lineErr [txI ⟨#[97]⟩, txI ⟨#[98]⟩] = 5 := by decide +kernel
theorem at0_short : at0.short := ⟨by decide, by decide, by decide, fun _ h => (by cases h), fun _ h => (by cases h)⟩
theorem txI_small (t : ByteArray) (h : t.size ≤ 300) : (txI t).small := by
  unfold txI Inl.small Inl.smallL
  exact ⟨h, by decide, by decide, at0_short, by decide, by decide, fun _ h => (by cases h), fun _ h => (by cases h), trivial⟩
theorem aw_smT : Inl.smallL [txI ⟨#[97]⟩, txI ⟨#[98]⟩] := by
  unfold Inl.smallL Inl.smallL Inl.smallL
  exact ⟨txI_small _ (by decide), txI_small _ (by decide), trivial⟩
theorem aw_smL : Inl.smallL [txI ⟨#[84]⟩] := by
  unfold Inl.smallL Inl.smallL
  exact ⟨txI_small _ (by decide), trivial⟩
theorem aw_smB : Blk.smallL [awB] := by
  have h1 := at0_short
  have h2 := aw_smL
  have h3 : Inl.szL [txI ⟨#[84]⟩] ≤ 120 := by decide +kernel
  have h4 : (⟨#[]⟩ : ByteArray).size ≤ 300 := by decide
  simp [awB, Blk.smallL, Blk.small, h1, h2, h3, h4]
theorem aw_bd3 : Inl.bdL [txI ⟨#[97]⟩, txI ⟨#[]⟩, txI ⟨#[98]⟩] := by simp [txI, at0, Inl.bdL, Inl.bd]
theorem aw_tx3 : Inl.txBL [txI ⟨#[97]⟩, txI ⟨#[]⟩, txI ⟨#[98]⟩] := by simp [txI, at0, Inl.txBL, Inl.txB]; decide
end Go.Proofs.YtjobjicdfoklpaaGreatDoor

namespace Go.Proofs.YtjobjicdfoklpaaGreatDoor
open Go.RowKit
set_option linter.unusedVariables false
set_option linter.unusedSimpArgs false

theorem text_lit (t : ByteArray) (w : World) :
    Calls Tryz.prog 61 #[.string t] w fun e w' => e = .returned (.agg #[.int .i64 1, .string t, .string ⟨#[]⟩, .string ⟨#[]⟩, .string ⟨#[]⟩, .slice none 0 0, .slice none 0 0, .slice none 0 0, .slice none 0 0, .slice none 0 0]) ∧ Below w.heap.size w w' :=
  (text_any t w).mono fun e w' h => ⟨h.1, h.2⟩
theorem aw_mathC (l : List Blk) (h : Blk.mthL l = false) : Blk.mthL l = true → MathC (fun _ => true) := fun h2 => by rw [h] at h2; cases h2

set_option maxRecDepth 100000 in
set_option maxHeartbeats 4000000 in
theorem awake_any (w : World) : Calls Tryz.prog 21 #[] w fun e w' => e = .returned (.bool true) ∧ Below w.heap.size w w' := by
  go_enter Tryz.func21, Tryz.ntmps21
  go_wp2_with fail
  refine (text_lit _ _).mono ?_
  rintro e w1 ⟨rfl, b1⟩
  go_upto_region 2 with (fail)
  obtain ⟨w3, hw3⟩ : ∃ w3, w3 = ((w1.alloc (.cells (txC ⟨#[84]⟩).toArray 47)).alloc (.cells (bRow w1.heap.size).toArray 54)).alloc (.cells #[.slice none 0 0, .slice (some ⟨w1.heap.size + 1, 0, none⟩) 1 1] 25) := ⟨_, rfl⟩
  have K1 : CB 47 w1.heap.size (txC ⟨#[84]⟩) w3 := by
    rw [hw3]; exact ((CB.new _ _ _).below ((Below.refl _ _).alloc (Nat.le_refl _) _)).below ((Below.refl _ _).alloc (Nat.le_refl _) _)
  have K2 : CB 54 (w1.heap.size + 1) (bRow w1.heap.size) w3 := by
    rw [hw3]
    have := (CB.new 54 (bRow w1.heap.size) (w1.alloc (.cells (txC ⟨#[84]⟩).toArray 47))).below ((Below.refl _ _).alloc (Nat.le_refl _) (.cells #[.slice none 0 0, .slice (some ⟨w1.heap.size + 1, 0, none⟩) 1 1] 25))
    rwa [World.size_alloc] at this
  have K3 : CB 25 (w1.heap.size + 2) [.slice none 0 0, .slice (some ⟨w1.heap.size + 1, 0, none⟩) 1 1] w3 := by
    rw [hw3]
    have := CB.new 25 [.slice none 0 0, .slice (some ⟨w1.heap.size + 1, 0, none⟩) 1 1] ((w1.alloc (.cells (txC ⟨#[84]⟩).toArray 47)).alloc (.cells (bRow w1.heap.size).toArray 54))
    rwa [World.size_alloc, World.size_alloc] at this
  have b3 : Below w.heap.size w w3 := by
    rw [hw3]; exact ((b1.alloc b1.size _).alloc (by have := b1.size; simp; omega) _).alloc (by have := b1.size; simp; omega) _
  unfold bRow txC at hw3
  rw [← hw3]
  clear hw3 b1
  generalize w1.heap.size = p1 at *
  have HK1 := Lib.hid K1
  have HK2 := Lib.hid K2
  have HK3 := Lib.hid K3
  have HB3 := Lib.hid b3
  clear K1 K2 K3 b3
  go_wp2_with fail
  refine (text_lit _ _).mono ?_
  rintro e w4 ⟨rfl, b4⟩
  go_wp2_with fail
  refine (text_lit _ _).mono ?_
  rintro e w5 ⟨rfl, b5⟩
  have B5 := Lib.hid (below_trans_size b4 b5)
  clear b4 b5
  go_upto_region 3 with (fail)
  obtain ⟨w6, hw6⟩ : ∃ w6, w6 = w5.alloc (.cells (txC ⟨#[97]⟩ ++ txC ⟨#[98]⟩).toArray 47) := ⟨_, rfl⟩
  have S6 : AwS w p1 (p1 + 1) (p1 + 2) w5.heap.size w6 := by
    have b6 : Below w5.heap.size w5 w6 := by rw [hw6]; exact (Below.refl _ _).alloc (Nat.le_refl _) _
    have bb := below_trans_size B5.out b6
    exact ⟨HK1.out.below bb, HK2.out.below bb, HK3.out.below bb, by rw [hw6]; exact CB.new _ _ _, below_trans_size HB3.out bb⟩
  unfold txC at hw6
  simp only [List.cons_append, List.nil_append] at hw6
  rw [← hw6]
  clear hw6 B5 HK1 HK2 HK3 HB3
  generalize w5.heap.size = p5 at *
  have HS6 := Lib.hid S6
  have d0 := S6.k3.cell 0 _ rfl
  have d1 := S6.k3.cell 1 _ rfl
  have CK := tCheck_any (fun _ => true) [] [awB] none (some ⟨p1 + 1, 0, none⟩) 0 1 1 w6 (by simp) (by simp) (by rw [aw_all]; decide) aw_smB (aw_mathC _ aw_mth) (Rd.nil_mk _ _ _) S6.rdB
  rw [aw_check] at CK
  have HCK := Lib.hid CK
  clear CK S6
  go_wp2_with fail
  refine HCK.out.mono ?_
  rintro e w7 ⟨rfl, b7⟩
  have S7 := HS6.out.below b7
  have HS7 := Lib.hid S7
  have d0 := S7.k3.cell 0 _ rfl
  have d1 := S7.k3.cell 1 _ rfl
  have SZ := tSize_any [awB] none (some ⟨p1 + 1, 0, none⟩) 0 0 1 1 w7 (by rw [aw_all]; decide) S7.rdB
  rw [aw_all] at SZ
  have HSZ := Lib.hid SZ
  clear SZ S7 b7 HS6 HCK
  go_wp2_with fail
  refine HSZ.out.mono ?_
  rintro e w8 ⟨rfl, b8⟩
  have S8 := HS7.out.below b8
  have HS8 := Lib.hid S8
  have d0 := S8.k3.cell 0 _ rfl
  have d1 := S8.k3.cell 1 _ rfl
  have d9 := S8.k2.cell 9 _ rfl
  have PL := tPlain_any [txI ⟨#[84]⟩] _ w8 S8.rdL (by rw [aw_plain]; decide)
  rw [aw_plain] at PL
  have HPL := Lib.hid PL
  clear PL S8 b8 HS7 HSZ
  go_wp2_with fail
  refine HPL.out.mono ?_
  rintro e w9 ⟨rfl, b9⟩
  have S9 := HS8.out.below b9
  have HS9 := Lib.hid S9
  have LE := tLineErr_any [txI ⟨#[97]⟩, txI ⟨#[98]⟩] (some ⟨p5, 0, none⟩) 2 w9 aw_smT S9.rdT
  rw [aw_line] at LE
  have HLE := Lib.hid LE
  clear LE S9 b9 HS8 HPL
  go_wp2_with fail
  refine HLE.out.mono ?_
  rintro e w10 ⟨rfl, b10⟩
  have S10 := Lib.hid (HS9.out.below b10)
  clear HS9 HLE b10
  go_wp2_with fail
  refine (text_lit _ _).mono ?_
  rintro e w11 ⟨rfl, b11⟩
  have S11 := Lib.hid (S10.out.below b11)
  clear S10 b11
  go_wp2_with fail
  refine (text_lit _ _).mono ?_
  rintro e w12 ⟨rfl, b12⟩
  go_wp2_with fail
  refine (text_lit _ _).mono ?_
  rintro e w13 ⟨rfl, b13⟩
  have S13 := Lib.hid (S11.out.below (below_trans_size b12 b13))
  clear S11 b12 b13
  obtain ⟨w14, hw14⟩ : ∃ w14, w14 = w13.alloc (.cells (txC ⟨#[97]⟩ ++ (txC ⟨#[]⟩ ++ txC ⟨#[98]⟩)).toArray 47) := ⟨_, rfl⟩
  have b14 : Below w13.heap.size w13 w14 := by rw [hw14]; exact (Below.refl _ _).alloc (Nat.le_refl _) _
  have K14 : CB 47 w13.heap.size (txC ⟨#[97]⟩ ++ (txC ⟨#[]⟩ ++ txC ⟨#[98]⟩)) w14 := by rw [hw14]; exact CB.new _ _ _
  have RD14 : Rd (· < w14.heap.size) w14 (inlsD [txI ⟨#[97]⟩, txI ⟨#[]⟩, txI ⟨#[98]⟩]) [.slice (some ⟨w13.heap.size, 0, none⟩) 3 3] :=
    Rd.sl_of (l := [txI ⟨#[97]⟩, txI ⟨#[]⟩, txI ⟨#[98]⟩].map Inl.d) (rows := [txC ⟨#[97]⟩, txC ⟨#[]⟩, txC ⟨#[98]⟩]) (by simp) (by unfold maxLen; decide) (RdL.cons (txI_rd _ _ _) (RdL.cons (txI_rd _ _ _) (RdL.one (txI_rd _ _ _)))) (by simp [txC]) K14.lt K14.lt (fun j u hu => K14.cell j u (by simpa using hu))
  have MG := tMerge_any 3 [txI ⟨#[97]⟩, txI ⟨#[]⟩, txI ⟨#[98]⟩] w14.heap.size _ w14 (by decide +kernel) (by decide) RD14 (Nat.le_refl _) aw_bd3 aw_tx3
  rw [aw_merge] at MG
  have HMG := Lib.hid MG
  have S14 := Lib.hid (S13.out.below b14)
  clear MG RD14 K14 b14 S13
  go_wp2_with fail
  unfold txC at hw14
  simp only [List.cons_append, List.nil_append] at hw14
  rw [← hw14]
  clear hw14
  refine HMG.out.mono ?_
  rintro e w15 ⟨vm, rfl, hm0, b15⟩
  have hm := hm0.any
  obtain ⟨am, cm, hvm, hsm⟩ := Rd.sl_open hm
  obtain rfl : vm = .slice am 1 cm := by simpa using hvm
  have hcm : 1 ≤ cm := by simpa using hsm.le
  have hcx := hsm.max
  unfold maxLen at hcx
  obtain ⟨g, off, vc, vp, va, vi, vk, hag, -, -, hc, -⟩ := inls_at (l := [txI ⟨#[97, 98]⟩]) hsm (k := 0) rfl
  cases hag
  have c1 := hc.c1
  have HM15 := Lib.hid hm
  have S15 := S14.out.below b15
  have HS15 := Lib.hid S15
  have d1 := S15.k3.cell 1 _ rfl
  have DP := tDepth_any 2 [awB] _ _ w15 (by decide +kernel) (by decide) S15.rdB
  rw [aw_dep] at DP
  have HDP := Lib.hid DP
  clear hm0 hm hvm hsm hc b15 S15 DP S14 HMG
  go_wp2_with fail
  refine HDP.out.mono ?_
  rintro e w15b ⟨rfl, rfl⟩
  have d0 := HS15.out.k3.cell 0 _ rfl
  have d1 := HS15.out.k3.cell 1 _ rfl
  have SM := Lib.hid (tSame_any [] [] [awB] [awB] _ _ _ _ w15 (Rd.nil_mk _ _ _) (Rd.nil_mk _ _ _) HS15.out.rdB HS15.out.rdB)
  clear HDP
  go_wp2_with fail
  refine SM.out.mono ?_
  rintro e w16 ⟨b, rfl, hb, b16⟩
  obtain rfl : b = true := hb.2 (by simp)
  have S16 := Lib.hid (HS15.out.below b16)
  have SL := Lib.hid (tSameLine_any _ [txI ⟨#[97]⟩, txI ⟨#[98]⟩] [txI ⟨#[97, 98]⟩] _ _ w16 (Nat.le_refl _) S16.out.rdT (HM15.out.up b16))
  clear hb b16 SM HS15
  go_wp2_with fail
  refine SL.out.mono ?_
  rintro e w17 ⟨b, rfl, hb, b17⟩
  obtain rfl : b = false := by
    cases b with
    | false => rfl
    | true => exact absurd (hb.1 rfl) aw_diff
  have S17 := Lib.hid (S16.out.below b17)
  clear hb b17 SL S16
  obtain ⟨w18, hw18⟩ : ∃ w18, w18 = w17.alloc (.cells #[.string ⟨#[97, 32, 98]⟩, .string ⟨#[]⟩] 61) := ⟨_, rfl⟩
  have b18 : Below w17.heap.size w17 w18 := by rw [hw18]; exact (Below.refl _ _).alloc (Nat.le_refl _) _
  have K18 : CB 61 w17.heap.size [.string ⟨#[97, 32, 98]⟩, .string ⟨#[]⟩] w18 := by rw [hw18]; exact CB.new _ _ _
  have RD18 : Rd (· < w18.heap.size) w18 (prsD [⟨⟨#[97, 32, 98]⟩, ⟨#[]⟩⟩]) [.slice (some ⟨w17.heap.size, 0, none⟩) 1 1] :=
    Rd.sl_of (l := [(⟨⟨#[97, 32, 98]⟩, ⟨#[]⟩⟩ : Pr)].map Pr.d) (rows := [[.string ⟨#[97, 32, 98]⟩, .string ⟨#[]⟩]]) (by simp) (by unfold maxLen; decide) (RdL.one (Pr.mk_ _ _ ⟨⟨#[97, 32, 98]⟩, ⟨#[]⟩⟩)) (by simp) K18.lt K18.lt (fun j u hu => K18.cell j u (by simpa using hu))
  have CK2 := tCheck_any (fun _ => true) [⟨⟨#[97, 32, 98]⟩, ⟨#[]⟩⟩] [] (some ⟨w17.heap.size, 0, none⟩) none 1 0 0 w18 (by simp) (by intro p hp; simp at hp; subst hp; exact ⟨by decide, by decide⟩) (by decide +kernel) (by unfold Blk.smallL; trivial) (aw_mathC _ (by decide +kernel)) RD18 (Rd.nil_mk _ _ _)
  rw [aw_name] at CK2
  have HCK2 := Lib.hid CK2
  have S18 := Lib.hid (S17.out.below b18)
  clear CK2 RD18 K18 b18 S17
  go_wp2_with fail
  rw [← hw18]
  clear hw18
  refine HCK2.out.mono ?_
  rintro e w19 ⟨rfl, b19⟩
  have S19 := Lib.hid (S18.out.below b19)
  clear b19 S18 HCK2
  go_wp2
  go_ret
  exact ⟨rfl, S19.out.bl⟩
end Go.Proofs.YtjobjicdfoklpaaGreatDoor
