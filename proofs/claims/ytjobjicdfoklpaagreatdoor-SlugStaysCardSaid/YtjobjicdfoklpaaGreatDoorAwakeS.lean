/- The small case with which each statement of layer 21 ends: it answers true. -/
import Derived.Test.YtjobjicdfoklpaaGreatDoorAnch
import Derived.Test.YtjobjicdfoklpaaGreatDoorSlugOf
namespace Go.Proofs.YtjobjicdfoklpaaGreatDoor
open Go.RowKit
set_option linter.unusedVariables false
set_option linter.unusedSimpArgs false

theorem aw_all : allA [⟨#[65]⟩, ⟨#[66]⟩, ⟨#[97]⟩, ⟨#[65]⟩] [⟨#[98]⟩] = [⟨#[97]⟩, ⟨#[98, 45, 49]⟩, ⟨#[97, 45, 49]⟩, ⟨#[97, 45, 50]⟩] := by decide +kernel
theorem aw_of1 : slugS ⟨#[84, 104, 101, 32, 50, 110, 100, 32, 80, 97, 114, 116, 33]⟩ = ⟨#[116, 104, 101, 45, 50, 110, 100, 45, 112, 97, 114, 116]⟩ := by decide +kernel
theorem aw_of2 : slugS ⟨#[50, 32, 195, 169]⟩ = ⟨#[115, 45, 50]⟩ := by decide +kernel
theorem aw_of3 : slugS ⟨#[63, 33]⟩ = ⟨#[115, 101, 99, 116, 105, 111, 110]⟩ := by decide +kernel
theorem aw_of4 : slugS ⟨#[195, 132, 112, 102, 101, 108]⟩ = ⟨#[112, 102, 101, 108]⟩ := by decide +kernel

def noAt (id : ByteArray) : At := ⟨id, [], []⟩
def awIn : Inl := .mk 1 ⟨#[65]⟩ ⟨#[]⟩ ⟨#[]⟩ (noAt ⟨#[]⟩) [] [] []
def awBl (id : ByteArray) : Blk := .mk 2 1 ⟨#[]⟩ ⟨#[]⟩ ⟨#[]⟩ ⟨#[]⟩ (noAt id) [awIn] []
def awL : List Blk := [awBl ⟨#[]⟩, awBl ⟨#[97]⟩]
theorem aw_each : Blk.eachL awL = awL := by simp [awL, awBl, Blk.eachL, Blk.each]
theorem aw_text : textB (Blk.eachL awL) = [⟨#[65]⟩] := by rw [aw_each]; simp [awL, awBl, textB, Blk.tx1, noAt, awIn, Inl.plainL, Inl.plain]
theorem aw_inls : Blk.inlsL awL = [awIn, awIn] := by simp [awL, awBl, Blk.inlsL, Blk.inls, Inl.deepL, Inl.deep, awIn]
theorem aw_used : usedB (Blk.eachL awL) ++ usedI (Blk.inlsL awL) = [⟨#[97]⟩] := by rw [aw_each, aw_inls]; simp [awL, awBl, usedB, Blk.id1, usedI, Inl.id1, noAt, awIn]
theorem aw_allA : allA [⟨#[65]⟩] [⟨#[97]⟩] = [⟨#[97, 45, 49]⟩] := by decide +kernel
theorem aw_named : (Blk.nameL awL (allA (textB (Blk.eachL awL)) (usedB (Blk.eachL awL) ++ usedI (Blk.inlsL awL)))).1 = [awBl ⟨#[97, 45, 49]⟩, awBl ⟨#[97]⟩] := by
  rw [aw_text, aw_used, aw_allA]
  simp [awL, awBl, Blk.nameL, Blk.name, noAt]

theorem Rd.sl_mk {ok : Nat → Prop} {w : World} {k : Nat} {l : List D} {rows : List (List Value)} {b off cap : Nat} (hl : l.length ≤ cap) (hm : cap ≤ maxLen) (h : RdL ok w l rows) (hk : ∀ r ∈ rows, r.length = k) (hok : ok b) (hb : b < w.heap.size)
    (hc : ∀ j u, rows.flatten[j]? = some u → w.cell? ⟨b, off + j, none⟩ = some u) : Rd ok w (.sl k l) [.slice (some ⟨b, off, none⟩) l.length cap] := by
  unfold Rd
  exact ⟨_, cap, rows, rfl, hl, hm, h, hk, .inr ⟨b, off, rfl, hok, hb, hc⟩⟩
theorem noAt_rd (ok : Nat → Prop) (w : World) (id : ByteArray) : AtR ok w (noAt id) (.slice none 0 0) (.slice none 0 0) := ⟨Rd.nil_mk _ _ _, Rd.nil_mk _ _ _⟩

theorem sees_new (w : World) (cs : List Value) (T : TypeId) (h : cs.length ≤ maxLen) : Sees (w.alloc (.cells cs.toArray T)) 1 (.slice (some ⟨w.heap.size, 0, none⟩) cs.length cs.length) cs.length cs :=
  ⟨by simp, _, _, rfl, Nat.le_refl _, h, .inr ⟨w.heap.size, 0, rfl, fun j u hu => by rw [Nat.zero_add]; exact new_cell w cs T j u hu⟩⟩

def awInR : List Value := [.int .i64 1, .string ⟨#[65]⟩, .string ⟨#[]⟩, .string ⟨#[]⟩, .string ⟨#[]⟩, .slice none 0 0, .slice none 0 0, .slice none 0 0, .slice none 0 0, .slice none 0 0]
def awRow (g : Nat) (id : ByteArray) : List Value := [.int .i64 2, .int .i64 1, .string ⟨#[]⟩, .string ⟨#[]⟩, .string ⟨#[]⟩, .string ⟨#[]⟩, .string id, .slice none 0 0, .slice none 0 0, .slice (some ⟨g, 0, none⟩) 1 1, .slice none 0 0]
def awW (w : World) : World := (((w.alloc (.cells awInR.toArray 47)).alloc (.cells (awRow w.heap.size ⟨#[]⟩).toArray 54)).alloc (.cells (awRow w.heap.size ⟨#[97]⟩).toArray 54)).alloc (.cells (awRow w.heap.size ⟨#[]⟩ ++ awRow w.heap.size ⟨#[97]⟩).toArray 54)
theorem awW_size (w : World) : (awW w).heap.size = w.heap.size + 4 := by simp [awW]
theorem awW_below (w : World) : Below w.heap.size w (awW w) := ((((Below.refl _ _).alloc (Nat.le_refl _) _).alloc (by simp) _).alloc (by simp; omega) _).alloc (by simp; omega) _
theorem awW_inl (w : World) : Rd (· < (awW w).heap.size) (awW w) (inlsD [awIn]) [.slice (some ⟨w.heap.size, 0, none⟩) 1 1] := by
  refine Rd.sl_mk (l := [awIn].map Inl.d) (rows := [awInR]) (by simp) (by unfold maxLen; decide) (RdL.one ?_) (by simp [awInR]) (by rw [awW_size]; omega) (by rw [awW_size]; omega) ?_
  · exact Inl.mk_ 1 ⟨#[65]⟩ ⟨#[]⟩ ⟨#[]⟩ ⟨noAt_rd _ _ _, Rd.nil_mk _ _ _, Rd.nil_mk _ _ _, Rd.nil_mk _ _ _⟩
  · intro j u hu
    simp only [List.flatten_cons, List.flatten_nil, List.append_nil] at hu
    rw [Nat.zero_add]
    have h1 := new_cell w awInR 47 j u hu
    have hb : Below (w.heap.size + 1) (w.alloc (.cells awInR.toArray 47)) (awW w) := (((Below.refl _ _).alloc (by simp) _).alloc (by simp) _).alloc (by simp) _
    exact (hb.cell (p := ⟨w.heap.size, j, none⟩) (by show w.heap.size < w.heap.size + 1; omega)).trans h1
theorem awW_blk (w : World) (id : ByteArray) : Rd (· < (awW w).heap.size) (awW w) (awBl id).d (awRow w.heap.size id) :=
  Blk.mk_ 2 1 ⟨#[]⟩ ⟨#[]⟩ ⟨#[]⟩ ⟨#[]⟩ ⟨noAt_rd _ _ id, awW_inl w, Rd.nil_mk _ _ _⟩
theorem awW_rd (w : World) : Rd (· < (awW w).heap.size) (awW w) (blksD awL) [.slice (some ⟨w.heap.size + 3, 0, none⟩) 2 2] := by
  refine Rd.sl_mk (l := awL.map Blk.d) (rows := [awRow w.heap.size ⟨#[]⟩, awRow w.heap.size ⟨#[97]⟩]) (by simp [awL]) (by unfold maxLen; decide) (RdL.cons (awW_blk w _) (RdL.one (awW_blk w _))) (by simp [awRow]) (by rw [awW_size]; omega) (by rw [awW_size]; omega) ?_
  intro j u hu
  simp only [List.flatten_cons, List.flatten_nil, List.append_nil] at hu
  rw [Nat.zero_add]
  have := new_cell (((w.alloc (.cells awInR.toArray 47)).alloc (.cells (awRow w.heap.size ⟨#[]⟩).toArray 54)).alloc (.cells (awRow w.heap.size ⟨#[97]⟩).toArray 54)) (awRow w.heap.size ⟨#[]⟩ ++ awRow w.heap.size ⟨#[97]⟩) 54 j u hu
  have e : (((w.alloc (.cells awInR.toArray 47)).alloc (.cells (awRow w.heap.size ⟨#[]⟩).toArray 54)).alloc (.cells (awRow w.heap.size ⟨#[97]⟩).toArray 54)).heap.size = w.heap.size + 3 := by simp
  rw [e] at this
  exact this
theorem aw_bd : Blk.bdL awL := by simp [awL, awBl, Blk.bdL, Blk.bd, noAt, awIn, Inl.bdL, Inl.bd, Inl.szL, Inl.sz]
theorem aw_sz : Blk.szL awL = 2 := by simp [awL, awBl, Blk.szL, Blk.sz]
theorem aw_pl : ∀ b ∈ Blk.eachL awL, b.plLen ≤ 100000000 := by rw [aw_each]; simp [awL, awBl, Blk.plLen, awIn, Inl.plainL, Inl.plain]

set_option maxRecDepth 100000 in
set_option maxHeartbeats 4000000 in
theorem awake_any (w : World) (hPT : PT w) : Calls Tryz.prog 26 #[] w fun e w' => e = .returned (.bool true) ∧ Below w.heap.size w w' := by
  go_enter Tryz.func26, Tryz.ntmps26
  go_wp2_with fail
  obtain ⟨w1, hw1⟩ : ∃ w1, w1 = (w.alloc (.cells #[.string ⟨#[65]⟩, .string ⟨#[66]⟩, .string ⟨#[97]⟩, .string ⟨#[65]⟩] 9)).alloc (.cells #[.string ⟨#[98]⟩] 9) := ⟨_, rfl⟩
  have hb1 : Below w.heap.size w w1 := by rw [hw1]; exact ((Below.refl _ _).alloc (Nat.le_refl _) _).alloc (by simp) _
  have s1 : Sees w1 1 (.slice (some ⟨w.heap.size, 0, none⟩) 4 4) 4 [.string ⟨#[65]⟩, .string ⟨#[66]⟩, .string ⟨#[97]⟩, .string ⟨#[65]⟩] := by
    rw [hw1]
    exact (sees_new w [.string ⟨#[65]⟩, .string ⟨#[66]⟩, .string ⟨#[97]⟩, .string ⟨#[65]⟩] 9 (by unfold maxLen; decide)).below ((Below.refl _ _).alloc (Nat.le_refl _) _)
  have s2 : Sees w1 1 (.slice (some ⟨w.heap.size + 1, 0, none⟩) 1 1) 1 [.string ⟨#[98]⟩] := by
    rw [hw1]
    have := sees_new (w.alloc (.cells #[.string ⟨#[65]⟩, .string ⟨#[66]⟩, .string ⟨#[97]⟩, .string ⟨#[65]⟩] 9)) [.string ⟨#[98]⟩] 9 (by unfold maxLen; decide)
    rwa [World.size_alloc] at this
  rw [← hw1]
  have A1 := Lib.hid (slAll_any [⟨#[65]⟩, ⟨#[66]⟩, ⟨#[97]⟩, ⟨#[65]⟩] [⟨#[98]⟩] _ _ w1 s1 s2 (by decide) (by decide) (by decide) (by decide) (hPT.below hb1))
  have HB1 := Lib.hid hb1
  have HPT := Lib.hid (hPT.below hb1)
  clear hw1 s1 s2 hb1 hPT
  refine A1.out.mono ?_
  clear A1
  rintro e w2 ⟨v, rfl, hown, hb2⟩
  rw [aw_all] at hown
  obtain ⟨g, cap, rfl, hcap⟩ := own_form hown (by decide)
  have c0 := hown.cellAt 0 (by decide)
  have c1 := hown.cellAt 1 (by decide)
  have c2 := hown.cellAt 2 (by decide)
  have c3 := hown.cellAt 3 (by decide)
  simp at c0 c1 c2 c3
  have HB2 := Lib.hid (below_trans_size HB1.out hb2)
  have HPT2 := Lib.hid (HPT.out.below hb2)
  clear hown hb2 HB1 HPT
  go_wp2_with fail
  refine (slOf_any _ _ (by decide)).mono ?_
  rintro e w3 ⟨rfl, hb3⟩
  rw [aw_of1]
  go_wp2_with fail
  refine (slOf_any _ _ (by decide)).mono ?_
  rintro e w4 ⟨rfl, hb4⟩
  rw [aw_of2]
  go_wp2_with fail
  refine (slOf_any _ _ (by decide)).mono ?_
  rintro e w5 ⟨rfl, hb5⟩
  rw [aw_of3]
  go_wp2_with fail
  refine (slOf_any _ _ (by decide)).mono ?_
  rintro e w6 ⟨rfl, hb6⟩
  rw [aw_of4]
  have hb26 := below_trans_size (below_trans_size (below_trans_size hb3 hb4) hb5) hb6
  have HB6 := Lib.hid (below_trans_size HB2.out hb26)
  have HPT6 := Lib.hid (HPT2.out.below hb26)
  clear hb3 hb4 hb5 hb6 hb26 HB2 HPT2 c0 c1 c2 c3
  have A7 := Lib.hid (anchors_any [] awL _ _ (awW w6) (Rd.nil_mk _ _ _) (awW_rd w6) (HPT6.out.below (awW_below w6)) aw_bd (by decide) (by rw [aw_sz]; decide) (by rw [aw_inls]; decide) aw_pl (by rw [aw_used]; decide) (by rw [aw_text]; decide))
  have HB7 := Lib.hid (below_trans_size HB6.out (awW_below w6))
  clear HPT6 HB6
  go_wp2_with fail
  refine A7.out.mono ?_
  clear A7
  rintro e w8 ⟨vm, vb, rfl, hm, hb, hb8⟩
  rw [aw_named] at hb
  obtain ⟨am, nm, cm, rfl⟩ := Rd.sl_form hm
  obtain ⟨a8, cap8, hv8, hs8⟩ := Rd.sl_open hb
  obtain rfl : vb = .slice a8 2 cap8 := by simpa using hv8
  obtain ⟨g8, off8, vc, vp, vl, vk, rfl, -, hg8, hc0, -⟩ := blks_at hs8 (k := 0) rfl
  obtain ⟨g9, off9, vc1, vp1, vl1, vk1, he, -, -, hc1, -⟩ := blks_at hs8 (k := 1) rfl
  cases he
  have hcap8 := hs8.le
  simp at hcap8
  have q0 := hc0.c6
  have q1 := hc1.c6
  simp only [noAt, Nat.zero_mul, Nat.one_mul, Nat.add_zero] at q0 q1
  have HB8 := Lib.hid (below_trans_size HB7.out hb8)
  clear hm hb hb8 hv8 hs8 hc0 hc1 HB7
  go_wp2
  go_ret
  have hle := HB8.out.size
  exact ⟨rfl, HB8.out.alloc hle _⟩
end Go.Proofs.YtjobjicdfoklpaaGreatDoor
