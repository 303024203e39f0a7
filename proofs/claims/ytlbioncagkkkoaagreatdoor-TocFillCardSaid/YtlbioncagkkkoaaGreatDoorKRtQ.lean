/- Contract of publisherref22.Numbers. Contract of publisherref24.Of. -/
import Derived.Test.YtlbioncagkkkoaaGreatDoorKPlVs
import Derived.Test.YtlbioncagkkkoaaGreatDoorKRtU
import Derived.Test.YtlbioncagkkkoaaGreatDoorKCtR
import Derived.Test.YtlbioncagkkkoaaGreatDoorKRtE
import Derived.Test.YtlbioncagkkkoaaGreatDoorKRtO
import Derived.Test.YtlbioncagkkkoaaGreatDoorKEnW
import Derived.Test.YtlbioncagkkkoaaGreatDoorKRtT
import Derived.Test.YtlbioncagkkkoaaGreatDoorKRowU
import Derived.Deep.RegionHeld3
namespace Go.Proofs.YtlbioncagkkkoaaGreatDoor
open Go.RowKit
set_option linter.unusedVariables false
set_option linter.unusedSimpArgs false

theorem one_fourP {id kd val : ByteArray} {a : Option Addr} {n c : Nat} : ∀ u ∈ ([.string id, .string kd, .string val, .slice a n c] : List Value), u.oneCell' = true := by
  intro u hu
  simp at hu
  rcases hu with rfl | rfl | rfl | rfl <;> rfl
/-- In the loop over the notes: the box S of the counts, the row of the numbers, the names. -/
structure NuP (T : TypeId) (S B : Nat) (w : World) (c0 c1 c2 c3 c4 c5 f t e : Nat) (ns : List Nm) (names : List ByteArray) (vn : Value) (Bn : Nat) (v : Value) (rows : List (List Value)) (wr : World) : Prop where
  x : CB T S (ndC c0 c1 c2 c3 c4 c5 f t e v) wr
  row : Row 49 4 B w (ns.map Nm.d) rows v wr
  nm : wr.ownsRow Bn 9 1 vn names.length (names.map Value.string)
  n1 : v.ownBlock ≠ some S
  n2 : vn.ownBlock = none ∨ vn.ownBlock ≠ v.ownBlock
  n3 : vn.ownBlock ≠ some S
theorem NuP.put {T : TypeId} {S B : Nat} {w : World} {c0 c1 c2 c3 c4 c5 f t e : Nat} {ns : List Nm} {names : List ByteArray} {vn : Value} {Bn : Nat} {v : Value} {rows : List (List Value)} {wx : World} (h : NuP T S B w c0 c1 c2 c3 c4 c5 f t e ns names vn Bn v rows wx) (hBw : B ≤ w.heap.size) (hS : w.heap.size ≤ S) {x : Nm} {v' : Value} {w7 : World} {o : Obj} {rows' : List (List Value)}
    (hrow : Row 49 4 B w (ns.map Nm.d ++ [x.d]) rows' v' w7) (hg : (wx.alloc o).grownBy w7 v.ownBlock) (hat : v'.ownBlock = v.ownBlock ∨ v'.ownBlock = some (wx.heap.size + 1)) :
    NuP T S B w c0 c1 c2 c3 c4 c5 f t e (ns ++ [x]) names vn Bn v' rows' (w7.setCell ⟨S, 11, none⟩ v') := by
  have hl := h.x.lt
  have hn1 : v'.ownBlock ≠ some S := by
    rcases hat with e | e
    · rw [e]; exact h.n1
    · rw [e]; intro e2; have := Option.some.inj e2; omega
  refine ⟨cb_set (cb_grown (cb_grown h.x (World.grownBy_alloc wx o none) (by simp)) hg (fun e => h.n1 e.symm)) 11 v', ?_, ((h.nm.alloc o).kept hg h.n2).kept (grown_setc _ _ _ _) (.inr h.n3), hn1, ?_, h.n3⟩
  · rw [List.map_append, List.map_singleton]
    exact hrow.hop (grown_setc _ _ _ _) hn1 (Nat.le_trans hBw hS) hS
  · rcases hat with e | e
    · rw [e]; exact h.n2
    · refine .inr (fun e2 => ?_)
      rw [e] at e2
      have := (h.nm.lt _ e2).2
      omega
theorem NuP.drew {T : TypeId} {S B : Nat} {w : World} {c0 c1 c2 c3 c4 c5 f t e : Nat} {ns : List Nm} {names : List ByteArray} {vn : Value} {Bn : Nat} {v : Value} {rows : List (List Value)} {wx : World} (h : NuP T S B w c0 c1 c2 c3 c4 c5 f t e ns names vn Bn v rows wx) : NuP T S B w c0 c1 c2 c3 c4 c5 f t e ns names vn Bn v rows wx.drew := by
  have hg : wx.grownBy wx.drew none := ⟨rfl, rfl, rfl, Nat.le_refl _, fun _ _ _ => rfl⟩
  exact ⟨cb_grown h.x hg (by simp), h.row.grown hg, h.nm.kept hg (by cases vn.ownBlock <;> simp), h.n1, h.n2, h.n3⟩
theorem ns0_b : NsB ns0 0 0 := ⟨fun i => by
    show (List.replicate 6 0).getD i 0 ≤ 0
    rw [List.getD_eq_getElem?_getD, List.getElem?_replicate]
    split <;> simp, Nat.le_refl _, Nat.le_refl _, Nat.le_refl _, Nat.le_refl _, Nat.le_refl _⟩

set_option maxRecDepth 100000 in
set_option maxHeartbeats 16000000 in
theorem rNumbers_any (l : List Blk) (vm vb : Value) (B : Nat) (w : World) (hm : ∃ a n c, vm = .slice a n c) (hb : Rd (· < B) w (blksD l) [vb]) (hBw : B ≤ w.heap.size) (hsz : Blk.szL l ≤ 800000) (hil : (Blk.inlsL l).length ≤ 800000) :
    Calls Tryz.prog 29 #[.agg #[vm, vb]] w fun e w' => ∃ v' rows, e = .returned v' ∧ Row 49 4 B w ((numsL l).map Nm.d) rows v' w' := by
  obtain ⟨am, nm, cm, rfl⟩ := hm
  obtain ⟨ab, nb, cb, rfl⟩ := Rd.slf hb
  obtain ⟨iN, hiN, hzN0, hzN1, hzN2⟩ := info_parts infoNu
  obtain ⟨w0, hw0⟩ : ∃ w0, w0 = w.alloc (.cells #[.slice am nm cm, .slice ab nb cb] 25) := ⟨_, rfl⟩
  have b0 : Below w.heap.size w w0 := by rw [hw0]; exact (Below.refl _ _).alloc (Nat.le_refl _) _
  have k0 : CB 25 w.heap.size [.slice am nm cm, .slice ab nb cb] w0 := by rw [hw0]; exact CB.new _ _ _
  have NUM : Calls Tryz.prog 65 #[.slice ab nb cb, .bool true, .agg #[.int .i64 0, .int .i64 0, .int .i64 0, .int .i64 0, .int .i64 0, .int .i64 0, .int .i64 0, .int .i64 0, .int .i64 0, .int .i64 0, .int .i64 0, .slice none 0 0]] w0 (NdPost B w (Blk.numL true ns0 l) (.slice none 0 0) w0) :=
    numbered_any (Blk.szL l) l true ns0 0 B (.slice ab nb cb) (.slice none 0 0) [] w w0 0 0 0 0 0 0 (Nat.le_refl _) (hb.below (b0.mono hBw)) hBw rfl ns0_b (by omega) ((Row.nil _ _ _ _).up hBw b0)
  have NB := Blk.numL_nsb l true ns0 0 ns0_b
  have NUM := Lib.hid NUM
  obtain ⟨sn, hsn⟩ : ∃ sn, sn = Blk.numL true ns0 l := ⟨_, rfl⟩
  rw [← hsn] at NUM NB
  have hol : sn.out.length ≤ 800000 := Nat.le_trans NB.o (by omega)
  have hnl := notesL_len l
  have HSN := Lib.hid hsn
  have HB := Lib.hid hb
  have HK0 := Lib.hid k0
  have HB0 := Lib.hid b0
  have x1 := k0.cell 1 _ rfl
  clear hb k0 b0 hsn NB
  go_enter Tryz.func29, Tryz.ntmps29
  go_upto_region 1 with (fail)
  rw [← hw0]
  clear hw0
  go_wp2_with fail
  (with_reducible refine NUM.out.mono ?_)
  rintro e w1 ⟨c0, c1, c2, c3, c4, c5, v1, rows1, hc, rfl, hrow1, hg1, hat1⟩
  obtain ⟨nv, hnv⟩ : ∃ nv, nv = (sn.out.map Nm.d).length := ⟨_, rfl⟩
  obtain ⟨a1, k1, rfl⟩ := own_slice hrow1.own
  rw [← hnv] at hrow1
  rw [← hnv]
  clear hnv
  obtain ⟨w2, hw2⟩ : ∃ w2, w2 = w1.alloc (.cells #[.int .i64 0, .int .i64 (c0 : Int), .int .i64 (c1 : Int), .int .i64 (c2 : Int), .int .i64 (c3 : Int), .int .i64 (c4 : Int), .int .i64 (c5 : Int), .int .i64 0, .int .i64 (sn.f : Int), .int .i64 (sn.t : Int), .int .i64 (sn.e : Int), .slice a1 nv k1] 103) := ⟨_, rfl⟩
  obtain ⟨S, hS⟩ : ∃ S, S = w1.heap.size := ⟨_, rfl⟩
  have HSZ := Lib.hid hS
  have gA : w1.grownBy w2 none := by rw [hw2]; exact World.grownBy_alloc _ _ none
  have X2 : CB 103 S (ndC c0 c1 c2 c3 c4 c5 sn.f sn.t sn.e (.slice a1 nv k1)) w2 := by rw [hw2, hS]; exact CB.new _ _ _
  have row2 := hrow1.grown gA
  have hn1 : (Value.slice a1 nv k1).ownBlock ≠ some S := fun e => by have := (hrow1.own.lt _ e).2; omega
  have hSw : w.heap.size ≤ S := by have := hrow1.bel.size; omega
  have hd0 := HK0.out.lt
  have K2 : CB 25 w.heap.size [.slice am nm cm, .slice ab nb cb] w2 := cb_grown (cb_grown HK0.out hg1 (by simp [Value.ownBlock])) gA (by simp)
  have NT := Lib.hid (rNotes_any l (.slice am nm cm) (.slice ab nb cb) w2 ⟨_, _, _, rfl⟩ ((HB.out.weaken (fun b hb => Nat.lt_of_lt_of_le hb hBw)).up row2.bel) hsz hil)
  have d0 := K2.cell 0 _ rfl
  have d1 := K2.cell 1 _ rfl
  have HX2 := Lib.hid X2
  have HROW2 := Lib.hid row2
  have HSw := Lib.hid hSw
  have HV1 : Hid (∀ g, (Value.slice a1 nv k1).ownBlock = some g → g < w2.heap.size) := fun g e => (row2.own.lt g e).2
  have HW2 := Lib.hid hw2
  clear NUM x1 hrow1 hg1 hat1 hw2 gA X2 row2 K2 HK0 HB0 hS hc
  go_upto_region 2 with (fail)
  rw [← HW2.out, ← HSZ.out]
  clear HW2 HSZ
  go_wp2_with fail
  (with_reducible refine NT.out.mono ?_)
  rintro e w3 ⟨vn, Bn, rfl, hBn, hown, b3⟩
  obtain ⟨names, hnames⟩ : ∃ names, names = notesL l := ⟨_, rfl⟩
  rw [← hnames] at hown hnl
  obtain ⟨nn, hnn⟩ : ∃ nn, nn = names.length := ⟨_, rfl⟩
  obtain ⟨an, cn, rfl⟩ := own_slice hown
  have X3 := HX2.out.below b3
  have P0 : NuP 103 S B w c0 c1 c2 c3 c4 c5 sn.f sn.t sn.e (sn.out ++ noteNs 0 (names.take 0)) names (.slice an names.length cn) Bn (.slice a1 nv k1) rows1 w3 := by
    have hs2 := HX2.out.lt
    refine ⟨X3, ?_, hown, hn1, ?_, fun e => by have := (hown.lt _ e).1; omega⟩
    · rw [List.take_zero, noteNs, List.append_nil]; exact HROW2.out.grown (grown_below b3)
    · cases q : (Value.slice an names.length cn).ownBlock with
      | none => exact .inl rfl
      | some g => exact .inr (fun e => by have := HV1.out g e.symm; have := (hown.lt g q).1; omega)
  rw [← hnn] at P0
  rw [← hnn]
  have R0 : Hid (∃ (j : Nat) (v : Value) (rows : List (List Value)), j ≤ nn ∧ (.int .i64 0 : Value) = .int .i64 (j : Int) ∧ NuP 103 S B w c0 c1 c2 c3 c4 c5 sn.f sn.t sn.e (sn.out ++ noteNs 0 (names.take j)) names (.slice an nn cn) Bn v rows w3) := ⟨0, _, _, Nat.zero_le _, rfl, P0⟩
  have HNN := Lib.hid hnn
  have HNM := Lib.hid hnames
  have hnn8 : nn ≤ 800000 := by omega
  clear P0 X3 hown b3 NT d0 d1 hnn hnames HV1 HROW2 HX2 HB
  go_wp2
  go_loopw [5] (fun vi wr => ∃ (j : Nat) (v : Value) (rows : List (List Value)), j ≤ nn ∧ vi = .int .i64 (j : Int) ∧ NuP 103 S B w c0 c1 c2 c3 c4 c5 sn.f sn.t sn.e (sn.out ++ noteNs 0 (names.take j)) names (.slice an nn cn) Bn v rows wr) (fun i _ => nn - (intOf i).toNat)
  case atStart => exact R0.out
  case round =>
    clear R0
    obtain ⟨j, v, rows, hj, rfl, hP⟩ := hrel
    obtain ⟨av, cv, rfl⟩ := own_slice hP.row.own
    obtain ⟨no, hno⟩ : ∃ no, no = ((sn.out ++ noteNs 0 (names.take j)).map Nm.d).length := ⟨_, rfl⟩
    rw [← hno] at hP
    by_cases hlt : j < nn
    · obtain ⟨x, hx⟩ : ∃ x, names[j]? = some x := ⟨_, List.getElem?_eq_getElem (by rw [← HNN.out]; exact hlt)⟩
      have hsnoc := noteNs_snoc names 0 j x hx
      have hnoB : no ≤ 1700000 := by
        rw [hno, List.length_map, List.length_append, noteNs_len]
        have := List.length_take_le j names
        omega
      have hnm := hP.nm
      rw [← HNN.out] at hnm
      obtain ⟨gn, capn, hvn, -⟩ := own_form hnm (by omega)
      obtain ⟨rfl, rfl⟩ : an = some ⟨gn, 0, none⟩ ∧ cn = capn := by injection hvn with h1 _ h3; exact ⟨h1, h3⟩
      have HNX : Hid (∀ wz : World, wz.ownsRow Bn 9 1 (.slice (some ⟨gn, 0, none⟩) nn cn) names.length (names.map Value.string) → wz.cell? ⟨gn, j, none⟩ = some (.string x)) := by
        intro wz hz
        rw [← HNN.out] at hz
        have h := hz.cellAt j (by omega)
        rw [List.getElem?_map, hx] at h
        exact h
      obtain ⟨J1, hJ1⟩ : ∃ J1, J1 = j + 1 := ⟨_, rfl⟩
      have hwr : IntKind.i64.wrap ((j : Int) + 1) = (J1 : Int) := by rw [IntWalk.i64_in _ (by omega), hJ1]; rfl
      have NUC := Lib.hid (r22num_any J1 wr.drew (by omega))
      have HSNOC : Hid (noteNs 0 (names.take (j + 1)) = noteNs 0 (names.take j) ++ [⟨x, notS, decS J1, []⟩]) := by show _ = _; rw [hsnoc, hJ1, Nat.zero_add]
      have HNO := Lib.hid hno.symm
      have hPd : NuP 103 S B w c0 c1 c2 c3 c4 c5 sn.f sn.t sn.e (sn.out ++ noteNs 0 (names.take j)) names (.slice (some ⟨gn, 0, none⟩) nn cn) Bn (.slice av no cv) rows wr.drew := hP.drew
      have HPD := Lib.hid hPd
      have SD : wr.drew.cell? ⟨S, 11, none⟩ = some (.slice av no cv) ∧ wr.drew.cell? ⟨gn, j, none⟩ = some (.string x) := ⟨hPd.x.cell 11 _ rfl, HNX.out _ hPd.nm⟩
      have SF : (wr.drew.alloc (.cells #[.string x, .string ⟨#[110, 111, 116, 101]⟩, .string (decS J1), .slice none 0 0] 49)).cell? ⟨S, 11, none⟩ = some (.slice av no cv) ∧ (wr.drew.alloc (.cells #[.string x, .string ⟨#[110, 111, 116, 101]⟩, .string (decS J1), .slice none 0 0] 49)).cell? ⟨gn, j, none⟩ = some (.string x) := ⟨(cb_grown hPd.x (World.grownBy_alloc _ _ none) (by simp)).cell 11 _ rfl, HNX.out _ (hPd.nm.alloc _)⟩
      have hj0 : (0 : Int) ≤ (j : Int) := by omega
      have hj1 : (j : Int) < (nn : Int) := by omega
      have HJ1 := Lib.hid hJ1
      clear hx hsnoc hno hnm hvn hP hPd hJ1
      go_upto_region 6 with (fail)
      refine wp_region_x 13 (fun w' => w'.cell? ⟨S, 11, none⟩ = some (.slice av no cv) ∧ w'.cell? ⟨gn, j, none⟩ = some (.string x)) (by kernel_rfl) SD ?_
      intro hH
      refine wpAnyX_takeL (i := 0) (v := ?_) rfl (by kernel_rfl) (by kernel_rfl) (by kernel_rfl) (by kernel_rfl) (fun _ _ _ h => h) hH (Or.inl ⟨by rfl, ?_⟩) ?_
      rotate_left
      · (intro wv hSw; (try dsimp only at hSw); go_simp; try with_reducible rfl)
      try simp only [Act.put, List.setIfInBounds_toArray, List.set_cons_zero, List.set_cons_succ]
      refine wpAnyX_takeL (i := 1) (v := ?_) rfl (by kernel_rfl) (by kernel_rfl) (by kernel_rfl) (by kernel_rfl) (fun _ _ _ h => h) hH (Or.inl ⟨by rfl, ?_⟩) ?_
      rotate_left
      · (intro wv hSw; (try dsimp only at hSw); go_simp; try with_reducible rfl)
      try simp only [Act.put, List.setIfInBounds_toArray, List.set_cons_zero, List.set_cons_succ]
      refine wpAnyX_takeL (i := 2) (v := ?_) rfl (by kernel_rfl) (by kernel_rfl) (by kernel_rfl) (by kernel_rfl) (fun _ _ _ h => h) hH (Or.inl ⟨by rfl, ?_⟩) ?_
      rotate_left
      · (intro wv hSw; (try dsimp only at hSw); go_simp; try with_reducible rfl)
      try simp only [Act.put, List.setIfInBounds_toArray, List.set_cons_zero, List.set_cons_succ]
      refine wpAnyX_takeL (i := 3) (v := ?_) rfl (by kernel_rfl) (by kernel_rfl) (by kernel_rfl) (by kernel_rfl) (fun _ _ _ h => h) hH (Or.inl ⟨by rfl, ?_⟩) ?_
      rotate_left
      · (intro wv hSw; (try dsimp only at hSw); go_simp; try with_reducible rfl)
      try simp only [Act.put, List.setIfInBounds_toArray, List.set_cons_zero, List.set_cons_succ]
      refine wpAnyX_takeL (i := 4) (v := ?_) rfl (by kernel_rfl) (by kernel_rfl) (by kernel_rfl) (by kernel_rfl) (fun _ _ _ h => h) hH (Or.inl ⟨by rfl, ?_⟩) ?_
      rotate_left
      · (intro wv hSw; (try dsimp only at hSw); go_simp; try with_reducible rfl)
      try simp only [Act.put, List.setIfInBounds_toArray, List.set_cons_zero, List.set_cons_succ]
      refine wpAnyX_takeL (i := 5) (v := ?_) rfl (by kernel_rfl) (by kernel_rfl) (by kernel_rfl) (by kernel_rfl) (fun _ _ _ h => h) hH (Or.inl ⟨by rfl, ?_⟩) ?_
      rotate_left
      · (intro wv hSw; (try dsimp only at hSw); go_simp; try with_reducible rfl)
      try simp only [Act.put, List.setIfInBounds_toArray, List.set_cons_zero, List.set_cons_succ]
      refine wpAnyX_takeL (i := 6) (v := ?_) rfl (by kernel_rfl) (by kernel_rfl) (by kernel_rfl) (by kernel_rfl) (fun _ _ _ h => h) hH (Or.inl ⟨by rfl, ?_⟩) ?_
      rotate_left
      · (intro wv hSw; (try dsimp only at hSw); go_simp; try with_reducible rfl)
      try simp only [Act.put, List.setIfInBounds_toArray, List.set_cons_zero, List.set_cons_succ]
      refine wpAnyX_takeL (i := 7) (v := ?_) rfl (by kernel_rfl) (by kernel_rfl) (by kernel_rfl) (by kernel_rfl) (fun _ _ _ h => h) hH (Or.inl ⟨by rfl, ?_⟩) ?_
      rotate_left
      · (intro wv hSw; (try dsimp only at hSw); go_simp; try with_reducible rfl)
      try simp only [Act.put, List.setIfInBounds_toArray, List.set_cons_zero, List.set_cons_succ]
      refine wpAnyX_oneL (i := 8) rfl (by kernel_rfl) (fun KQ hK => ?_)
      go_simp
      go_at_call 67
      (with_reducible refine NUC.out.mono ?_)
      rintro e w5 ⟨rfl, rfl⟩
      go_wp2_with fail
      refine hK.out _ _ (fun _ => SD) (fun hH2 => ?_)
      clear hK KQ hH
      have hH := hH2 (by decide)
      clear hH2
      try simp only [Act.put, List.setIfInBounds_toArray, List.set_cons_zero, List.set_cons_succ]
      refine wpAnyX_takeL (i := 9) (v := ?_) rfl (by kernel_rfl) (by kernel_rfl) (by kernel_rfl) (by kernel_rfl) (fun _ _ _ h => h) hH (Or.inl ⟨by rfl, ?_⟩) ?_
      rotate_left
      · (intro wv hSw; (try dsimp only at hSw); go_simp; try with_reducible rfl)
      try simp only [Act.put, List.setIfInBounds_toArray, List.set_cons_zero, List.set_cons_succ]
      refine wpAnyX_oneL (i := 10) rfl (by kernel_rfl) (fun KQ hK => ?_)
      go_simp
      refine hK.out _ _ (fun _ => SF) (fun hH2 => ?_)
      clear hK KQ hH
      have hH := hH2 (by decide)
      clear hH2
      try simp only [Act.put, List.setIfInBounds_toArray, List.set_cons_zero, List.set_cons_succ]
      refine wpAnyX_oneL (i := 11) rfl (by kernel_rfl) (fun KQ hK => ?_)
      refine step_rput rfl (.tmp 19) (.tmp 28) 36 rfl iN _ 72 Tryz.underlying36 hiN hzN0 hzN1 hzN2 rfl (by decide) HPD.out.row hBw (Nm.mk x notS (decS J1) []).d [.string x, .string ⟨#[110, 111, 116, 101]⟩, .string (decS J1), .slice none 0 0] (Nm.mk_ ⟨x, notS, decS J1, []⟩ (Rd.nil_mk _ _ _)) rfl one_fourP HNO.out (by omega) (by decide) rfl rfl ?_
      intro a7 c7 w7 hrow7 hg7 hat7
      have P8 := HPD.out.put hBw HSw.out (x := ⟨x, notS, decS J1, []⟩) hrow7 hg7 hat7
      have X7 : CB 103 S (ndC c0 c1 c2 c3 c4 c5 sn.f sn.t sn.e (.slice av no cv)) w7 := cb_grown (cb_grown HPD.out.x (World.grownBy_alloc _ (.cells #[.string x, .string ⟨#[110, 111, 116, 101]⟩, .string (decS J1), .slice none 0 0] 49) none) (by simp)) hg7 (fun e => HPD.out.n1 e.symm)
      have l7 := X7.lt
      have l11 := X7.cell 11 _ rfl
      have lf := cb_free X7
      have SG : w7.cell? ⟨S, 11, none⟩ = some (.slice av no cv) ∧ w7.cell? ⟨gn, j, none⟩ = some (.string x) := ⟨l11, HNX.out w7 ((HPD.out.nm.alloc _).kept hg7 HPD.out.n2)⟩
      have HP8 := Lib.hid P8
      clear hrow7 hg7 hat7 X7 P8
      refine hK.out _ _ (fun _ => SG) (fun hH2 => ?_)
      clear hK KQ hH
      have hH := hH2 (by decide)
      clear hH2
      try simp only [Act.put, List.setIfInBounds_toArray, List.set_cons_zero, List.set_cons_succ]
      refine wpAnyX_takeL (i := 12) (v := ?_) rfl (by kernel_rfl) (by kernel_rfl) (by kernel_rfl) (by kernel_rfl) (fun _ _ _ h => h) hH (Or.inl ⟨by rfl, ?_⟩) ?_
      rotate_left
      · (intro wv hSw; (try dsimp only at hSw); go_simp; try with_reducible rfl)
      try simp only [Act.put, List.setIfInBounds_toArray, List.set_cons_zero, List.set_cons_succ]
      refine wpAnyX_oneL (i := 13) rfl (by kernel_rfl) (fun KQ hK => ?_)
      go_simp
      refine hK.out _ _ (fun h => absurd rfl h) (fun _ => ?_)
      clear hK KQ
      refine wpAnyX_done (by kernel_rfl) ?_ _
      clear SD SF SG hH
      go_wp2
      go_roundw
      case rel =>
        have e : noteNs 0 (names.take J1) = noteNs 0 (names.take j) ++ [⟨x, notS, decS J1, []⟩] := by
          conv => lhs; rw [HJ1.out]
          exact HSNOC.out
        have h := HP8.out
        rw [List.append_assoc, ← e] at h
        exact ⟨J1, _, _, by have := HJ1.out; omega, rfl, h⟩
      case measure => have := HJ1.out; simp [intOf]; omega
    · have hjl : j = nn := by omega
      have HP : Hid (∃ (v' : Value) (rows' : List (List Value)), Value.slice av no cv = v' ∧ Row 49 4 B w ((numsL l).map Nm.d) rows' v' wr) := by
        refine ⟨_, rows, rfl, ?_⟩
        have h := hP.row
        rw [hjl, HNN.out, List.take_length, HNM.out, HSN.out] at h
        unfold numsL
        exact h
      have x11 := hP.x.cell 11 _ rfl
      clear hP hno HNM HSN HNN
      go_wp2
      go_ret
      obtain ⟨v', rows', rfl, h1⟩ := HP.out
      exact ⟨_, rows', rfl, h1⟩
end Go.Proofs.YtlbioncagkkkoaaGreatDoor

namespace Go.Proofs.YtlbioncagkkkoaaGreatDoor
open Go.RowKit
set_option linter.unusedVariables false
set_option linter.unusedSimpArgs false

/-- What the reference's entry of a line asks. -/
structure RLnOk (li : List Inl) : Prop where
  sz : Inl.szL li ≤ 1000000
  mz : Inl.mzL li ≤ 100000
def ROfPost (B : Nat) (w : World) (l : List En) (e : Ending) (w' : World) : Prop := ∃ v, e = .returned v ∧ Rd (fun b => b < B ∨ w.heap.size ≤ b) w' (ensD l) [v] ∧ Below w.heap.size w w'
/-- At the head of the loop of publisherref24.Of. -/
def ROfRel (B : Nat) (w1 : World) (N : List Nm) (dep : Int) (v vi : Value) (wr : World) : Prop :=
  ∃ (k : Nat) (rows : List (List Value)), k ≤ N.length ∧ vi = .int .i64 k ∧ RowU 42 5 (· < B) wr.heap.size w1 ((tocL (N.take k) dep).map En.d) rows v wr
theorem tocL_lenR (l : List Nm) (dep : Int) : (tocL l dep).length ≤ l.length := by unfold tocL; rw [List.length_map]; exact List.length_filter_le _ _

set_option maxRecDepth 100000 in
set_option maxHeartbeats 8000000 in
theorem rOf_any (l : List Blk) (vm vb : Value) (dep : Int) (B : Nat) (w : World) (hm : ∃ a n c, vm = .slice a n c) (hb : Rd (· < B) w (blksD l) [vb]) (hBw : B ≤ w.heap.size) (hsz : Blk.szL l ≤ 800000) (hil : (Blk.inlsL l).length ≤ 800000) (hln : ∀ b ∈ Blk.eachL l, RLnOk b.lineOf) :
    Calls Tryz.prog 11 #[.agg #[vm, vb], .int .i64 dep] w (ROfPost B w (tocL (numsL l) dep)) := by
  obtain ⟨iE, hiE, hzE0, hzE1, hzE2⟩ := info_parts infoEn
  obtain ⟨am, nm, cm, rfl⟩ := hm
  obtain ⟨ab, nb, cb, rfl⟩ := Rd.slf hb
  obtain ⟨w0, hw0⟩ : ∃ w0, w0 = w.alloc (.cells #[.slice am nm cm, .slice ab nb cb] 25) := ⟨_, rfl⟩
  have b0 : Below w.heap.size w w0 := by rw [hw0]; exact (Below.refl _ _).alloc (Nat.le_refl _) _
  have k0 : CB 25 w.heap.size [.slice am nm cm, .slice ab nb cb] w0 := by rw [hw0]; exact CB.new _ _ _
  have x0 := k0.cell 0 _ rfl
  have x1 := k0.cell 1 _ rfl
  have NU := Lib.hid (rNumbers_any l (.slice am nm cm) (.slice ab nb cb) B w0 ⟨_, _, _, rfl⟩ (hb.below (b0.mono hBw)) (Nat.le_trans hBw b0.size) hsz hil)
  have B0 := Lib.hid b0
  have HVS : Hid (∀ x ∈ numsL l, VsOk 100000000 x) := fun x hx => Nat.le_trans (nums_vs l ns0_b x hx) (by omega)
  have HLN : Hid (∀ x ∈ numsL l, NmOk RLnOk x) := nums_ok RLnOk ⟨by simp [Inl.szL], by simp [Inl.mzL]⟩ l hln
  have hNl : (numsL l).length ≤ 1600000 := by
    have h1 := nums_len l
    omega
  clear hb hln k0
  go_enter Tryz.func11, Tryz.ntmps11
  go_upto_region 1 with (fail)
  rw [← hw0]
  clear hw0
  go_wp2_with fail
  (with_reducible refine NU.out.mono ?_)
  rintro e w1 ⟨v1, rows1, rfl, hrow1⟩
  obtain ⟨N, hNe⟩ : ∃ N, N = numsL l := ⟨_, rfl⟩
  have HNE := Lib.hid hNe
  rw [← hNe] at hrow1 hNl HLN HVS
  rw [← hNe]
  obtain ⟨nN, hnN⟩ : ∃ nN, nN = N.length := ⟨_, rfl⟩
  obtain ⟨a1, cap1, hv1⟩ := own_slice hrow1.own
  rw [List.length_map, ← hnN] at hv1
  subst hv1
  have hcp1 := own_cap' hrow1.own
  rw [List.length_map, ← hnN] at hcp1
  obtain ⟨hcap, hmx⟩ := hcp1
  unfold maxLen at hmx
  have HR1 := Lib.hid hrow1
  have hw01 := hrow1.bel.size
  have hb0s := b0.size
  have hBw1 : B ≤ w1.heap.size := by omega
  have HNN := Lib.hid hnN
  rw [← hnN] at hNl
  have HB1 := Lib.hid (below_trans_size B0.out hrow1.bel)
  have R0 := Lib.hid (show ROfRel B w1 N dep (.slice none 0 0) (.int .i64 0) w1 from ⟨0, [], Nat.zero_le _, rfl, RowU.nil _ _ _ _⟩)
  clear NU hrow1 hNe x0 x1 B0 hnN hw01 hb0s
  go_wp2
  go_loopw [5, 11] (fun v vi wr => ROfRel B w1 N dep v vi wr) (fun _ i _ => nN - (intOf i).toNat)
  case atStart => exact R0.out
  case round =>
    clear R0
    obtain ⟨k, rows, hk, rfl, hrow⟩ := hrel
    rw [← HNN.out] at hk
    obtain ⟨ds, hds⟩ : ∃ ds, ds = (tocL (N.take k) dep).map En.d := ⟨_, rfl⟩
    rw [← hds] at hrow
    obtain ⟨m, hm⟩ : ∃ m, m = ds.length := ⟨_, rfl⟩
    have hmk : m ≤ k := by
      have := tocL_lenR (N.take k) dep
      rw [List.length_take] at this
      rw [hm, hds, List.length_map]; omega
    have HDN := Lib.hid hm.symm
    have HDS := Lib.hid hds
    obtain ⟨av, cv, rfl, -, -⟩ := hrow.cap hm.symm
    have HROW := Lib.hid hrow
    have hbel := hrow.bel
    clear hrow hm hds
    by_cases hlt : k < nN
    · obtain ⟨x, hx⟩ : ∃ x, N[k]? = some x := ⟨_, List.getElem?_eq_getElem (by rw [← HNN.out]; exact hlt)⟩
      have hk1N : k + 1 ≤ N.length := by have := HNN.out; omega
      have hok := HLN.out x (List.mem_of_getElem? hx)
      have hvs : x.val.size ≤ 100000000 := HVS.out x (List.mem_of_getElem? hx)
      have hsn := tocL_snoc N dep k x hx
      obtain ⟨r, hr, hd⟩ := HR1.out.red.get k _ (by rw [List.getElem?_map, hx]; rfl)
      obtain ⟨vl, rfl, hRl⟩ := Nm.open_ hd
      have hown := own_below HR1.out.own hbel
      rw [List.length_map, ← HNN.out] at hown
      obtain ⟨g, capg, hvg, -⟩ := own_form hown (by omega)
      obtain ⟨rfl, rfl⟩ : a1 = some ⟨g, 0, none⟩ ∧ cap1 = capg := by injection hvg with h1 _ h3; exact ⟨h1, h3⟩
      have hfl : ∀ (j : Nat) (u : Value), [Value.string x.id, .string x.kind, .string x.val, vl][j]? = some u → j < 4 → wr.cell? ⟨g, k * 4 + j, none⟩ = some u := by
        intro j u hu hj
        have h1 := flat_get 4 rows1 HR1.out.len k j _ _ hr hu
        have h2 := hown.cellAt (k * 4 + j) (by omega)
        rw [h1] at h2
        exact h2
      have c0 : wr.cell? ⟨g, k * 4, none⟩ = some (.string x.id) := hfl 0 _ rfl (by omega)
      have c1 : wr.cell? ⟨g, k * 4 + 1, none⟩ = some (.string x.kind) := hfl 1 _ rfl (by omega)
      have c2 : wr.cell? ⟨g, k * 4 + 2, none⟩ = some (.string x.val) := hfl 2 _ rfl (by omega)
      have c3 : wr.cell? ⟨g, k * 4 + 3, none⟩ = some vl := hfl 3 _ rfl (by omega)
      obtain ⟨al, nl, cl, rfl⟩ := Rd.sl_form hRl
      have hent : entOf x = ⟨levB x.val, x.id, x.val, entL x.line, []⟩ := rfl
      have hshx : shownB dep x = (decide (x.kind = secS) && !emptyS x.id && decide ((levB x.val : Int) ≤ dep)) := rfl
      obtain ⟨id, kd, val, line⟩ := x
      dsimp only at c0 c1 c2 c3 hRl hok hent hshx hvs
      obtain ⟨hlev, hln⟩ : levB val ≤ 6 ∧ RLnOk line := hok
      obtain ⟨p, hp⟩ : ∃ p, p = wr.heap.size := ⟨_, rfl⟩
      obtain ⟨wA, hwA⟩ : ∃ wA, wA = wr.alloc (.cells #[.string id, .string kd, .string val, .slice al nl cl] 49) := ⟨_, rfl⟩
      have PA : CB 49 p [.string id, .string kd, .string val, .slice al nl cl] wA := by rw [hwA, hp]; exact CB.new _ _ _
      have UA := Lib.hid (show RowU 42 5 (· < B) p w1 ds rows (.slice av m cv) wA by rw [hwA, hp]; exact HROW.out.alloc _)
      have hpw : w1.heap.size ≤ p := by rw [hp]; exact hbel.size
      have RL := Lib.hid (show Rd (· < B) wA (inlsD line) [.slice al nl cl] by
        refine Rd.keep (fun b hb hlt => ⟨hb, by rw [hwA]; exact (Below.heap_alloc _ _ b (Nat.lt_of_lt_of_le hlt hbel.size)).trans (hbel.block b hlt)⟩) _ _ hRl)
      have HPA := Lib.hid PA
      have HLNK := Lib.hid hln
      have HSN := Lib.hid (show (tocL (N.take (k + 1)) dep).map En.d = ds ++ (if shownB dep ⟨id, kd, val, line⟩ = true then [entOf ⟨id, kd, val, line⟩] else []).map En.d by rw [hsn, List.map_append, HDS.out])
      have HENT := Lib.hid hent
      have LV := Lib.hid (fun (wz : World) => rLevel_any val wz hvs)
      have q1 : (kd.toList == [115, 101, 99, 116, 105, 111, 110]) = decide (kd = secS) := lit_eq kd _
      have q2 : id.toList.isEmpty = emptyS id := by rw [Lib.toList_data, Bool.eq_iff_iff, List.isEmpty_iff, emptyS, decide_eq_true_iff]
      clear hRl hx hbel hr hd hown hvg hfl hsn hln hent HDS hvs
      go_upto_region 5 with (fail)
      rw [← hwA, ← hp]
      have e0 := PA.cell 0 _ rfl
      have e1 := PA.cell 1 _ rfl
      have e2 := PA.cell 2 _ rfl
      have e3 := PA.cell 3 _ rfl
      have zA : wA.heap.size = p + 1 := by rw [hwA, hp]; simp
      have ZA := Lib.hid zA
      clear hwA hp HROW c0 c1 c2 c3 PA zA
      generalize decide (kd = secS) = bk at *
      generalize emptyS id = be at *
      by_cases hsh : shownB dep ⟨id, kd, val, line⟩ = true
      case neg =>
        have HX : Hid ((tocL (N.take (k + 1)) dep).map En.d = ds) := by show _ = _; rw [HSN.out, if_neg hsh]; simp
        have HROW := Lib.hid UA.out.top
        rw [← HX.out] at HROW
        rw [hshx] at hsh
        clear hshx HSN HX
        cases bk with
        | false =>
          go_wp2
          go_roundw
          case rel => exact ⟨k + 1, _, hk1N, by go_num, HROW.out⟩
          case measure => simp [intOf]; omega
        | true =>
          cases be with
          | true =>
            go_wp2
            go_roundw
            case rel => exact ⟨k + 1, _, hk1N, by go_num, HROW.out⟩
            case measure => simp [intOf]; omega
          | false =>
            have q3 : decide ((levB val : Int) ≤ dep) = false := by simpa using hsh
            clear hsh
            go_wp2_with fail
            (with_reducible refine (LV.out _).mono ?_)
            rintro e w3 ⟨rfl, rfl⟩
            go_wp2
            go_roundw
            case rel => exact ⟨k + 1, _, hk1N, by go_num, HROW.out⟩
            case measure => simp [intOf]; omega
      case pos =>
        have HX : Hid ((tocL (N.take (k + 1)) dep).map En.d = ds ++ [(entOf ⟨id, kd, val, line⟩).d]) := by show _ = _; rw [HSN.out, if_pos hsh]; simp
        rw [hshx] at hsh
        have hb3 : bk = true ∧ be = false ∧ decide ((levB val : Int) ≤ dep) = true := by
          cases bk <;> cases be <;> simp_all
        obtain ⟨rfl, rfl, q3⟩ := hb3
        have EN := Lib.hid (rEntry_any 1000000 line (· < B) (.slice al nl cl) wA.drew HLNK.out.sz (Nat.le_refl _) HLNK.out.mz (Rd.keep (w := wA) (w' := wA.drew) (fun b hb _ => ⟨hb, rfl⟩) _ _ RL.out) (fun b hb => by have h9 : wA.drew.heap.size = p + 1 := ZA.out; omega))
        have UD := Lib.hid UA.out.drew
        have PD : CB 49 p [.string id, .string kd, .string val, .slice al nl cl] wA.drew := cb_drew0 HPA.out
        have HPD := Lib.hid PD
        have S0 : wA.drew.cell? ⟨p, 0, none⟩ = some (.string id) ∧ wA.drew.cell? ⟨p, 2, none⟩ = some (.string val) ∧ wA.drew.cell? ⟨p, 3, none⟩ = some (.slice al nl cl) := ⟨PD.cell 0 _ rfl, PD.cell 2 _ rfl, PD.cell 3 _ rfl⟩
        have hpv : (Value.slice av m cv).ownBlock ≠ some p := UA.out.ne (Nat.le_refl _)
        have hpA := PD.lt
        clear hsh hshx HSN HLNK UA HPA RL PD
        go_wp2_with fail
        (with_reducible refine (LV.out _).mono ?_)
        rintro e w3 ⟨rfl, hw3⟩
        rw [hw3]
        clear e0 e1 e2 e3 hw3 w3
        go_wp2_with fail
        go_region_held3 (fun w' => w'.cell? ⟨p, 0, none⟩ = some (.string id) ∧ w'.cell? ⟨p, 2, none⟩ = some (.string val) ∧ w'.cell? ⟨p, 3, none⟩ = some (.slice al nl cl))
          (first | exact S0 | assumption | exact S7 | exact S5 | exact ⟨past S5.1 _, past S5.2.1 _, past S5.2.2 _⟩ | exact ⟨past S0.1 _, past S0.2.1 _, past S0.2.2 _⟩)
          (first
            | (go_simp; go_at_call 30; (with_reducible refine (LV.out _).mono ?_); rintro e w5 ⟨rfl, rfl⟩)
            | (go_simp; go_at_call 31; (with_reducible refine EN.out.mono ?_); rintro e w5 ⟨vl5, rfl, hl5, b5⟩; obtain ⟨al5, nl5, cl5, rfl⟩ := Rd.sl_form hl5; have U5 := UD.out.below b5; have P5 := HPD.out.below b5; have S5 : w5.cell? ⟨p, 0, none⟩ = some (.string id) ∧ w5.cell? ⟨p, 2, none⟩ = some (.string val) ∧ w5.cell? ⟨p, 3, none⟩ = some (.slice al nl cl) := ⟨P5.cell 0 _ rfl, P5.cell 2 _ rfl, P5.cell 3 _ rfl⟩)
            | (refine step_put rfl (.tmp 30) (.tmp 42) 29 rfl iE _ 88 Tryz.underlying29 hiE hzE0 hzE1 hzE2 rfl (by decide) U5 (fun b h => Nat.lt_of_lt_of_le h hBw1) (entOf ⟨id, kd, val, line⟩).d [.int .i64 ((levB val : Nat) : Int), .string id, .string val, .slice al5 nl5 cl5, .slice none 0 0] (by rw [HENT.out]; exact En.mk_ ⟨(levB val : Nat), id, val, entL line, []⟩ ⟨hl5.weaken (fun b hb => hb.imp _root_.id (fun hb => by have h9 : wA.drew.heap.size = p + 1 := ZA.out; omega)), Rd.nil_mk _ _ _⟩) rfl one_five HDN.out (by omega) (by decide) rfl rfl ?_; intro a' c' w7 hrow hg7; have S7 : w7.cell? ⟨p, 0, none⟩ = some (.string id) ∧ w7.cell? ⟨p, 2, none⟩ = some (.string val) ∧ w7.cell? ⟨p, 3, none⟩ = some (.slice al nl cl) := ⟨(World.grownBy.cell_far hg7 ⟨p, 0, none⟩ (by have := P5.lt; simp; omega) (fun e => hpv e.symm)).trans (past S5.1 _), (World.grownBy.cell_far hg7 ⟨p, 2, none⟩ (by have := P5.lt; simp; omega) (fun e => hpv e.symm)).trans (past S5.2.1 _), (World.grownBy.cell_far hg7 ⟨p, 3, none⟩ (by have := P5.lt; simp; omega) (fun e => hpv e.symm)).trans (past S5.2.2 _)⟩))
        all_goals
          have HROW := Lib.hid hrow
          rw [← HX.out] at HROW
          clear hrow
          go_wp2
          go_roundw
          case rel => exact ⟨k + 1, _, hk1N, by go_num, HROW.out⟩
          case measure => simp [intOf]; omega
    · have hkl : k = N.length := by have := HNN.out; omega
      subst hkl
      rw [List.take_length] at HDS
      go_wp2
      go_ret
      have h1 := HROW.out.rd
      have hbs := HB1.out.size
      rw [HDS.out] at h1
      refine ⟨.slice av m cv, rfl, ?_, below_trans_size HB1.out HROW.out.bel⟩
      rw [← HNE.out]
      exact h1.weaken (fun b hb => hb.imp _root_.id (fun hb => by omega))
end Go.Proofs.YtlbioncagkkkoaaGreatDoor
