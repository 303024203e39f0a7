/- Contracts of publisherref22.value and counters. Contracts of publisherref22.value, kind, caption. Contracts of publisherref24.level, publisherref22.one. -/
import Derived.Test.YtlbioncagkkkoaaGreatDoorKRtA
import Derived.Test.YtlbioncagkkkoaaGreatDoorKEnW
import Derived.Deep.RegionHeld3
namespace Go.Proofs.YtlbioncagkkkoaaGreatDoor
open Go.RowKit
set_option linter.unusedVariables false
set_option linter.unusedSimpArgs false

def L6 (f : Nat → Nat) : List Nat := [f 0, f 1, f 2, f 3, f 4, f 5]
theorem L6_set (f : Nat → Nat) (i v : Nat) (h : i < 6) : (L6 f).set i v = L6 (fun t => if t = i then v else f t) := by
  have : i = 0 ∨ i = 1 ∨ i = 2 ∨ i = 3 ∨ i = 4 ∨ i = 5 := by omega
  rcases this with rfl | rfl | rfl | rfl | rfl | rfl <;> rfl
theorem L6_get (f : Nat → Nat) (i : Nat) (h : i < 6) : (L6 f)[i]? = some (f i) := by
  have : i = 0 ∨ i = 1 ∨ i = 2 ∨ i = 3 ∨ i = 4 ∨ i = 5 := by omega
  rcases this with rfl | rfl | rfl | rfl | rfl | rfl <;> rfl
theorem L6_of (c : List Nat) (h : c.length = 6) : c = L6 (fun t => c.getD t 0) := by
  match c, h with
  | [_, _, _, _, _, _], _ => rfl
theorem L6_congr {f g : Nat → Nat} (h : ∀ t, t < 6 → f t = g t) : L6 f = L6 g := by
  unfold L6
  rw [h 0 (by decide), h 1 (by decide), h 2 (by decide), h 3 (by decide), h 4 (by decide), h 5 (by decide)]
/-- The seven cells: the first is not used. -/
def C7 (f : Nat → Nat) : List Value := .int .i64 0 :: intC (L6 f)
theorem C7_get (f : Nat → Nat) (i : Nat) (h : i < 6) : (C7 f)[i + 1]? = some (.int .i64 ((f i : Nat) : Int)) := by
  unfold C7
  rw [List.getElem?_cons_succ]
  exact intC_get _ _ _ (L6_get f i h)
theorem C7_set (f : Nat → Nat) (i v : Nat) (h : i < 6) : (C7 f).set (i + 1) (.int .i64 ((v : Nat) : Int)) = C7 (fun t => if t = i then v else f t) := by
  unfold C7
  rw [List.set_cons_succ, intC_set, L6_set f i v h]
theorem C7_at (f : Nat → Nat) (i : Nat) (h1 : 1 ≤ i) (h : i ≤ 6) : (C7 f)[i]? = some (.int .i64 ((f (i - 1) : Nat) : Int)) := by
  obtain ⟨j, rfl⟩ : ∃ j, i = j + 1 := ⟨i - 1, by omega⟩
  rw [C7_get f j (by omega)]; rfl
theorem C7_put (f : Nat → Nat) (i v : Nat) (h1 : 1 ≤ i) (h : i ≤ 6) : (C7 f).set i (.int .i64 ((v : Nat) : Int)) = C7 (fun t => if t + 1 = i then v else f t) := by
  obtain ⟨j, rfl⟩ : ∃ j, i = j + 1 := ⟨i - 1, by omega⟩
  rw [C7_set f j v (by omega)]
  unfold C7
  rw [L6_congr (g := fun t => if t + 1 = j + 1 then v else f t)]
  intro t _
  by_cases ht : t = j <;> simp [ht]
def z7 : List Value := [.int .i64 0, .int .i64 0, .int .i64 0, .int .i64 0, .int .i64 0, .int .i64 0, .int .i64 0]
/-- At the head of the first loop. -/
def Ct1 (T : TypeId) (S : Nat) (c : Nat → Nat) (k : Nat) (w : World) (vi : Value) (wr : World) : Prop :=
  ∃ (i : Nat) (f : Nat → Nat), 1 ≤ i ∧ i ≤ k ∧ vi = .int .i64 i ∧ CB T S (C7 f) wr ∧ CB T (S + 1) z7 wr ∧ Below S w wr ∧ ∀ t, t < 6 → f t = if t + 1 < i then max (c t) 1 else c t
/-- At the head of the second. -/
def Ct2 (T : TypeId) (S : Nat) (c : Nat → Nat) (k : Nat) (w : World) (vi : Value) (wr : World) : Prop :=
  ∃ (i : Nat) (f : Nat → Nat), k + 1 ≤ i ∧ i ≤ 7 ∧ vi = .int .i64 i ∧ CB T S (C7 f) wr ∧ CB T (S + 1) z7 wr ∧ Below S w wr ∧ ∀ t, t < 6 → f t = if t + 1 < k then max (c t) 1 else if t + 1 = k then c t + 1 else if t + 1 < i then 0 else c t
theorem cb_farS {T : TypeId} {S : Nat} {cs : List Value} {w : World} (h : CB T (S + 1) cs w) (j : Nat) (u : Value) : CB T (S + 1) cs (w.setCell ⟨S, j, none⟩ u) := (Below.heap_setCell w ⟨S, j, none⟩ u (S + 1) (by show S + 1 ≠ S; omega)).trans h
def sev (w : World) (g o : Nat) (c0 c1 c2 c3 c4 c5 c6 : Value) : World := ((((((w.setCell ⟨g, o, none⟩ c0).setCell ⟨g, o + 1, none⟩ c1).setCell ⟨g, o + 2, none⟩ c2).setCell ⟨g, o + 3, none⟩ c3).setCell ⟨g, o + 4, none⟩ c4).setCell ⟨g, o + 5, none⟩ c5).setCell ⟨g, o + 6, none⟩ c6
theorem below_set0 {S : Nat} {w wr : World} (h : Below S w wr) (j : Nat) (u : Value) : Below S w (wr.setCell ⟨S, j, none⟩ u) := h.setCell (Nat.le_refl _) u

set_option maxRecDepth 100000 in
set_option maxHeartbeats 4000000 in
theorem counters_C7 (c : Nat → Nat) (k : Nat) (w : World) (h1 : 1 ≤ k) (hk : k ≤ 6) (hb : ∀ i, c i ≤ 1000000) :
    Calls Tryz.prog 95 #[.agg (C7 c).toArray, .int .i64 (k : Int)] w fun e w' => e = .returned (.agg (C7 (fun i => if i + 1 < k then max (c i) 1 else if i + 1 = k then c i + 1 else 0)).toArray) ∧ Below w.heap.size w w' := by
  obtain ⟨S, hS⟩ : ∃ S, S = w.heap.size := ⟨_, rfl⟩
  obtain ⟨w0, hw0⟩ : ∃ w0, w0 = (w.alloc (.cells (C7 c).toArray 100)).alloc (.cells z7.toArray 100) := ⟨_, rfl⟩
  have k0 : CB 100 S (C7 c) w0 := by rw [hw0, hS]; exact cb_grown (CB.new _ _ w) (World.grownBy_alloc _ _ none) (by simp)
  have k1 : CB 100 (S + 1) z7 w0 := by
    have := CB.new 100 z7 (w.alloc (.cells (C7 c).toArray 100))
    rw [World.size_alloc] at this
    rw [hw0, hS]; exact this
  have b0 : Below S w w0 := by rw [hw0, hS]; exact ((Below.refl _ _).alloc (Nat.le_refl _) _).alloc (by simp) _
  have R0 : Hid (Ct1 100 S c k w (.int .i64 (1 : Nat)) w0) := ⟨1, c, Nat.le_refl _, h1, rfl, k0, k1, b0, fun t _ => by rw [if_neg (by omega)]⟩
  have HB := Lib.hid hb
  have HS := Lib.hid hS
  have HW0 := Lib.hid hw0
  clear hb hS hw0 k0 k1 b0
  go_enter Tryz.func95, Tryz.ntmps95
  go_upto_region 1 with (fail)
  obtain ⟨wa, hwa⟩ : ∃ wa, wa = (w.alloc (.cells (C7 c).toArray 100)).alloc (.cells #[.int .i64 0, .int .i64 0, .int .i64 0, .int .i64 0, .int .i64 0, .int .i64 0, .int .i64 0] 100) := ⟨_, rfl⟩
  rw [← hwa, ← HS.out]
  have hww : wa = w0 := by rw [hwa, HW0.out]; rfl
  rw [hww]
  clear hwa hww HW0 wa
  go_wp2
  go_loopw [5] (fun vi wr => Ct1 100 S c k w vi wr) (fun i _ => k - (intOf i).toNat)
  case atStart => exact R0.out
  case round =>
    clear R0
    obtain ⟨i, f, hi1, hik, rfl, hS, hR, hbel, hf⟩ := hrel
    have c0 := hS.cell i _ (C7_at f i hi1 (by omega))
    have fz := cb_free hS i
    have hfi := hf (i - 1) (by omega)
    rw [if_neg (by omega)] at hfi
    have hsl := hS.lt
    by_cases hlt : i < k
    · by_cases hz : f (i - 1) = 0
      · have HREL : Hid (Ct1 100 S c k w (.int .i64 ((i + 1 : Nat) : Int)) (wr.setCell ⟨S, i, none⟩ (.int .i64 1))) := by
          refine ⟨i + 1, fun t => if t + 1 = i then 1 else f t, by omega, by omega, rfl, ?_, cb_farS hR i _, below_set0 hbel i _, fun t ht => ?_⟩
          · rw [← C7_put f i 1 hi1 (by omega)]; exact cb_set hS i _
          · have h2 := hf t ht
            by_cases ht2 : t + 1 = i
            · have e : i - 1 = t := by omega
              rw [e] at hz hfi
              simp only
              rw [if_pos ht2, if_pos (by omega)]; omega
            · simp only
              rw [if_neg ht2, h2]
              by_cases h3 : t + 1 < i
              · rw [if_pos h3, if_pos (by omega)]
              · rw [if_neg h3, if_neg (by omega)]
        rw [hz] at c0
        clear hz hfi hf hS hR hbel HB
        go_wp2
        go_roundw
        case rel => exact HREL.out
        case measure => simp [intOf]; omega
      · have HREL : Hid (Ct1 100 S c k w (.int .i64 ((i + 1 : Nat) : Int)) wr) := by
          refine ⟨i + 1, f, by omega, by omega, rfl, hS, hR, hbel, fun t ht => ?_⟩
          have h2 := hf t ht
          by_cases ht2 : t + 1 = i
          · have e : i - 1 = t := by omega
            rw [e] at hz hfi
            rw [if_pos (by omega)]; omega
          · rw [h2]
            by_cases h3 : t + 1 < i
            · rw [if_pos h3, if_pos (by omega)]
            · rw [if_neg h3, if_neg (by omega)]
        have q : (((f (i - 1) : Nat) : Int) == 0) = false := by rw [beq_eq_false_iff_ne]; omega
        generalize f (i - 1) = y at *
        clear hz hfi hf hS hR hbel HB
        go_wp2
        go_roundw
        case rel => exact HREL.out
        case measure => simp [intOf]; omega
    · obtain rfl : i = k := by omega
      obtain ⟨y, hy⟩ : ∃ y, y = f (i - 1) := ⟨_, rfl⟩
      have hyb : y ≤ 1000000 := by rw [hy, hfi]; exact HB.out _
      rw [← hy] at c0
      have R2 : Hid (Ct2 100 S c i w (.int .i64 ((i : Int) + 1)) (wr.setCell ⟨S, i, none⟩ (.int .i64 ((y : Int) + 1)))) := by
        refine ⟨i + 1, fun t => if t + 1 = i then y + 1 else f t, by omega, by omega, rfl, ?_, cb_farS hR i _, below_set0 hbel i _, fun t ht => ?_⟩
        · rw [← C7_put f i (y + 1) hi1 (by omega)]; exact cb_set hS i _
        · have h2 := hf t ht
          simp only
          by_cases ht2 : t + 1 = i
          · have e : i - 1 = t := by omega
            rw [e] at hy hfi
            rw [if_pos ht2, if_neg (by omega), if_pos ht2, hy, hfi]
          · rw [if_neg ht2, h2]
            by_cases h3 : t + 1 < i
            · rw [if_pos h3, if_pos h3]
            · rw [if_neg h3, if_neg h3, if_neg ht2, if_neg (by omega)]
      clear hy hfi hf hS hR hbel HB
      go_wp2
      go_loopw [6] (fun vi wr => Ct2 100 S c i w vi wr) (fun i _ => 7 - (intOf i).toNat)
      case atStart => exact R2.out
      case round =>
        clear R2
        obtain ⟨j, g, hj1, hj7, rfl, hS, hR, hbel, hf⟩ := hrel
        have hsl := hS.lt
        by_cases hlt2 : j < 7
        · have c0 := hS.cell j _ (C7_at g j (by omega) (by omega))
          have fz := cb_free hS j
          have HREL : Hid (Ct2 100 S c i w (.int .i64 ((j + 1 : Nat) : Int)) (wr.setCell ⟨S, j, none⟩ (.int .i64 0))) := by
            refine ⟨j + 1, fun t => if t + 1 = j then 0 else g t, by omega, by omega, rfl, ?_, cb_farS hR j _, below_set0 hbel j _, fun t ht => ?_⟩
            · rw [← C7_put g j 0 (by omega) (by omega)]; exact cb_set hS j _
            · have h2 := hf t ht
              simp only
              by_cases ht2 : t + 1 = j
              · rw [if_pos ht2, if_neg (by omega), if_neg (by omega), if_pos (by omega)]
              · rw [if_neg ht2, h2]
                by_cases h3 : t + 1 < i
                · rw [if_pos h3, if_pos h3]
                · rw [if_neg h3, if_neg h3]
                  by_cases h4 : t + 1 = i
                  · rw [if_pos h4, if_pos h4]
                  · rw [if_neg h4, if_neg h4]
                    by_cases h5 : t + 1 < j
                    · rw [if_pos h5, if_pos (by omega)]
                    · rw [if_neg h5, if_neg (by omega)]
          clear hf hS hR hbel
          go_wp2
          go_roundw
          case rel => exact HREL.out
          case measure => simp [intOf]; omega
        · obtain rfl : j = 7 := by omega
          have hg : C7 g = C7 (fun t => if t + 1 < i then max (c t) 1 else if t + 1 = i then c t + 1 else 0) := by
            unfold C7
            rw [L6_congr (g := fun t => if t + 1 < i then max (c t) 1 else if t + 1 = i then c t + 1 else 0)]
            intro t ht
            rw [hf t ht]
            by_cases h3 : t + 1 < i
            · rw [if_pos h3, if_pos h3]
            · rw [if_neg h3, if_neg h3]
              by_cases h4 : t + 1 = i
              · rw [if_pos h4, if_pos h4]
              · rw [if_neg h4, if_neg h4, if_pos (by omega)]
          rw [hg] at hS
          obtain ⟨h, hh⟩ : ∃ h, h = (fun t => if t + 1 < i then max (c t) 1 else if t + 1 = i then c t + 1 else 0) := ⟨_, rfl⟩
          rw [← hh] at hS
          have HH := Lib.hid hh
          clear hh
          have s0 := hS.cell 0 _ rfl
          have s1 := hS.cell 1 _ rfl
          have s2 := hS.cell 2 _ rfl
          have s3 := hS.cell 3 _ rfl
          have s4 := hS.cell 4 _ rfl
          have s5 := hS.cell 5 _ rfl
          have s6 := hS.cell 6 _ rfl
          have ef : ∀ j, wr.frozen? ⟨S + 1, j, none⟩ = false := cb_free hR
          have hrl := hR.lt
          have HR := Lib.hid hR
          have HBEL := Lib.hid hbel
          have HSS := Lib.hid hS
          have t0 := hR.cell 0 _ rfl
          have t1 := hR.cell 1 _ rfl
          have t2 := hR.cell 2 _ rfl
          have t3 := hR.cell 3 _ rfl
          have t4 := hR.cell 4 _ rfl
          have t5 := hR.cell 5 _ rfl
          have t6 := hR.cell 6 _ rfl
          obtain ⟨w6, hw6⟩ : ∃ w6, w6 = sev wr (S + 1) 0 (.int .i64 0) (.int .i64 ((h 0 : Nat) : Int)) (.int .i64 ((h 1 : Nat) : Int)) (.int .i64 ((h 2 : Nat) : Int)) (.int .i64 ((h 3 : Nat) : Int)) (.int .i64 ((h 4 : Nat) : Int)) (.int .i64 ((h 5 : Nat) : Int)) := ⟨_, rfl⟩
          have HW6 := Lib.hid hw6
          have HC6 : Hid (CB 100 (S + 1) (C7 h) w6) := by
            show CB _ _ _ _
            rw [hw6]
            exact cb_set (cb_set (cb_set (cb_set (cb_set (cb_set (cb_set hR 0 _) 1 _) 2 _) 3 _) 4 _) 5 _) 6 _
          have HB6 : Hid (Below w.heap.size w w6) := by
            show Below _ _ _
            rw [hw6, ← HS.out]
            exact ((((((hbel.setCell (p := ⟨S + 1, 0, none⟩) (Nat.le_succ S) _).setCell (p := ⟨S + 1, 1, none⟩) (Nat.le_succ S) _).setCell (p := ⟨S + 1, 2, none⟩) (Nat.le_succ S) _).setCell (p := ⟨S + 1, 3, none⟩) (Nat.le_succ S) _).setCell (p := ⟨S + 1, 4, none⟩) (Nat.le_succ S) _).setCell (p := ⟨S + 1, 5, none⟩) (Nat.le_succ S) _).setCell (p := ⟨S + 1, 6, none⟩) (Nat.le_succ S) _
          clear hf hg hS hR hbel hw6
          go_wp2
          have hk := HW6.out
          simp only [sev, Nat.zero_add] at hk
          rw [← hk]
          clear hk
          have r0 := HC6.out.cell 0 _ rfl
          have r1 := HC6.out.cell 1 _ rfl
          have r2 := HC6.out.cell 2 _ rfl
          have r3 := HC6.out.cell 3 _ rfl
          have r4 := HC6.out.cell 4 _ rfl
          have r5 := HC6.out.cell 5 _ rfl
          have r6 := HC6.out.cell 6 _ rfl
          exact bodyPost_ret (v := .agg #[.int .i64 0, .int .i64 ((h 0 : Nat) : Int), .int .i64 ((h 1 : Nat) : Int), .int .i64 ((h 2 : Nat) : Int), .int .i64 ((h 3 : Nat) : Int), .int .i64 ((h 4 : Nat) : Int), .int .i64 ((h 5 : Nat) : Int)]) (by simp [results, Tryz.results95, go_sem, r0, r1, r2, r3, r4, r5, r6]) rfl ⟨by rw [← HH.out]; rfl, HB6.out⟩
theorem counters_any (c : List Nat) (k : Nat) (w : World) (h6 : c.length = 6) (h1 : 1 ≤ k) (hk : k ≤ 6) (hb : ∀ i, c.getD i 0 ≤ 1000000) :
    Calls Tryz.prog 95 #[.agg (.int .i64 0 :: intC c).toArray, .int .i64 (k : Int)] w fun e w' => e = .returned (.agg (.int .i64 0 :: intC (cntUp c k)).toArray) ∧ Below w.heap.size w w' := by
  have e1 : (.int .i64 0 : Value) :: intC c = C7 (fun t => c.getD t 0) := by
    unfold C7; rw [← L6_of c h6]
  have e2 : (.int .i64 0 : Value) :: intC (cntUp c k) = C7 (fun i => if i + 1 < k then max (c.getD i 0) 1 else if i + 1 = k then c.getD i 0 + 1 else 0) := rfl
  rw [e1, e2]
  exact counters_C7 _ k w h1 hk hb
end Go.Proofs.YtlbioncagkkkoaaGreatDoor

namespace Go.Proofs.YtlbioncagkkkoaaGreatDoor
open Go.RowKit
set_option linter.unusedVariables false
set_option linter.unusedSimpArgs false

theorem dotL_snoc : ∀ (l : List (List UInt8)) (x : List UInt8), dotL (l ++ [x]) = (if l = [] then [] else dotL l ++ [46]) ++ x
  | [], x => rfl
  | [y], x => by simp [dotL]
  | y :: z :: l, x => by
    have ih := dotL_snoc (z :: l) x
    rw [if_neg (by simp)] at ih
    rw [if_neg (by simp)]
    show y ++ 46 :: dotL ((z :: l) ++ [x]) = _
    rw [ih]
    simp [dotL]
theorem valS_snoc (c : List Nat) (j : Nat) (h6 : c.length = 6) (hj : j < 6) : valS c (j + 1) = (if j = 0 then ⟨#[]⟩ else valS c j ++ ⟨#[46]⟩) ++ decS (c.getD j 0) := by
  have hx : c[j]? = some (c.getD j 0) := by
    rw [List.getD_eq_getElem?_getD, List.getElem?_eq_getElem (by omega)]; rfl
  have hl : (c.take j).length = j := by rw [List.length_take]; omega
  unfold valS decS
  rw [List.take_add_one, hx, List.map_append]
  simp only [Option.toList_some, List.map_cons, List.map_nil]
  rw [dotL_snoc]
  apply ByteArray.ext
  by_cases h0 : j = 0
  · subst h0
    simp
  · have hne : ¬ (c.take j).map Lib.decDigits = [] := by
      intro e
      have := congrArg List.length e
      rw [List.length_map, hl] at this
      exact h0 this
    rw [if_neg hne, if_neg h0]
    apply Array.toList_inj.1
    simp
theorem valS_size (c : List Nat) (j : Nat) (hb : ∀ i, c.getD i 0 ≤ 1000000) (hj : j ≤ 6) (h6 : c.length = 6) : (valS c j).size ≤ 7000000 := by
  show (dotL _).toArray.size ≤ _
  rw [List.size_toArray]
  refine Nat.le_trans (dotL_len _ 1000001 ?_) ?_
  · intro x hx
    obtain ⟨n, hn, rfl⟩ := List.mem_map.1 hx
    obtain ⟨i, hi⟩ := List.getElem?_of_mem hn
    have h1 := hb i
    have h2 : c[i]? = some n := by
      by_cases hlt : i < j
      · rwa [List.getElem?_take_of_lt hlt] at hi
      · rw [List.getElem?_take_eq_none (by omega)] at hi; cases hi
    rw [List.getD_eq_getElem?_getD, h2] at h1
    have h3 := dec_len n
    simp at h1; omega
  · rw [List.length_map, List.length_take]
    have : min j c.length ≤ 6 := by omega
    have := Nat.mul_le_mul_right (1000001 + 1) this
    omega

set_option maxRecDepth 100000 in
set_option maxHeartbeats 4000000 in
theorem value_any (c : List Nat) (k : Nat) (w : World) (h6 : c.length = 6) (hk : k ≤ 6) (hb : ∀ i, c.getD i 0 ≤ 1000000) :
    Calls Tryz.prog 96 #[.agg (.int .i64 0 :: intC c).toArray, .int .i64 (k : Int)] w fun e w' => e = .returned (.string (valS c k)) ∧ Below w.heap.size w w' := by
  obtain ⟨f, hf⟩ : ∃ f : Nat → Nat, f = fun t => c.getD t 0 := ⟨_, rfl⟩
  have e1 : (.int .i64 0 : Value) :: intC c = C7 f := by
    rw [hf]; unfold C7; rw [← L6_of c h6]
  have HFT : Hid (∀ t, f t = c.getD t 0) := fun t => by rw [hf]
  clear hf
  obtain ⟨S, hS⟩ : ∃ S, S = w.heap.size := ⟨_, rfl⟩
  obtain ⟨w0, hw0⟩ : ∃ w0, w0 = w.alloc (.cells (C7 f).toArray 100) := ⟨_, rfl⟩
  have k0 : CB 100 S (C7 f) w0 := by rw [hw0, hS]; exact CB.new _ _ w
  have B0 : Hid (Below w.heap.size w w0) := by show Below _ _ _; rw [hw0]; exact (Below.refl _ _).alloc (Nat.le_refl _) _
  rw [e1]
  have HB := Lib.hid hb
  have HS := Lib.hid hS
  have H6 := Lib.hid h6
  have K0 := Lib.hid k0
  have HF : Hid ((⟨#[]⟩ : ByteArray) = valS c 0) := rfl
  have hsl := k0.lt
  clear hb hS h6 k0 e1
  go_enter Tryz.func96, Tryz.ntmps96
  go_upto_region 1 with (fail)
  rw [← hw0, ← HS.out]
  clear hw0
  go_wp2
  go_loop [5, 6] (fun vs vi => ∃ i : Nat, 1 ≤ i ∧ i ≤ k + 1 ∧ vi = .int .i64 (i : Int) ∧ vs = .string (valS c (i - 1))) (fun _ i => k + 1 - (intOf i).toNat)
  case atStart => exact ⟨1, Nat.le_refl _, by omega, rfl, by rw [HF.out]⟩
  case round =>
    obtain ⟨i, hi1, hik, rfl, rfl⟩ := hrel
    by_cases hlt : i < k + 1
    · have c0 := K0.out.cell i _ (C7_at _ i hi1 (by omega))
      rw [HFT.out] at c0
      have hsn := valS_snoc c (i - 1) H6.out (by omega)
      rw [show i - 1 + 1 = i by omega] at hsn
      have hsz := valS_size c (i - 1) HB.out (by omega) H6.out
      have hx := HB.out (i - 1)
      have hdl := dec_len (c.getD (i - 1) 0)
      have hds : (decS (c.getD (i - 1) 0)).size = (Lib.decDigits (c.getD (i - 1) 0)).length := rfl
      have hp : ∀ s : ByteArray, (s ++ (⟨#[46]⟩ : ByteArray)).size = s.size + 1 := fun s => by rw [ByteArray.size_append]; rfl
      have hp0 := hp (valS c (i - 1))
      have q46 : (valS c (i - 1)).size + (⟨#[46]⟩ : ByteArray).size ≤ 9223372036854775807 := by have : (⟨#[46]⟩ : ByteArray).size = 1 := rfl; omega
      have q47 : (valS c (i - 1) ++ (⟨#[46]⟩ : ByteArray)).size + (decS (c.getD (i - 1) 0)).size ≤ 9223372036854775807 := by omega
      have q48 : (valS c (i - 1)).size + (decS (c.getD (i - 1) 0)).size ≤ 9223372036854775807 := by omega
      have HSN := Lib.hid hsn
      have NU := Lib.hid (fun W : World => r22num_any (c.getD (i - 1) 0) W hx)
      have HZ : Hid (i = 1 → valS c (i - 1) = ⟨#[]⟩) := fun e => by rw [e]; rfl
      clear hsn hp hds hdl hp0
      generalize valS c (i - 1) = s at *
      generalize c.getD (i - 1) 0 = x at *
      by_cases h1 : i = 1
      · have q1 : decide ((1 : Int) < (i : Int)) = false := decide_eq_false (by omega)
        have q2 : decide (1 < i) = false := decide_eq_false (by omega)
        have HE : Hid (valS c i = s ++ decS x) := by show _ = _; rw [HSN.out, if_pos (by omega), HZ.out h1]
        clear HSN HZ h1
        go_wp2_with fail
        (with_reducible refine (NU.out _).mono ?_)
        rintro e w3 ⟨rfl, rfl⟩
        go_wp2
        go_round
        case rel => exact ⟨i + 1, by omega, by omega, by go_num, by rw [Nat.add_sub_cancel, HE.out]⟩
        case measure => simp [intOf]; omega
      · have q1 : decide ((1 : Int) < (i : Int)) = true := decide_eq_true (by omega)
        have q2 : decide (1 < i) = true := decide_eq_true (by omega)
        have HE : Hid (valS c i = (s ++ ⟨#[46]⟩) ++ decS x) := by show _ = _; rw [HSN.out, if_neg (by omega)]
        clear HSN HZ
        go_wp2_with fail
        (with_reducible refine (NU.out _).mono ?_)
        rintro e w3 ⟨rfl, rfl⟩
        go_wp2
        go_round
        case rel => exact ⟨i + 1, by omega, by omega, by go_num, by rw [Nat.add_sub_cancel, HE.out]⟩
        case measure => simp [intOf]; omega
    · obtain rfl : i = k + 1 := by omega
      rw [Nat.add_sub_cancel]
      go_wp2
      go_ret
      exact ⟨rfl, B0.out⟩
/-- Which kind of number a block has that is no section. -/
def kindN (k : Int) (i id : ByteArray) : Nat := if k = 13 ∧ i = figS then 1 else if k = 13 ∧ i = tabS then 2 else if k = 4 ∧ id.data.toList ≠ [] then 3 else 0

set_option maxRecDepth 100000 in
set_option maxHeartbeats 4000000 in
theorem r22kind_any (k lv : Int) (i t d ti : ByteArray) (at_ : At) (ac ap al ak : Option Addr) (nc cc np cp nl cl nk ck : Nat) (w : World) :
    Calls Tryz.prog 97 #[.agg #[.int .i64 k, .int .i64 lv, .string i, .string t, .string d, .string ti, .string at_.id, .slice ac nc cc, .slice ap np cp, .slice al nl cl, .slice ak nk ck]] w fun e w' => e = .returned (.int .i64 (kindN k i at_.id : Nat)) ∧ Below w.heap.size w w' := by
  have hf := lit_eq i [102, 105, 103, 117, 114, 101]
  have hg := lit_eq i [116, 97, 98, 108, 101]
  have he : at_.id.toList.isEmpty = decide (at_.id.data.toList = []) := by rw [emp_eq]; rfl
  have HE : Hid (kindN k i at_.id = if k = 13 ∧ decide (i = figS) = true then 1 else if k = 13 ∧ decide (i = tabS) = true then 2 else if k = 4 ∧ decide (at_.id.data.toList = []) = false then 3 else 0) := by
    show _ = _
    unfold kindN
    simp only [decide_eq_true_eq, decide_eq_false_iff_not, ne_eq]
  change (i.toList == _) = decide (i = figS) at hf
  change (i.toList == _) = decide (i = tabS) at hg
  generalize kindN k i at_.id = V at *
  generalize decide (i = figS) = bf at *
  generalize decide (i = tabS) = bg at *
  generalize decide (at_.id.data.toList = []) = be at *
  have hk : k = 13 ∨ k = 4 ∨ (k ≠ 13 ∧ k ≠ 4) := by omega
  obtain ⟨w1, hw1⟩ : ∃ w1, w1 = w.alloc (.cells #[.int .i64 k, .int .i64 lv, .string i, .string t, .string d, .string ti, .string at_.id, .slice ac nc cc, .slice ap np cp, .slice al nl cl, .slice ak nk ck] 53) := ⟨_, rfl⟩
  have k1 : CB 53 w.heap.size [.int .i64 k, .int .i64 lv, .string i, .string t, .string d, .string ti, .string at_.id, .slice ac nc cc, .slice ap np cp, .slice al nl cl, .slice ak nk ck] w1 := by rw [hw1]; exact CB.new _ _ _
  have B1 : Hid (Below w.heap.size w w1) := by show Below _ _ _; rw [hw1]; exact (Below.refl _ _).alloc (Nat.le_refl _) _
  have p0 := k1.cell 0 _ rfl
  have p2 := k1.cell 2 _ rfl
  have p6 := k1.cell 6 _ rfl
  clear k1
  rcases hk with rfl | rfl | ⟨k3, k4⟩
  · cases bf <;> cases bg
    all_goals
      go_enter Tryz.func97, Tryz.ntmps97
      go_upto_region 1 with (fail)
      rw [← hw1]
      clear hw1
      go_wp2
      go_ret
      exact ⟨by rw [HE.out]; rfl, B1.out⟩
  · cases be
    all_goals
      go_enter Tryz.func97, Tryz.ntmps97
      go_upto_region 1 with (fail)
      rw [← hw1]
      clear hw1
      go_wp2
      go_ret
      exact ⟨by rw [HE.out]; rfl, B1.out⟩
  · have e3 : (k == 13) = false := by rw [beq_eq_false_iff_ne]; exact k3
    have e4 : (k == 4) = false := by rw [beq_eq_false_iff_ne]; exact k4
    have HV : Hid (V = 0) := by show V = _; rw [HE.out, if_neg (fun h => k3 h.1), if_neg (fun h => k3 h.1), if_neg (fun h => k4 h.1)]
    clear k3 k4 HE
    go_enter Tryz.func97, Tryz.ntmps97
    go_upto_region 1 with (fail)
    rw [← hw1]
    clear hw1
    go_wp2
    go_ret
    exact ⟨by rw [HV.out]; rfl, B1.out⟩

set_option maxRecDepth 100000 in
set_option maxHeartbeats 4000000 in
theorem r22caption_any (l : List Blk) (v : Value) (ok : Nat → Prop) (w : World) (hrd : Rd ok w (blksD l) [v]) :
    Calls Tryz.prog 133 #[v] w fun e w' => (∃ vl, e = .returned vl ∧ Rd ok w (inlsD (capL l)) [vl]) ∧ w' = w := by
  obtain ⟨a, cap, hv, hs⟩ := Rd.sl_open hrd
  obtain rfl : v = .slice a l.length cap := by simpa using hv
  have hcap : l.length ≤ cap := by simpa using hs.le
  have hmx := hs.max
  unfold maxLen at hmx
  have HS := Lib.hid hs
  obtain ⟨C, hC⟩ : ∃ C, C = capL l := ⟨_, rfl⟩
  have HC : Hid (C = match (l.drop 1).find? isPara with
    | some b => b.lineOf
    | none => []) := hC
  rw [← hC]
  clear hs hv hrd hC
  go_enter Tryz.func133, Tryz.ntmps133
  go_wp2
  go_loop [3] (fun vi => ∃ k : Nat, 1 ≤ k ∧ k ≤ l.length + 1 ∧ vi = .int .i64 k ∧ (l.drop k).find? isPara = (l.drop 1).find? isPara) (fun vi => l.length + 1 - (intOf vi).toNat)
  case atStart => exact ⟨1, Nat.le_refl _, by omega, rfl, rfl⟩
  case round =>
    obtain ⟨k, hk1, hk, rfl, hfi⟩ := hrel
    have HF := Lib.hid hfi
    by_cases hlt : k < l.length
    · obtain ⟨x, hx⟩ : ∃ x, l[k]? = some x := ⟨_, List.getElem?_eq_getElem hlt⟩
      have HDR := Lib.hid (drop_cons l k x hx)
      obtain ⟨kd, lv, i, t, d, ti, at_, li, ks⟩ := x
      obtain ⟨b, off, vc, vp, vl, vkk, rfl, -, -, hc, hR⟩ := blks_at HS.out hx
      obtain ⟨al, nl, cl, rfl⟩ := Rd.slf hR.line
      obtain ⟨c0, c1, c2, c3, c4, c5, c6, c7, c8, c9, c10⟩ := hc
      have HL := Lib.hid hR.line
      clear hx hR hfi c1 c2 c3 c4 c5 c6 c7 c8 c10
      by_cases hp : kd = 1
      · subst hp
        have hcv : C = li := by
          rw [HC.out, ← HF.out, HDR.out, List.find?_cons_of_pos (by rfl)]
          rfl
        clear HC
        subst hcv
        go_wp2
        go_ret
        exact ⟨⟨_, rfl, HL.out⟩, rfl⟩
      · have q3 : (kd == 1) = false := by rw [beq_eq_false_iff_ne]; exact hp
        have HN : Hid ((l.drop (k + 1)).find? isPara = (l.drop 1).find? isPara) := by
          show _ = _
          rw [← HF.out, HDR.out, List.find?_cons_of_neg (by unfold isPara Blk.kindOf; simpa using hp)]
        clear hp
        go_wp2
        go_round
        case rel => exact ⟨k + 1, by omega, by omega, by go_num, HN.out⟩
        case measure => simp [intOf]; omega
    · have hcv : C = [] := by
        rw [HC.out, ← HF.out, List.drop_of_length_le (by omega)]
        rfl
      clear HC hfi
      subst hcv
      go_wp2
      go_ret
      exact ⟨⟨_, rfl, Rd.nil_mk _ _ _⟩, rfl⟩
end Go.Proofs.YtlbioncagkkkoaaGreatDoor

namespace Go.Proofs.YtlbioncagkkkoaaGreatDoor
open Go.RowKit
set_option linter.unusedVariables false
set_option linter.unusedSimpArgs false

theorem count_snoc (s : ByteArray) (k : Nat) (h : k < s.size) : (s.data.toList.take (k + 1)).count 46 = (s.data.toList.take k).count 46 + if s[k] = 46 then 1 else 0 := by
  have e : s.data.toList.take (k + 1) = s.data.toList.take k ++ [s[k]] := by
    rw [List.take_succ_eq_append_getElem (by simpa using h)]; rfl
  rw [e, List.count_append, List.count_singleton]
  by_cases hc : s[k] = 46 <;> simp [hc]
set_option maxRecDepth 100000 in
set_option maxHeartbeats 2000000 in
theorem rLevel_any (s : ByteArray) (w : World) (hs : s.size ≤ 100000000) :
    Calls Tryz.prog 30 #[.string s] w fun e w' => e = .returned (.int .i64 ((levB s : Nat) : Int)) ∧ w' = w := by
  have HL : Hid (levB s = (s.data.toList.take s.size).count 46 + 1) := by
    show _ = _
    rw [List.take_of_length_le (by simp)]; rfl
  have H0 : Hid ((s.data.toList.take 0).count 46 = 0) := rfl
  generalize levB s = L at *
  go_enter Tryz.func30, Tryz.ntmps30
  go_wp2
  go_loop [3, 4] (fun n i => ∃ k : Nat, k ≤ s.size ∧ i = .int .i64 k ∧ n = .int .i64 ((((s.data.toList.take k).count 46 + 1 : Nat)) : Int)) (fun _ i => s.size - (intOf i).toNat)
  case atStart => exact ⟨0, Nat.zero_le _, rfl, rfl⟩
  case round =>
    obtain ⟨k, hk, rfl, rfl⟩ := hrel
    have hcl : (s.data.toList.take k).count 46 ≤ k := Nat.le_trans List.count_le_length (List.length_take_le _ _)
    by_cases hlt : k < s.size
    · have hsn := count_snoc s k hlt
      have HSN := Lib.hid hsn
      clear hsn
      generalize (s.data.toList.take k).count 46 = n at *
      by_cases hc : s[k] = 46
      · have q : ((s[k].toNat : Int) == 46) = true := by rw [hc]; rfl
        have HS2 : Hid ((s.data.toList.take (k + 1)).count 46 = n + 1) := by show _ = _; rw [HSN.out, if_pos hc]
        clear HSN hc
        go_wp2
        go_round
        case rel => exact ⟨k + 1, by omega, by go_num, by rw [HS2.out]; go_num⟩
        case measure => simp [intOf]; omega
      · have q : ((s[k].toNat : Int) == 46) = false := by
          rw [beq_eq_false_iff_ne]
          intro e
          apply hc
          apply UInt8.toNat_inj.1
          show s[k].toNat = 46
          omega
        have HS2 : Hid ((s.data.toList.take (k + 1)).count 46 = n) := by show _ = _; rw [HSN.out, if_neg hc]; omega
        clear HSN hc
        go_wp2
        go_round
        case rel => exact ⟨k + 1, by omega, by go_num, by rw [HS2.out]⟩
        case measure => simp [intOf]; omega
    · have hkl : k = s.size := by omega
      subst hkl
      have HF := HL.out
      generalize (s.data.toList.take s.size).count 46 = n at *
      have HF2 := Lib.hid HF
      clear HF HL
      go_wp2
      go_ret
      exact ⟨by rw [HF2.out]; rfl, rfl⟩
theorem cb_drew0 {T : TypeId} {p : Nat} {cs : List Value} {w : World} (h : CB T p cs w) : CB T p cs w.drew := h
def oneLn (k : Int) (ks : List Blk) : List Inl := if k = 13 then capL ks else []
def OnPost (ok : Nat → Prop) (w : World) (id kind : ByteArray) (n : Nat) (ln : List Inl) (e : Ending) (w' : World) : Prop :=
  ∃ vx, e = .returned (.agg #[.string id, .string kind, .string (decS n), vx]) ∧ Rd ok w' (inlsD ln) [vx] ∧ Below w.heap.size w w'

set_option maxRecDepth 100000 in
set_option maxHeartbeats 4000000 in
theorem r22one_any (k lv : Int) (i t d ti : ByteArray) (at_ : At) (li : List Inl) (ks : List Blk) (ac ap al ak : Option Addr) (nc cc np cp nl cl nk ck : Nat) (kind : ByteArray) (n : Nat) (ok : Nat → Prop) (w : World)
    (hR : Rd ok w (blksD ks) [.slice ak nk ck]) (hB : ∀ b, ok b → b < w.heap.size) (hn : n ≤ 1000000) :
    Calls Tryz.prog 98 #[.agg #[.int .i64 k, .int .i64 lv, .string i, .string t, .string d, .string ti, .string at_.id, .slice ac nc cc, .slice ap np cp, .slice al nl cl, .slice ak nk ck], .string kind, .int .i64 (n : Int)] w (OnPost ok w at_.id kind n (oneLn k ks)) := by
  obtain ⟨S, hS⟩ : ∃ S, S = w.heap.size := ⟨_, rfl⟩
  obtain ⟨w0, hw0⟩ : ∃ w0, w0 = (w.alloc (.cells #[.int .i64 k, .int .i64 lv, .string i, .string t, .string d, .string ti, .string at_.id, .slice ac nc cc, .slice ap np cp, .slice al nl cl, .slice ak nk ck] 53)).alloc (.cells #[.string ⟨#[]⟩, .string ⟨#[]⟩, .string ⟨#[]⟩, .slice none 0 0] 49) := ⟨_, rfl⟩
  have k0 : CB 53 S [.int .i64 k, .int .i64 lv, .string i, .string t, .string d, .string ti, .string at_.id, .slice ac nc cc, .slice ap np cp, .slice al nl cl, .slice ak nk ck] w0 := by rw [hw0, hS]; exact cb_grown (CB.new _ _ w) (World.grownBy_alloc _ _ none) (by simp)
  have k1 : CB 49 (S + 1) [.string ⟨#[]⟩, .string ⟨#[]⟩, .string ⟨#[]⟩, .slice none 0 0] w0 := by
    have := CB.new 49 [.string ⟨#[]⟩, .string ⟨#[]⟩, .string ⟨#[]⟩, .slice none 0 0] (w.alloc (.cells #[.int .i64 k, .int .i64 lv, .string i, .string t, .string d, .string ti, .string at_.id, .slice ac nc cc, .slice ap np cp, .slice al nl cl, .slice ak nk ck] 53))
    rw [World.size_alloc] at this
    rw [hw0, hS]; exact this
  have b0 : Below S w w0 := by rw [hw0, hS]; exact ((Below.refl _ _).alloc (Nat.le_refl _) _).alloc (by simp) _
  have z0 : w0.heap.size = S + 2 := by rw [hw0, hS]; simp
  have HS := Lib.hid hS
  have HW0 := Lib.hid hw0
  have HBO : Hid (∀ b, ok b → b < S) := by show ∀ b, ok b → b < S; rw [hS]; exact hB
  have HRD := Lib.hid hR
  have NU := Lib.hid (fun W : World => r22num_any n W hn)
  have S0 : w0.drew.cell? ⟨S, 6, none⟩ = some (.string at_.id) := k0.cell 6 _ rfl
  have k6 : w0.cell? ⟨S, 6, none⟩ = some (.string at_.id) := k0.cell 6 _ rfl
  have hS2 : S < w0.heap.size := k0.lt
  have K0 := Lib.hid k0
  have K1 := Lib.hid k1
  have B0 := Lib.hid b0
  have Z0 := Lib.hid z0
  clear hR hB hS hw0 k0 k1 b0 z0
  go_enter Tryz.func98, Tryz.ntmps98
  go_upto_region 1 with (fail)
  rw [← HS.out, ← HW0.out]
  go_region_held3 (fun w' => w'.cell? ⟨S, 6, none⟩ = some (.string at_.id))
    (first | with_reducible exact S0 | with_reducible assumption | (show World.cell? (World.alloc w0 _) _ = _; exact past k6 _) | (go_simp; done) | (go_simp; exact k6))
    (first | (go_simp; go_at_call 67; (with_reducible refine (NU.out _).mono ?_); rintro e w5 ⟨rfl, rfl⟩))
  all_goals
    obtain ⟨w5, hw5⟩ : ∃ w5, w5 = (w0.alloc (.cells #[.string at_.id, .string kind, .string (decS n), .slice none 0 0] 49)).drew := ⟨_, rfl⟩
    have X5 : CB 49 w0.heap.size [.string at_.id, .string kind, .string (decS n), .slice none 0 0] w5 := by rw [hw5]; exact cb_drew0 (CB.new _ _ w0)
    have g5 : w0.grownBy w5 none := by rw [hw5]; exact grown_drew (World.grownBy_alloc w0 _ none)
    have K5 := cb_grown K0.out g5 (by simp)
    have R5 := cb_grown K1.out g5 (by simp)
    have B5 : Below S w w5 := B0.out.trans ⟨g5.os, g5.tape, g5.output, g5.size, fun b hb => g5.block b (by have := Z0.out; omega) (by simp)⟩
    have L5 : Rd ok w5 (blksD ks) [.slice ak nk ck] := Rd.keep (w := w) (fun b hb hlt => ⟨hb, B5.block b (HBO.out b hb)⟩) _ _ HRD.out
    rw [← hw5]
    have hS3 : S ≠ w0.heap.size := by omega
    have hS4 : S + 1 ≠ w0.heap.size := by have := Z0.out; omega
    have x0 := X5.cell 0 _ rfl
    have x1 := X5.cell 1 _ rfl
    have x2 := X5.cell 2 _ rfl
    have x3 := X5.cell 3 _ rfl
    have xf := cb_free X5
    have hx5 := X5.lt
    have y0 := R5.cell 0 _ rfl
    have y1 := R5.cell 1 _ rfl
    have y2 := R5.cell 2 _ rfl
    have y3 := R5.cell 3 _ rfl
    have yf := cb_free R5
    have hy5 := R5.lt
    have d0 := K5.cell 0 _ rfl
    have d10 := K5.cell 10 _ rfl
    by_cases h13 : k = 13
    · subst h13
      have CP := Lib.hid (r22caption_any ks (.slice ak nk ck) ok w5 L5)
      have HX5 := Lib.hid X5
      have HR5 := Lib.hid R5
      have HB5 := Lib.hid B5
      clear hw5 X5 g5 K5 R5 B5 L5 NU S0 k6
      go_wp2_with fail
      (with_reducible refine CP.out.mono ?_)
      rintro e w6' ⟨⟨vl, rfl, hl⟩, rfl⟩
      obtain ⟨al5, nl5, cl5, rfl⟩ := Rd.sl_form hl
      obtain ⟨w6, hw6⟩ : ∃ w6, w6 = w6'.setCell ⟨w0.heap.size, 3, none⟩ (.slice al5 nl5 cl5) := ⟨_, rfl⟩
      have X6 : CB 49 w0.heap.size [.string at_.id, .string kind, .string (decS n), .slice al5 nl5 cl5] w6 := by rw [hw6]; exact cb_set HX5.out 3 _
      have f6 : ∀ b, b ≠ w0.heap.size → w6.heap[b]? = w6'.heap[b]? := fun b hb => by rw [hw6]; exact Below.heap_setCell w6' ⟨w0.heap.size, 3, none⟩ _ b hb
      have R6 : CB 49 (S + 1) [.string ⟨#[]⟩, .string ⟨#[]⟩, .string ⟨#[]⟩, .slice none 0 0] w6 := (f6 _ hS4).trans HR5.out
      have B6 : Below S w w6 := by rw [hw6]; exact HB5.out.setCell (p := ⟨w0.heap.size, 3, none⟩) (by show S ≤ w0.heap.size; omega) _
      have L6 : Rd ok w6 (inlsD (oneLn 13 ks)) [.slice al5 nl5 cl5] := by
        show Rd ok w6 (inlsD (if (13 : Int) = 13 then capL ks else [])) _
        rw [if_pos rfl]
        exact Rd.keep (fun b hb _ => ⟨hb, f6 b (by have := HBO.out b hb; omega)⟩) _ _ hl
      have HW6 := Lib.hid hw6
      clear hw6 f6 hl x0 x1 x2 y0 y1 y2 y3 yf hy5 d0 d10
      go_upto_region 4 with (fail)
      rw [← HW6.out]
      clear HW6 x3 xf hx5
      have x0 := X6.cell 0 _ rfl
      have x1 := X6.cell 1 _ rfl
      have x2 := X6.cell 2 _ rfl
      have x3 := X6.cell 3 _ rfl
      have y0 := R6.cell 0 _ rfl
      have y1 := R6.cell 1 _ rfl
      have y2 := R6.cell 2 _ rfl
      have y3 := R6.cell 3 _ rfl
      have yf := cb_free R6
      have hy6 := R6.lt
      clear X6
      obtain ⟨w7, hw7⟩ : ∃ w7, w7 = (((w6.setCell ⟨S + 1, 0, none⟩ (.string at_.id)).setCell ⟨S + 1, 1, none⟩ (.string kind)).setCell ⟨S + 1, 2, none⟩ (.string (decS n))).setCell ⟨S + 1, 3, none⟩ (.slice al5 nl5 cl5) := ⟨_, rfl⟩
      have HC7 : Hid (CB 49 (S + 1) [.string at_.id, .string kind, .string (decS n), .slice al5 nl5 cl5] w7) := by
        show CB _ _ _ _
        rw [hw7]
        exact cb_set (cb_set (cb_set (cb_set R6 0 _) 1 _) 2 _) 3 _
      have HB7 : Hid (Below w.heap.size w w7) := by
        show Below _ _ _
        rw [hw7, ← HS.out]
        exact ((((B6.setCell (p := ⟨S + 1, 0, none⟩) (Nat.le_succ S) _).setCell (p := ⟨S + 1, 1, none⟩) (Nat.le_succ S) _).setCell (p := ⟨S + 1, 2, none⟩) (Nat.le_succ S) _).setCell (p := ⟨S + 1, 3, none⟩) (Nat.le_succ S) _)
      have HL7 : Hid (Rd ok w7 (inlsD (oneLn 13 ks)) [.slice al5 nl5 cl5]) := Rd.keep (w := w6) (w' := w7) (fun b hb hlt => ⟨hb, by
        have hne : b ≠ S + 1 := by have := HBO.out b hb; omega
        rw [hw7, Below.heap_setCell _ ⟨S + 1, 3, none⟩ _ b hne, Below.heap_setCell _ ⟨S + 1, 2, none⟩ _ b hne, Below.heap_setCell _ ⟨S + 1, 1, none⟩ _ b hne, Below.heap_setCell _ ⟨S + 1, 0, none⟩ _ b hne]⟩) _ _ L6
      have HW7 := Lib.hid hw7
      clear hw7 R6 L6 B6
      go_wp2
      rw [← HW7.out]
      have r0 := HC7.out.cell 0 _ rfl
      have r1 := HC7.out.cell 1 _ rfl
      have r2 := HC7.out.cell 2 _ rfl
      have r3 := HC7.out.cell 3 _ rfl
      exact bodyPost_ret (v := .agg #[.string at_.id, .string kind, .string (decS n), .slice al5 nl5 cl5]) (by simp [results, Tryz.results98, go_sem, r0, r1, r2, r3]) rfl ⟨_, rfl, HL7.out, HB7.out⟩
    · have q13 := beq_eq_false_iff_ne.2 h13
      have L6 : Rd ok w5 (inlsD (oneLn k ks)) [.slice none 0 0] := by
        unfold oneLn
        rw [if_neg h13]
        exact Rd.nil_mk _ _ _
      have R6 := R5
      have B6 := B5
      clear hw5 X5 g5 K5 R5 B5 L5 NU S0 k6 h13
      obtain ⟨w7, hw7⟩ : ∃ w7, w7 = (((w5.setCell ⟨S + 1, 0, none⟩ (.string at_.id)).setCell ⟨S + 1, 1, none⟩ (.string kind)).setCell ⟨S + 1, 2, none⟩ (.string (decS n))).setCell ⟨S + 1, 3, none⟩ (.slice none 0 0) := ⟨_, rfl⟩
      have HC7 : Hid (CB 49 (S + 1) [.string at_.id, .string kind, .string (decS n), .slice none 0 0] w7) := by
        show CB _ _ _ _
        rw [hw7]
        exact cb_set (cb_set (cb_set (cb_set R6 0 _) 1 _) 2 _) 3 _
      have HB7 : Hid (Below w.heap.size w w7) := by
        show Below _ _ _
        rw [hw7, ← HS.out]
        exact ((((B6.setCell (p := ⟨S + 1, 0, none⟩) (Nat.le_succ S) _).setCell (p := ⟨S + 1, 1, none⟩) (Nat.le_succ S) _).setCell (p := ⟨S + 1, 2, none⟩) (Nat.le_succ S) _).setCell (p := ⟨S + 1, 3, none⟩) (Nat.le_succ S) _)
      have HL7 : Hid (Rd ok w7 (inlsD (oneLn k ks)) [.slice none 0 0]) := Rd.keep (w := w5) (w' := w7) (fun b hb hlt => ⟨hb, by
        have hne : b ≠ S + 1 := by have := HBO.out b hb; omega
        rw [hw7, Below.heap_setCell _ ⟨S + 1, 3, none⟩ _ b hne, Below.heap_setCell _ ⟨S + 1, 2, none⟩ _ b hne, Below.heap_setCell _ ⟨S + 1, 1, none⟩ _ b hne, Below.heap_setCell _ ⟨S + 1, 0, none⟩ _ b hne]⟩) _ _ L6
      have HW7 := Lib.hid hw7
      clear hw7 R6 L6 B6
      go_wp2
      rw [← HW7.out]
      have r0 := HC7.out.cell 0 _ rfl
      have r1 := HC7.out.cell 1 _ rfl
      have r2 := HC7.out.cell 2 _ rfl
      have r3 := HC7.out.cell 3 _ rfl
      exact bodyPost_ret (v := .agg #[.string at_.id, .string kind, .string (decS n), .slice none 0 0]) (by simp [results, Tryz.results98, go_sem, r0, r1, r2, r3]) rfl ⟨_, rfl, HL7.out, HB7.out⟩
end Go.Proofs.YtlbioncagkkkoaaGreatDoor
