/- Contract of (*count.levels).next: the counters of sections go up, and the value of the section. Contract of count.Numbers$1: the count of a kind goes up. What the closures of count.Numbers share, and how the steps of a round change it. Contracts of toc.levelOf and of the test of toc.Of. Contracts of the parts of publisherref22: num, in, kind, caption, value, counters. -/
import Derived.Test.YtlbioncagkkkoaaGreatDoorKRtG
import Derived.Test.YtlbioncagkkkoaaGreatDoorKSlugAll
import Derived.Test.YtlbioncagkkkoaaGreatDoorKShelf
import Derived.Test.YtlbioncagkkkoaaGreatDoorKEnW
import Derived.Deep.RegionHeld3
import Derived.BigQuiet
import Derived.Deep.QuietTactic
import Derived.BigGuardPart
namespace Go.Proofs.YtlbioncagkkkoaaGreatDoor
open Go.RowKit
set_option linter.unusedVariables false
set_option linter.unusedSimpArgs false

def upI (c : List Nat) (k i : Nat) : Nat := if i + 1 < k then max (c.getD i 0) 1 else if i + 1 = k then c.getD i 0 + 1 else 0
/-- The counters, the first i of them gone up. -/
def midC (c : List Nat) (k i : Nat) : List Nat := (List.range 6).map fun j => if j < i then upI c k j else c.getD j 0
theorem midC_zero (c : List Nat) (k : Nat) (h : c.length = 6) : midC c k 0 = c := by
  match c, h with
  | [a0, a1, a2, a3, a4, a5], _ => rfl
theorem midC_six (c : List Nat) (k : Nat) : midC c k 6 = cntUp c k := by
  unfold midC cntUp upI
  apply List.map_congr_left
  intro j hj
  rw [List.mem_range] at hj
  rw [if_pos hj]
theorem midC_len (c : List Nat) (k i : Nat) : (midC c k i).length = 6 := by unfold midC; simp
theorem midC_get (c : List Nat) (k i : Nat) (h : i < 6) : (midC c k i)[i]? = some (c.getD i 0) := by
  unfold midC
  rw [List.getElem?_map, List.getElem?_range h]
  simp
theorem midC_set (c : List Nat) (k i : Nat) (h : i < 6) : (midC c k i).set i (upI c k i) = midC c k (i + 1) := by
  apply List.ext_getElem?
  intro j
  rw [List.getElem?_set]
  have hl := midC_len c k i
  by_cases e : i = j
  · subst e
    rw [if_pos rfl, if_pos (by omega)]
    unfold midC
    rw [List.getElem?_map, List.getElem?_range h]
    simp
  · rw [if_neg e]
    unfold midC
    rw [List.getElem?_map, List.getElem?_map]
    by_cases hj : j < 6
    · rw [List.getElem?_range hj]
      simp only [Option.map_some]
      by_cases h1 : j < i
      · rw [if_pos h1, if_pos (by omega)]
      · rw [if_neg h1, if_neg (by omega)]
    · rw [List.getElem?_eq_none (by simp; omega)]; rfl
/-- The texts of the first n counters. -/
def partsC (c : List Nat) (k n : Nat) : List ByteArray := (List.range n).map fun j => decS (upI c k j)
theorem partsC_succ (c : List Nat) (k n : Nat) : partsC c k (n + 1) = partsC c k n ++ [decS (upI c k n)] := by
  unfold partsC; rw [List.range_succ, List.map_append]; rfl
theorem partsC_len (c : List Nat) (k n : Nat) : (partsC c k n).length = n := by unfold partsC; simp
theorem join_dot : ∀ (l : List (List UInt8)), Lib.join l [46] = dotL l
  | [] => rfl
  | [x] => by simp [Lib.join, dotL]
  | x :: y :: l => by
    have := join_dot (y :: l)
    simp only [Lib.join, dotL] at this ⊢
    simp [this]
theorem partsC_all (c : List Nat) (k : Nat) (h : k ≤ 6) : (partsC c k k).map (·.data.toList) = ((cntUp c k).take k).map Lib.decDigits := by
  unfold partsC cntUp upI decS
  rw [← List.map_take, List.take_range, Nat.min_eq_left h]
  simp
theorem dotL_len : ∀ (l : List (List UInt8)) (n : Nat), (∀ x ∈ l, x.length ≤ n) → (dotL l).length ≤ l.length * (n + 1)
  | [], _, _ => by simp [dotL]
  | [x], n, h => by have := h x (by simp); simp [dotL]; omega
  | x :: y :: l, n, h => by
    have h1 := h x (by simp)
    have h2 := dotL_len (y :: l) n (fun z hz => h z (by simp [hz]))
    simp only [dotL, List.length_append, List.length_cons] at h2 ⊢
    rw [Nat.add_mul]
    omega
theorem PT.grown {w w' : World} {row : Option Nat} (h : PT w) (hg : w.grownBy w' row) (hne : some 1 ≠ row) : PT w' := by
  refine ⟨Nat.lt_of_lt_of_le h.1 hg.size, ?_⟩
  have hgl : Tryz.prog.globalNamed "internal/strconv.uint64pow10" = some 1 := by kernel_rfl
  have h2 := h.2
  unfold Lib.TabIs World.var? at h2 ⊢
  rw [hgl] at h2 ⊢
  simp only [Option.bind_some] at h2 ⊢
  rw [hg.block _ h.1 hne]
  exact h2
theorem lvl_int (lv : Int) : max 1 (min lv 6) = ((lvlOf lv : Nat) : Int) := by unfold lvlOf; split <;> (try split) <;> omega
theorem lvl_bd (lv : Int) : 1 ≤ lvlOf lv ∧ lvlOf lv ≤ 6 := by unfold lvlOf; split <;> (try split) <;> omega
def intC (c : List Nat) : List Value := c.map fun (n : Nat) => .int .i64 (n : Int)
theorem intC_get (c : List Nat) (i : Nat) (n : Nat) (h : c[i]? = some n) : (intC c)[i]? = some (.int .i64 (n : Int)) := by unfold intC; rw [List.getElem?_map, h]; rfl
theorem intC_set (c : List Nat) (i n : Nat) : (intC c).set i (.int .i64 (n : Int)) = intC (c.set i n) := by unfold intC; rw [List.map_set]
theorem cb_free {T : TypeId} {p : Nat} {cs : List Value} {w : World} (h : CB T p cs w) (j : Nat) : w.frozen? ⟨p, j, none⟩ = false := by
  unfold CB at h
  simp [World.frozen?, h]
theorem cb_set {T : TypeId} {p : Nat} {cs : List Value} {w : World} (h : CB T p cs w) (j : Nat) (u : Value) : CB T p (cs.set j u) (w.setCell ⟨p, j, none⟩ u) := by
  unfold CB at h ⊢
  simp [World.setCell, Array.getElem?_modify, h]
theorem cb_grown {T : TypeId} {p : Nat} {cs : List Value} {w w' : World} (h : CB T p cs w) {row : Option Nat} (hg : w.grownBy w' row) (hne : some p ≠ row) : CB T p cs w' := (hg.block p h.lt hne).trans h

/-- m texts are written, i counters have gone up. -/
structure NxB (T : TypeId) (p : Nat) (c : List Nat) (k m i : Nat) (w : World) (v : Value) (wr : World) : Prop where
  own : wr.ownsRow w.heap.size 9 1 v m ((partsC c k m).map Value.string)
  cb : CB T p (intC (midC c k i)) wr
  gr : w.grownBy wr (some p)
section
variable {T : TypeId} {p : Nat} {c : List Nat} {k m i : Nat} {w wr w' : World} {v v' : Value}
theorem NxB.ne (h : NxB T p c k m i w v wr) (hp : p < w.heap.size) : v.ownBlock ≠ some p := fun e => by have := (h.own.lt p e).1; omega
theorem NxB.set (h : NxB T p c k m i w v wr) (hp : p < w.heap.size) (hi : i < 6) (y : Nat) (hy : upI c k i = y) : NxB T p c k m (i + 1) w v (wr.setCell ⟨p, i, none⟩ (.int .i64 (y : Int))) := by
  refine ⟨own_set h.own _ _ (h.ne hp), ?_, ?_⟩
  · have := cb_set h.cb i (.int .i64 (y : Int))
    rw [intC_set, ← hy, midC_set c k i hi] at this
    rw [← hy]; exact this
  · have hg := h.gr
    refine ⟨hg.os, hg.tape, hg.output, by simpa [World.setCell] using hg.size, fun b hb hne => ?_⟩
    exact (Below.heap_setCell wr ⟨p, i, none⟩ _ b (fun e => hne (by rw [e]))).trans (hg.block b hb hne)
theorem NxB.drew (h : NxB T p c k m i w v wr) : NxB T p c k m i w v wr.drew := ⟨h.own.drew, h.cb, ⟨h.gr.os, h.gr.tape, h.gr.output, h.gr.size, h.gr.block⟩⟩
theorem NxB.below (h : NxB T p c k m i w v wr) (hb : Below wr.heap.size wr w') : NxB T p c k m i w v w' :=
  ⟨own_below h.own hb, h.cb.below hb, ⟨hb.os.trans h.gr.os, hb.tape.trans h.gr.tape, hb.output.trans h.gr.output, Nat.le_trans h.gr.size hb.size, fun b hlt hne => (hb.block b (Nat.lt_of_lt_of_le hlt h.gr.size)).trans (h.gr.block b hlt hne)⟩⟩
theorem NxB.pt (h : NxB T p c k m i w v wr) (hT : PT w) (hp : p ≠ 1) : PT wr := hT.grown h.gr (fun e => hp (Option.some.inj e).symm)
theorem NxB.put (h : NxB T p c k m i w v wr) (hp : p < w.heap.size) {o : Obj} (hg : (wr.alloc o).grownBy w' v.ownBlock) (y : Nat) (hy : upI c k m = y) (ho : w'.ownsRow w.heap.size 9 1 v' (m + 1) ((partsC c k m).map Value.string ++ [.string (decS y)])) : NxB T p c k (m + 1) i w v' w' := by
  refine ⟨?_, cb_grown (cb_grown h.cb (World.grownBy_alloc _ _ none) (by simp)) hg (fun e => h.ne hp e.symm), ?_⟩
  · rw [partsC_succ, hy, List.map_append]; exact ho
  · have g1 := h.gr
    refine ⟨hg.os.trans g1.os, hg.tape.trans g1.tape, hg.output.trans g1.output, Nat.le_trans g1.size (Nat.le_trans (by simp) hg.size), fun b hlt hne => ?_⟩
    have hb : b < wr.heap.size := Nat.lt_of_lt_of_le hlt g1.size
    rw [hg.block b (by simp; omega) (fun e => by have := (h.own.lt b e.symm).1; omega)]
    exact ((World.grownBy_alloc wr o none).block b hb (by simp)).trans (g1.block b hlt hne)
end
/-- strings.Join at a slice of texts. -/
theorem join_any (xs : List ByteArray) (sep : ByteArray) (v : Value) (w : World) (h : Sees w 1 v xs.length (xs.map Value.string)) (hl : (Lib.join (xs.map (·.data.toList)) sep.data.toList).length ≤ 140737488355328) (hn : xs.length ≤ 140737488355328) :
    Calls Tryz.prog 81 #[v, .string sep] w fun e w' => e = .returned (.string ⟨(Lib.join (xs.map (·.data.toList)) sep.data.toList).toArray⟩) ∧ Below w.heap.size w w' := by
  obtain ⟨-, a, cap, rfl, hcap, hmx, hcs⟩ := h
  by_cases h0 : xs = []
  · subst h0
    refine (Tryz.strings_Join_none a cap sep w).mono ?_
    rintro e w' ⟨rfl, rfl⟩
    exact ⟨rfl, Below.refl _ _⟩
  · have hx : 0 < xs.length := List.length_pos_iff.2 h0
    rcases hcs with h1 | ⟨b, off, rfl, hc⟩
    · omega
    · refine Tryz.strings_Join b off cap xs sep w (fun j x hj => ?_) ?_ hn (by omega) hl
      · have := hc j (.string x) (by rw [List.getElem?_map, hj]; rfl)
        simpa using this
      · obtain ⟨x, hj⟩ : ∃ x, xs[0]? = some x := ⟨_, List.getElem?_eq_getElem hx⟩
        exact cell_lt (hc 0 (.string x) (by rw [List.getElem?_map, hj]; rfl))
theorem upI_bd (c : List Nat) (k i : Nat) (h : ∀ i, c.getD i 0 ≤ 999999) : upI c k i ≤ 1000000 := by
  have := h i
  unfold upI; split
  · omega
  · split <;> omega
/-- The value of a section out of its parts. -/
theorem parts_val (c : List Nat) (K : Nat) (h : K ≤ 6) (hb : ∀ i, c.getD i 0 ≤ 999999) : (⟨(Lib.join ((partsC c K K).map (·.data.toList)) (⟨#[46]⟩ : ByteArray).data.toList).toArray⟩ : ByteArray) = valS (cntUp c K) K ∧ (Lib.join ((partsC c K K).map (·.data.toList)) (⟨#[46]⟩ : ByteArray).data.toList).length ≤ 140737488355328 := by
  have e : (⟨#[46]⟩ : ByteArray).data.toList = [46] := rfl
  rw [e, join_dot]
  constructor
  · rw [partsC_all c K h]; rfl
  · refine Nat.le_trans (dotL_len _ 1000001 ?_) ?_
    · intro x hx
      obtain ⟨y, hy, rfl⟩ := List.mem_map.1 hx
      unfold partsC at hy
      obtain ⟨j, -, rfl⟩ := List.mem_map.1 hy
      have h1 := upI_bd c K j hb
      have h2 := dec_len (upI c K j)
      show (Lib.decDigits (upI c K j)).toArray.toList.length ≤ _
      simp only []
      omega
    · rw [List.length_map, partsC_len]; omega
/-- At the head of the loop. -/
def Nx1 (T : TypeId) (p : Nat) (c : List Nat) (k : Nat) (w : World) (vi v : Value) (wr : World) : Prop :=
  ∃ i : Nat, i ≤ 6 ∧ vi = .int .i64 (i : Int) ∧ NxB T p c k (min i k) i w v wr

set_option maxRecDepth 100000 in
set_option maxHeartbeats 4000000 in
theorem next_any (T : TypeId) (p : Nat) (c : List Nat) (lv : Int) (w : World) (hc6 : c.length = 6) (hcb : ∀ i, c.getD i 0 ≤ 999999)
    (hCB : CB T p (intC c) w) (hPT : PT w) (hp : p ≠ 1) :
    Calls Tryz.prog 49 #[.pointer (some ⟨p, 0, none⟩), .int .i64 lv] w fun e w' => e = .returned (.string (valS (cntUp c (lvlOf lv)) (lvlOf lv))) ∧ CB T p (intC (cntUp c (lvlOf lv))) w' ∧ w.grownBy w' (some p) := by
  obtain ⟨i0, hi, hz0, hz1, hz2⟩ := info_parts infoS
  obtain ⟨hk1, hk6⟩ := lvl_bd lv
  have hlv := lvl_int lv
  generalize lvlOf lv = K at *
  have HCB := Lib.hid hCB
  have HPT := Lib.hid hPT
  have HB := Lib.hid hcb
  have HC6 := Lib.hid hc6
  have hpl := hCB.lt
  have HNP := Lib.hid hp
  clear hCB hPT hcb hc6 hp
  go_enter Tryz.func49, Tryz.ntmps49
  go_wp2_with (at_make; refine wpList_make_own _ rfl _ _ 40 rfl w.heap.size 9 i0 (.string ByteArray.empty) 1 Tryz.underlying40 hi hz0 hz1 .i64 .i64 _ K rfl rfl rfl ?m1 ?m2 ?m3 ?_)
  case m1 => rw [hz2]; omega
  case m2 => unfold maxLen; omega
  case m3 => omega
  intro w2 hown2 hg2
  have A0 : Hid (Nx1 T p c K w (.int .i64 0) (.slice (some ⟨w.heap.size, 0, none⟩) 0 K) w2) := by
    refine ⟨0, by omega, rfl, ?_, ?_, ?_⟩
    · rw [Nat.zero_min]; exact hown2
    · rw [midC_zero c K HC6.out]; exact cb_grown HCB.out hg2 (by simp)
    · exact ⟨hg2.os, hg2.tape, hg2.output, hg2.size, fun j hj _ => hg2.block j hj (by simp)⟩
  clear hown2 hg2
  go_wp2
  go_loopw [13, 6] (fun vi v wr => Nx1 T p c K w vi v wr) (fun i _ _ => 6 - (intOf i).toNat)
  case atStart => exact A0.out
  case round =>
    obtain ⟨i, hi6, rfl, hnx⟩ := hrel
    have NX := Lib.hid hnx
    have hsz := hnx.gr.size
    clear A0 hnx
    by_cases hlt : i < 6
    · have hx := HB.out i
      have c0 := NX.out.cb.cell i _ (intC_get _ _ _ (midC_get c K i hlt))
      have f0 := cb_free NX.out.cb i
      have hU : upI c K i = if i + 1 < K then max (c.getD i 0) 1 else if i + 1 = K then c.getD i 0 + 1 else 0 := rfl
      generalize c.getD i 0 = x at *
      by_cases h1 : i + 1 < K
      · rw [if_pos h1] at hU
        obtain ⟨y, hy⟩ : ∃ y, y = max x 1 := ⟨_, rfl⟩
        have hy2 : max (x : Int) 1 = (y : Int) := by omega
        have hyb : y ≤ 1000000 := by omega
        rw [← hy] at hU
        have HU := Lib.hid hU
        have N3 := Lib.hid (NX.out.set hpl hlt y hU).drew
        clear hU hy
        go_wp2
        go_region
        go_wp2_with fail
        refine (itoa_any y _ hyb (N3.out.pt HPT.out HNP.out)).mono ?_
        rintro e w4 ⟨rfl, b4⟩
        have N4 := Lib.hid (N3.out.below b4)
        have hm : min i K = i := by omega
        have hm2 : min (i + 1) K = i + 1 := by omega
        rw [hm] at N4
        have hown4 := N4.out.own
        have hsz4 := N4.out.gr.size
        clear b4 N3 NX c0 f0
        go_wp2_with (at_builtin; refine wpList_append_own _ rfl _ _ 40 rfl w.heap.size 9 i0 (.string ByteArray.empty) 1 16 Tryz.underlying40 hi hz0 hz1 hz2 rfl (by decide) _ _ _ rfl (hown4.alloc _) ⟨_, 0, none⟩ 1 1 [.string (decS y)] rfl rfl ?c1 ?c2 ?c3 ?c4 ?c5 ?_)
        case c1 => exact new_one _ _ _
        case c2 => intro u hu; simp at hu; subst hu; rfl
        case c3 => unfold maxLen; omega
        case c4 => omega
        case c5 => simp; omega
        intro v' w6 hown' hgrow _
        have N6 := Lib.hid (N4.out.put hpl hgrow y HU.out (by first | exact hown' | (rw [h2]; exact hown')))
        clear hown' hgrow hown4 N4
        go_wp2
        go_roundw
        case rel => exact ⟨i + 1, by omega, by go_num, hm2.symm ▸ N6.out⟩
        case measure => simp [intOf]; omega
      · rw [if_neg h1] at hU
        by_cases h2 : i + 1 = K
        · rw [if_pos h2] at hU
          have HU := Lib.hid hU
          have N3 := Lib.hid (NX.out.set hpl hlt (x + 1) hU).drew
          have hyb : x + 1 ≤ 1000000 := by omega
          obtain ⟨y, hy⟩ : ∃ y, y = x + 1 := ⟨_, rfl⟩
          have hy2 : (x : Int) + 1 = (y : Int) := by omega
          rw [← hy] at HU N3 hyb
          clear hU hy
          go_wp2
          go_region
          go_wp2_with fail
          refine (itoa_any y _ hyb (N3.out.pt HPT.out HNP.out)).mono ?_
          rintro e w4 ⟨rfl, b4⟩
          have N4 := Lib.hid (N3.out.below b4)
          have hm : min i K = i := by omega
          have hm2 : min (i + 1) K = i + 1 := by omega
          rw [hm] at N4
          have hown4 := N4.out.own
          have hsz4 := N4.out.gr.size
          clear b4 N3 NX c0 f0
          go_wp2_with (at_builtin; refine wpList_append_own _ rfl _ _ 40 rfl w.heap.size 9 i0 (.string ByteArray.empty) 1 16 Tryz.underlying40 hi hz0 hz1 hz2 rfl (by decide) _ _ _ rfl (hown4.alloc _) ⟨_, 0, none⟩ 1 1 [.string (decS y)] rfl rfl ?c1 ?c2 ?c3 ?c4 ?c5 ?_)
          case c1 => exact new_one _ _ _
          case c2 => intro u hu; simp at hu; subst hu; rfl
          case c3 => unfold maxLen; omega
          case c4 => omega
          case c5 => simp; omega
          intro v' w6 hown' hgrow _
          have N6 := Lib.hid (N4.out.put hpl hgrow y HU.out (by first | exact hown' | (rw [h2]; exact hown')))
          clear hown' hgrow hown4 N4
          go_wp2
          go_roundw
          case rel => exact ⟨i + 1, by omega, by go_num, hm2.symm ▸ N6.out⟩
          case measure => simp [intOf]; omega
        · rw [if_neg h2] at hU
          have N3 := Lib.hid (NX.out.set hpl hlt 0 hU)
          have hm : min (i + 1) K = min i K := by omega
          have N4 := Lib.hid (show NxB T p c K (min (i + 1) K) (i + 1) w _ _ from hm ▸ N3.out)
          clear hU N3
          go_wp2
          go_roundw
          case rel => exact ⟨i + 1, by omega, by go_num, N4.out⟩
          case measure => simp [intOf]; omega
    · have hm : min i K = K := by omega
      have h6 : i = 6 := by omega
      rw [hm, h6] at NX
      obtain ⟨av, cv, rfl⟩ := own_slice NX.out.own
      have hpv := parts_val c K hk6 HB.out
      have HJ := Lib.hid (join_any (partsC c K K) ⟨#[46]⟩ (.slice av K cv) wr (by rw [partsC_len]; exact Sees.of_own NX.out.own) hpv.2 (by rw [partsC_len]; omega))
      rw [hpv.1] at HJ
      have HC := Lib.hid (midC_six c K ▸ NX.out.cb)
      have HG := Lib.hid NX.out.gr
      clear hpv NX hm h6 HB
      go_wp2_with fail
      refine HJ.out.mono ?_
      rintro e w4 ⟨rfl, b4⟩
      have B4 := Lib.hid b4
      clear b4 HJ
      go_wp2
      go_ret
      refine ⟨rfl, HC.out.below B4.out, ?_⟩
      have hb := B4.out
      have g := HG.out
      exact ⟨hb.os.trans g.os, hb.tape.trans g.tape, hb.output.trans g.output, Nat.le_trans g.size hb.size, fun b hlt hne => (hb.block b (Nat.lt_of_lt_of_le hlt g.size)).trans (g.block b hlt hne)⟩
end Go.Proofs.YtlbioncagkkkoaaGreatDoor

namespace Go.Proofs.YtlbioncagkkkoaaGreatDoor
open Go.RowKit
set_option linter.unusedVariables false
set_option linter.unusedSimpArgs false

set_option maxRecDepth 100000 in
set_option maxHeartbeats 4000000 in
theorem count1_any (key : ByteArray) (pb b n m : Nat) (f : ByteArray → Int) (w : World) (hk : key.size ≤ 1000) (hc : w.cell? ⟨pb, 0, none⟩ = some (.map (some b))) (hN : NumAt w b n f) (hf : f key = (m : Int)) (hm : m ≤ 999999) (hn : n < maxLen)
    (hPT : PT w) (hb : b ≠ 1) (hpb : pb ≠ b) :
    Calls Tryz.prog 45 #[.string key, .pointer (some ⟨pb, 0, none⟩)] w fun e w' => e = .returned (.string (decS (m + 1))) ∧ NumAt w' b (n + 1) (fun t => if t = key then ((m + 1 : Nat) : Int) else f t) ∧ w.grownBy w' (some b) := by
  have hks : key.size ≤ maxLen := by unfold maxLen; omega
  have hl := hN.look key hks
  rw [hf] at hl
  obtain ⟨w1, hup, hN1, hg1⟩ := hN.put key ((m + 1 : Nat) : Int) hks hn (WalkArith.wf_i64 (by omega))
  have hc1 : w1.cell? ⟨pb, 0, none⟩ = some (.map (some b)) := grown_cell hg1 hc (fun e => hpb (Option.some.inj e).symm)
  have hl1 := hN1.look key hks
  rw [if_pos rfl] at hl1
  have IT := Lib.hid (itoa_any (m + 1) w1 (by omega) (hPT.grown hg1 (fun e => hb (Option.some.inj e).symm)))
  have HN1 := Lib.hid hN1
  have HG := Lib.hid hg1
  have hcast : (m : Int) + 1 = ((m + 1 : Nat) : Int) := by omega
  clear hN hf hPT hN1 hg1
  generalize hy : m + 1 = y at *
  clear hy
  unfold maxLen at hks hn
  go_enter Tryz.func45, Tryz.ntmps45
  go_wp2_with fail
  refine IT.out.mono ?_
  rintro e w2 ⟨rfl, b2⟩
  have B2 := Lib.hid b2
  clear b2 IT hl hl1 hup hc hc1
  go_wp2
  go_ret
  refine ⟨rfl, HN1.out.below B2.out, ?_⟩
  have hb2 := B2.out
  have g := HG.out
  exact ⟨hb2.os.trans g.os, hb2.tape.trans g.tape, hb2.output.trans g.output, Nat.le_trans g.size hb2.size, fun b hlt hne => (hb2.block b (Nat.lt_of_lt_of_le hlt g.size)).trans (g.block b hlt hne)⟩
end Go.Proofs.YtlbioncagkkkoaaGreatDoor

namespace Go.Proofs.YtlbioncagkkkoaaGreatDoor
open Go.RowKit
set_option linter.unusedVariables false
set_option linter.unusedSimpArgs false

/-- Where the boxes lie, and of which types they are. -/
structure Pk where
  pO : Nat
  pS : Nat
  pM : Nat
  pC : Nat
  pK : Nat
  pV : Nat
  N : Nat
  tO : TypeId
  tS : TypeId
  tC : TypeId
  tK : TypeId
  tV : TypeId
def Pk.ok (q : Pk) (B : Nat) : Prop := B ≤ q.pO ∧ 1 < q.pO ∧ q.pO < q.pS ∧ q.pS < q.pM ∧ q.pM < q.pC ∧ q.pC < q.pK ∧ q.pK < q.pV ∧ q.pV < q.N
def Pk.cnt (q : Pk) : Value := .func (.func 45) #[] #[.pointer (some ⟨q.pC, 0, none⟩)]
def Pk.vis (q : Pk) : Value := .func (.func 47) #[] #[.pointer (some ⟨q.pS, 0, none⟩), .pointer (some ⟨q.pK, 0, none⟩), .pointer (some ⟨q.pO, 0, none⟩), .pointer (some ⟨q.pV, 0, none⟩)]
/-- All counts are at most M. -/
structure NsB (s : Ns) (M nn : Nat) : Prop where
  c : ∀ i, s.c.getD i 0 ≤ M
  f : s.f ≤ M
  t : s.t ≤ M
  e : s.e ≤ M
  o : s.out.length ≤ M
  n : nn ≤ M
theorem NsB.mono {s : Ns} {M M' nn : Nat} (h : NsB s M nn) (hm : M ≤ M') : NsB s M' nn := ⟨fun i => Nat.le_trans (h.c i) hm, Nat.le_trans h.f hm, Nat.le_trans h.t hm, Nat.le_trans h.e hm, Nat.le_trans h.o hm, Nat.le_trans h.n hm⟩
def FnOk (s : Ns) (f : ByteArray → Int) : Prop := f figS = (s.f : Int) ∧ f tabS = (s.t : Int) ∧ f equS = (s.e : Int) ∧ f notS = 0
/-- What the closures share: the counters, and the numbers so far. The data of the numbers lie in [N, U). -/
structure NuB (q : Pk) (B U : Nat) (s : Ns) (v : Value) (nn : Nat) (rows : List (List Value)) (wr : World) : Prop where
  sec : CB q.tS q.pS (intC s.c) wr
  num : ∃ f, NumAt wr q.pM nn f ∧ FnOk s f
  bC : CB q.tC q.pC [.map (some q.pM)] wr
  bK : CB q.tK q.pK [q.cnt] wr
  bV : CB q.tV q.pV [q.vis] wr
  bO : CB q.tO q.pO [v] wr
  own : wr.ownsRow q.N 49 4 v s.out.length rows.flatten
  red : RdL (fun b => q.N ≤ b ∧ v.ownBlock ≠ some b ∧ b < U) wr (s.out.map Nm.d) rows
  len : ∀ r ∈ rows, r.length = 4
  c6 : s.c.length = 6
  ltU : U ≤ wr.heap.size
  ltN : q.N ≤ U
  oU : ∀ g, v.ownBlock = some g → g < U
  pt : PT wr
section
variable {q : Pk} {B U : Nat} {s : Ns} {v : Value} {nn : Nat} {rows : List (List Value)} {wr w' : World}
theorem NuB.up (h : NuB q B U s v nn rows wr) {U' : Nat} (h1 : U ≤ U') (h2 : U' ≤ wr.heap.size) : NuB q B U' s v nn rows wr :=
  { h with red := RdL.keep (fun b hb _ => ⟨⟨hb.1, hb.2.1, by omega⟩, rfl⟩) _ _ h.red, ltU := h2, ltN := Nat.le_trans h.ltN h1, oU := fun g hg => Nat.lt_of_lt_of_le (h.oU g hg) h1 }
theorem NuB.grown (h : NuB q B U s v nn rows wr) (hg : wr.grownBy w' none) : NuB q B U s v nn rows w' :=
  { sec := cb_grown h.sec hg (by simp), num := by obtain ⟨f, h1, h2⟩ := h.num; exact ⟨f, h1.kept hg (by simp), h2⟩
    bC := cb_grown h.bC hg (by simp), bK := cb_grown h.bK hg (by simp), bV := cb_grown h.bV hg (by simp), bO := cb_grown h.bO hg (by simp)
    own := h.own.kept hg (by cases v.ownBlock <;> simp), red := RdL.keep (fun b hb hlt => ⟨hb, hg.block b hlt (by simp)⟩) _ _ h.red
    len := h.len, c6 := h.c6, ltU := Nat.le_trans h.ltU hg.size, ltN := h.ltN, oU := h.oU, pt := h.pt.grown hg (by simp) }
theorem NuB.below (h : NuB q B U s v nn rows wr) (hb : Below wr.heap.size wr w') : NuB q B U s v nn rows w' := h.grown (grown_below hb)
theorem NuB.drew (h : NuB q B U s v nn rows wr) : NuB q B U s v nn rows wr.drew := h.grown ⟨rfl, rfl, rfl, Nat.le_refl _, fun _ _ _ => rfl⟩
theorem NuB.alloc (h : NuB q B U s v nn rows wr) (o : Obj) : NuB q B U s v nn rows (wr.alloc o) := h.grown (World.grownBy_alloc _ _ none)
/-- A store to a box of a round. -/
theorem NuB.set (h : NuB q B U s v nn rows wr) (ok : q.ok B) {p : Nat} (hp : U ≤ p) (j : Nat) (u : Value) : NuB q B U s v nn rows (wr.setCell ⟨p, j, none⟩ u) := by
  obtain ⟨o1, o2, o3, o4, o5, o6, o7, o8⟩ := ok
  have hN := h.ltN
  have far : ∀ b, b < U → (wr.setCell ⟨p, j, none⟩ u).heap[b]? = wr.heap[b]? := fun b hb => Below.heap_setCell wr ⟨p, j, none⟩ u b (by show b ≠ p; omega)
  have hk : wr.grownBy (wr.setCell ⟨p, j, none⟩ u) (some p) := ⟨rfl, rfl, rfl, by simp [World.setCell], fun b hb hne => Below.heap_setCell wr ⟨p, j, none⟩ u b (fun e => hne (by rw [e]))⟩
  exact
  { sec := (far _ (by omega)).trans h.sec, num := by obtain ⟨f, h1, h2⟩ := h.num; exact ⟨f, h1.kept hk (by intro e; have := Option.some.inj e; omega), h2⟩
    bC := (far _ (by omega)).trans h.bC, bK := (far _ (by omega)).trans h.bK, bV := (far _ (by omega)).trans h.bV, bO := (far _ (by omega)).trans h.bO
    own := own_set h.own ⟨p, j, none⟩ u (fun e => by have h9 : p < U := h.oU _ e; omega), red := RdL.keep (fun b hb hlt => ⟨hb, far b hb.2.2⟩) _ _ h.red
    len := h.len, c6 := h.c6, ltU := by have := h.ltU; simpa [World.setCell] using this, ltN := h.ltN, oU := h.oU, pt := h.pt.grown hk (by intro e; have := Option.some.inj e; omega) }
/-- The counters of sections go up. -/
theorem NuB.secs (h : NuB q B U s v nn rows wr) (ok : q.ok B) {c : List Nat} (hg : wr.grownBy w' (some q.pS)) (hc : CB q.tS q.pS (intC c) w') (h6 : c.length = 6) : NuB q B U { s with c := c } v nn rows w' := by
  obtain ⟨o1, o2, o3, o4, o5, o6, o7, o8⟩ := ok
  have hN := h.ltN
  have ne : ∀ p, p ≠ q.pS → some p ≠ some q.pS := fun p hp e => hp (Option.some.inj e)
  exact
  { sec := hc, num := by obtain ⟨f, h1, h2⟩ := h.num; exact ⟨f, h1.kept hg (ne _ (by omega)), h2⟩
    bC := cb_grown h.bC hg (ne _ (by omega)), bK := cb_grown h.bK hg (ne _ (by omega)), bV := cb_grown h.bV hg (ne _ (by omega)), bO := cb_grown h.bO hg (ne _ (by omega))
    own := h.own.kept hg (.inr (fun e => by have := (h.own.lt _ e).1; omega)), red := RdL.keep (fun b hb hlt => ⟨hb, hg.block b hlt (ne _ (by omega))⟩) _ _ h.red
    len := h.len, c6 := h6, ltU := Nat.le_trans h.ltU hg.size, ltN := h.ltN, oU := h.oU, pt := h.pt.grown hg (ne _ (by omega)) }
/-- A count of the map goes up. -/
theorem NuB.maps (h : NuB q B U s v nn rows wr) (ok : q.ok B) {s' : Ns} {f : ByteArray → Int} (hs : s'.c = s.c ∧ s'.out = s.out) (hg : wr.grownBy w' (some q.pM)) (hf : NumAt w' q.pM (nn + 1) f) (ho : FnOk s' f) : NuB q B U s' v (nn + 1) rows w' := by
  obtain ⟨o1, o2, o3, o4, o5, o6, o7, o8⟩ := ok
  have hN := h.ltN
  have ne : ∀ p, p ≠ q.pM → some p ≠ some q.pM := fun p hp e => hp (Option.some.inj e)
  exact
  { sec := by rw [hs.1]; exact cb_grown h.sec hg (ne _ (by omega)), num := ⟨f, hf, ho⟩
    bC := cb_grown h.bC hg (ne _ (by omega)), bK := cb_grown h.bK hg (ne _ (by omega)), bV := cb_grown h.bV hg (ne _ (by omega)), bO := cb_grown h.bO hg (ne _ (by omega))
    own := by rw [hs.2]; exact h.own.kept hg (.inr (fun e => by have := (h.own.lt _ e).1; omega)), red := by rw [hs.2]; exact RdL.keep (fun b hb hlt => ⟨hb, hg.block b hlt (ne _ (by omega))⟩) _ _ h.red
    len := h.len, c6 := by rw [hs.1]; exact h.c6, ltU := Nat.le_trans h.ltU hg.size, ltN := h.ltN, oU := h.oU, pt := h.pt.grown hg (ne _ (by omega)) }
theorem Nm.mk_ (x : Nm) {ok : Nat → Prop} {w : World} {vl : Value} (h : Rd ok w (inlsD x.line) [vl]) : Rd ok w x.d [.string x.id, .string x.kind, .string x.val, vl] :=
  Rd.st_mk (rows := [[.string x.id], [.string x.kind], [.string x.val], [vl]]) (RdL.cons (Rd.str_mk _ _ _) (RdL.cons (Rd.str_mk _ _ _) (RdL.cons (Rd.str_mk _ _ _) (RdL.one h))))
/-- A number is put behind the others. -/
theorem NuB.put (h : NuB q B U s v nn rows wr) (ok : q.ok B) {x : Nm} {vl v' : Value} {o : Obj} (hl : Rd (U ≤ ·) wr (inlsD x.line) [vl]) (hg : (wr.alloc o).grownBy w' v.ownBlock)
    (hown : w'.ownsRow q.N 49 4 v' (s.out.length + 1) (rows.flatten ++ [.string x.id, .string x.kind, .string x.val, vl])) (hat : v'.ownBlock = v.ownBlock ∨ v'.ownBlock = some (wr.heap.size + 1)) :
    NuB q B w'.heap.size { s with out := s.out ++ [x] } v' nn (rows ++ [[.string x.id, .string x.kind, .string x.val, vl]]) (w'.setCell ⟨q.pO, 0, none⟩ v') := by
  obtain ⟨o1, o2, o3, o4, o5, o6, o7, o8⟩ := ok
  have hN := h.ltN
  have hU := h.ltU
  have hs := hg.size
  rw [World.size_alloc] at hs
  have hlt : ∀ g, v.ownBlock = some g → q.N ≤ g ∧ g < U := fun g e => ⟨(h.own.lt g e).1, h.oU g e⟩
  have hh : ∀ b, b < wr.heap.size → v.ownBlock ≠ some b → w'.heap[b]? = wr.heap[b]? := fun b hb hne =>
    (hg.block b (by rw [World.size_alloc]; omega) (fun e => hne e.symm)).trans (Below.heap_alloc _ _ b hb)
  have fa : ∀ b, b ≠ q.pO → (w'.setCell ⟨q.pO, 0, none⟩ v').heap[b]? = w'.heap[b]? := fun b hb => Below.heap_setCell w' ⟨q.pO, 0, none⟩ v' b hb
  have fb : ∀ b, b < q.N → b ≠ q.pO → (w'.setCell ⟨q.pO, 0, none⟩ v').heap[b]? = wr.heap[b]? := fun b hb hne => (fa b hne).trans (hh b (by omega) (fun e => by have := hlt b e; omega))
  have hk : w'.grownBy (w'.setCell ⟨q.pO, 0, none⟩ v') (some q.pO) := ⟨rfl, rfl, rfl, by simp [World.setCell], fun b hb hne => fa b (fun e => hne (by rw [e]))⟩
  have ne : ∀ p, p ≠ q.pO → some p ≠ some q.pO := fun p hp e => hp (Option.some.inj e)
  have no : ∀ p, p < q.N → some p ≠ v.ownBlock := fun p hp e => by have := hlt p e.symm; omega
  have hvb : ∀ g, v'.ownBlock = some g → g < w'.heap.size := fun g e => (hown.lt g e).2
  have hO : CB q.tO q.pO [v] w' := (hh _ (by omega) (fun e => by have := hlt _ e; omega)).trans h.bO
  have hv' : ∀ b, b < wr.heap.size → v.ownBlock ≠ some b → v'.ownBlock ≠ some b := by
    intro b hb hne
    rcases hat with e | e
    · rw [e]; exact hne
    · rw [e]; intro h; have := Option.some.inj h; omega
  exact
  { sec := (fb _ (by omega) (by omega)).trans h.sec
    num := by obtain ⟨f, h1, h2⟩ := h.num; exact ⟨f, ((h1.kept (World.grownBy_alloc wr o none) (by simp)).kept hg (no _ (by omega))).kept hk (ne _ (by omega)), h2⟩
    bC := (fb _ (by omega) (by omega)).trans h.bC, bK := (fb _ (by omega) (by omega)).trans h.bK, bV := (fb _ (by omega) (by omega)).trans h.bV
    bO := cb_set hO 0 v'
    own := by
      rw [List.length_append, List.flatten_append]
      exact own_set (by simpa using hown) ⟨q.pO, 0, none⟩ v' (fun e => by have h9 : q.N ≤ q.pO := (hown.lt _ e).1; omega)
    red := by
      show RdL _ _ ((s.out ++ [x]).map Nm.d) _
      rw [List.map_append]
      refine RdL.app (RdL.keep (fun b hb hlt' => ⟨⟨hb.1, hv' b hlt' hb.2.1, by omega⟩, (fa b (by omega)).trans (hh b hlt' hb.2.1)⟩) _ _ h.red) (RdL.one ?_)
      refine Rd.keep (fun b (hb : U ≤ b) hlt' => ?_) _ _ (Nm.mk_ x hl)
      have hne : v.ownBlock ≠ some b := fun e => by have := hlt b e; omega
      exact ⟨⟨by omega, hv' b hlt' hne, by omega⟩, (fa b (by omega)).trans (hh b hlt' hne)⟩
    len := by
      intro r hr
      rcases List.mem_append.1 hr with hr | hr
      · exact h.len r hr
      · simp at hr; subst hr; rfl
    c6 := h.c6, ltU := by simp [World.setCell], ltN := by omega, oU := hvb
    pt := ((h.pt.grown (World.grownBy_alloc wr o none) (by simp)).grown hg (no _ (by omega))).grown hk (ne _ (by omega)) }
end
/-- What a block counts: the counters behind it, the value and the line of its number. -/
def numVal (free : Bool) (s : Ns) (k lv : Int) (i : ByteArray) (a : At) (li : List Inl) (ks : List Blk) : Ns × ByteArray × List Inl :=
  if k = 2 ∧ free = true then ({ s with c := cntUp s.c (lvlOf lv) }, valS (cntUp s.c (lvlOf lv)) (lvlOf lv), li)
  else if k = 13 ∧ i = figS then ({ s with f := s.f + 1 }, decS (s.f + 1), capL ks)
  else if k = 13 ∧ i = tabS then ({ s with t := s.t + 1 }, decS (s.t + 1), capL ks)
  else if k = 4 ∧ a.id.data.toList ≠ [] then ({ s with e := s.e + 1 }, decS (s.e + 1), [])
  else (s, ⟨#[]⟩, [])
theorem numOne_val (free : Bool) (s : Ns) (k lv : Int) (i : ByteArray) (a : At) (li : List Inl) (ks : List Blk) :
    numOne free s k lv i a li ks = { (numVal free s k lv i a li ks).1 with out := (numVal free s k lv i a li ks).1.out ++ if (kindS free k i a.id).data.toList = [] then [] else [⟨a.id, kindS free k i a.id, (numVal free s k lv i a li ks).2.1, (numVal free s k lv i a li ks).2.2⟩] } := by
  unfold numOne numVal kindS
  by_cases h1 : k = 2 ∧ free = true
  · simp only [if_pos h1]; rfl
  · simp only [if_neg h1]
    by_cases h2 : k = 13 ∧ i = figS
    · have h3 : k = 13 ∧ (i = figS ∨ i = tabS) := ⟨h2.1, .inl h2.2⟩
      simp only [if_pos h2, if_pos h3]
      rw [h2.2]; rfl
    · simp only [if_neg h2]
      by_cases h4 : k = 13 ∧ i = tabS
      · have h3 : k = 13 ∧ (i = figS ∨ i = tabS) := ⟨h4.1, .inr h4.2⟩
        simp only [if_pos h4, if_pos h3]
        rw [h4.2]; rfl
      · have h3 : ¬ (k = 13 ∧ (i = figS ∨ i = tabS)) := fun h => by rcases h.2 with e | e; exact h2 ⟨h.1, e⟩; exact h4 ⟨h.1, e⟩
        simp only [if_neg h4, if_neg h3]
        by_cases h5 : k = 4 ∧ a.id.data.toList ≠ []
        · simp only [if_pos h5]; rfl
        · simp only [if_neg h5]
          show s = { s with out := s.out ++ [] }
          rw [List.append_nil]
end Go.Proofs.YtlbioncagkkkoaaGreatDoor

namespace Go.Proofs.YtlbioncagkkkoaaGreatDoor
open Go.RowKit
set_option linter.unusedVariables false
set_option linter.unusedSimpArgs false

set_option maxRecDepth 100000 in
set_option maxHeartbeats 1000000 in
theorem levelOf_any (s : ByteArray) (w : World) (h : levB s ≤ 1000) : Calls Tryz.prog 27 #[.string s] w fun e w' => e = .returned (.int .i64 ((levB s : Nat) : Int)) ∧ w' = w := by
  have e1 : ((Lib.countByte s.data.toList 46 : Nat) : Int) + 1 = ((levB s : Nat) : Int) := by unfold levB Lib.countByte; omega
  generalize levB s = y at *
  generalize hq : Lib.countByte s.data.toList 46 = q at *
  have SC := Lib.hid (Tryz.strings_Count_one s 46 w)
  rw [hq] at SC
  clear hq
  go_enter Tryz.func27, Tryz.ntmps27
  go_wp2_with fail
  (with_reducible refine SC.out.mono ?_)
  rintro e w' ⟨rfl, rfl⟩
  clear SC
  go_wp2
  go_ret
  exact ⟨rfl, rfl⟩

set_option maxRecDepth 100000 in
set_option maxHeartbeats 4000000 in
theorem shown_any (x : Nm) (vl : Value) (dep : Int) (pd : Nat) (w : World) (hv : ∃ a n c, vl = .slice a n c) (hc : w.cell? ⟨pd, 0, none⟩ = some (.int .i64 dep)) (hl : levB x.val ≤ 1000) :
    Calls Tryz.prog 26 #[.agg #[.string x.id, .string x.kind, .string x.val, vl], .pointer (some ⟨pd, 0, none⟩)] w fun e w' => e = .returned (.bool (shownB dep x)) ∧ Below w.heap.size w w' := by
  obtain ⟨a, n, c, rfl⟩ := hv
  obtain ⟨id, kd, val, line⟩ := x
  dsimp only at hl ⊢
  obtain ⟨wA, hwA⟩ : ∃ wA, wA = w.alloc (.cells #[.string id, .string kd, .string val, .slice a n c] 49) := ⟨_, rfl⟩
  have bA : Below w.heap.size w wA := by rw [hwA]; exact (Below.refl _ _).alloc (Nat.le_refl _) _
  have pA : CB 49 w.heap.size [.string id, .string kd, .string val, .slice a n c] wA := by rw [hwA]; exact CB.new _ _ _
  have hcA : wA.cell? ⟨pd, 0, none⟩ = some (.int .i64 dep) := by rw [hwA]; exact past hc _
  have BA := Lib.hid bA
  have e0 := pA.cell 0 _ rfl
  have e1 := pA.cell 1 _ rfl
  have e2 := pA.cell 2 _ rfl
  have BQ := Lib.hid (fun q => below_dN bA q)
  have LV := Lib.hid (fun (wz : World) => levelOf_any val wz hl)
  clear bA pA hc hl
  have q1 : (kd.toList == [115, 101, 99, 116, 105, 111, 110]) = decide (kd = secS) := by
    rw [Lib.toList_data, Bool.eq_iff_iff, beq_iff_eq, decide_eq_true_iff]
    constructor
    · intro h; unfold secS; cases kd with | mk d => cases d with | mk l => simp at h; subst h; rfl
    · rintro rfl; rfl
  have q2 : id.toList.isEmpty = emptyS id := by rw [Lib.toList_data, Bool.eq_iff_iff, List.isEmpty_iff, emptyS, decide_eq_true_iff]
  have hS : shownB dep ⟨id, kd, val, line⟩ = (decide (kd = secS) && !emptyS id && decide (((levB val : Nat) : Int) ≤ dep)) := rfl
  rw [hS]
  clear hS
  generalize decide (kd = secS) = b1 at *
  generalize emptyS id = b2 at *
  generalize levB val = lv at *
  obtain ⟨b3, hb3⟩ : ∃ b3, b3 = decide ((lv : Int) ≤ dep) := ⟨_, rfl⟩
  have q3 : decide ((lv : Int) ≤ dep) = b3 := hb3.symm
  rw [q3]
  clear hb3
  go_enter Tryz.func26, Tryz.ntmps26
  go_upto_region 1 with (fail)
  rw [← hwA]
  clear hwA
  cases b1 with
  | false =>
    go_quiet (fail)
    go_wp2
    go_ret
    exact ⟨rfl, BQ.out _⟩
  | true =>
    cases b2 with
    | true =>
      go_quiet (fail)
      go_wp2
      go_ret
      exact ⟨rfl, BQ.out _⟩
    | false =>
      go_quiet ((go_at_call 27; refine Calls.quiet_of_same (LV.out _)))
      go_wp2
      go_ret
      exact ⟨by simp, BQ.out _⟩
end Go.Proofs.YtlbioncagkkkoaaGreatDoor

namespace Go.Proofs.YtlbioncagkkkoaaGreatDoor
open Go.RowKit
set_option linter.unusedVariables false
set_option linter.unusedSimpArgs false

theorem dig_ext (r : Nat) (h : r < 10) : (⟨#[48, 49, 50, 51, 52, 53, 54, 55, 56, 57]⟩ : ByteArray).extract r (r + 1) = ⟨#[48 + UInt8.ofNat r]⟩ := by
  have : r = 0 ∨ r = 1 ∨ r = 2 ∨ r = 3 ∨ r = 4 ∨ r = 5 ∨ r = 6 ∨ r = 7 ∨ r = 8 ∨ r = 9 := by omega
  rcases this with rfl | rfl | rfl | rfl | rfl | rfl | rfl | rfl | rfl | rfl <;> decide
set_option maxRecDepth 100000 in
set_option maxHeartbeats 2000000 in
theorem r22num_any (n : Nat) : ∀ (w : World), n ≤ 1000000 → Calls Tryz.prog 67 #[.int .i64 (n : Int)] w fun e w' => e = .returned (.string (decS n)) ∧ w' = w := by
  induction n using Nat.strongRecOn with
  | _ n ih =>
    intro w hn
    have hr : n % 10 < 10 := Nat.mod_lt _ (by decide)
    have qm : (n : Int).tmod 10 = ((n % 10 : Nat) : Int) := (Int.ofNat_tmod n 10).symm
    have qd : (n : Int).tdiv 10 = ((n / 10 : Nat) : Int) := (Int.ofNat_tdiv n 10).symm
    have qx := dig_ext (n % 10) hr
    by_cases h10 : n < 10
    · have e : decS n = ⟨#[48 + UInt8.ofNat (n % 10)]⟩ := by unfold decS; rw [Lib.decDigits_one h10, Nat.mod_eq_of_lt h10, show UInt8.ofNat (48 + n) = 48 + UInt8.ofNat n from by simp]
      rw [e]
      have q10 : decide ((n : Int) < 10) = true := decide_eq_true (by omega)
      generalize n % 10 = r at *
      clear ih e
      go_enter Tryz.func67, Tryz.ntmps67
      go_wp2
      go_ret
      exact ⟨rfl, rfl⟩
    · have e : decS n = decS (n / 10) ++ ⟨#[48 + UInt8.ofNat (n % 10)]⟩ := by
        unfold decS
        rw [Lib.decDigits, dif_neg h10]
        apply ByteArray.ext
        simp
      have q10 : decide ((n : Int) < 10) = false := decide_eq_false (by omega)
      have hl := dec_len (n / 10)
      have hsz : (decS (n / 10)).size = (Lib.decDigits (n / 10)).length := rfl
      have hc10 : ((n / 10 : Nat) : Int) = (n : Int) / 10 := by omega
      have I0 := ih (n / 10) (by omega) w (by omega)
      rw [hc10] at I0
      have I1 := Lib.hid I0
      have HE := Lib.hid e
      have hs2 : (decS (n / 10)).size + ((⟨#[48, 49, 50, 51, 52, 53, 54, 55, 56, 57]⟩ : ByteArray).extract (n % 10) (n % 10 + 1)).size ≤ 9223372036854775807 := by
        rw [qx]
        have : (⟨#[48 + UInt8.ofNat (n % 10)]⟩ : ByteArray).size = 1 := rfl
        omega
      clear ih e I0 hc10
      rw [HE.out]
      generalize n % 10 = r at *
      generalize decS (n / 10) = dq at *
      clear HE
      go_enter Tryz.func67, Tryz.ntmps67
      go_wp2_with fail
      (with_reducible refine I1.out.mono ?_)
      rintro e w1 ⟨rfl, rfl⟩
      go_wp2
      go_ret
      exact ⟨rfl, rfl⟩
set_option maxRecDepth 100000 in
set_option maxHeartbeats 1000000 in
theorem r22in_any (l : List ByteArray) (x : ByteArray) (v : Value) (w : World) (hs : Sees w 1 v l.length (l.map Value.string)) :
    Calls Tryz.prog 99 #[v, .string x] w fun e w' => e = .returned (.bool (hasB l x)) ∧ w' = w := by
  obtain ⟨-, a, cap, rfl, hcap, hmx, hcs⟩ := hs
  have HCS := Lib.hid hcs
  have HZ : Hid (hasB (l.take 0) x = false) := rfl
  clear hcs
  unfold maxLen at hmx
  go_enter Tryz.func99, Tryz.ntmps99
  go_wp2
  go_loop [5] (fun vi => ∃ k : Nat, k ≤ l.length ∧ vi = .int .i64 k ∧ hasB (l.take k) x = false) (fun i => l.length - (intOf i).toNat)
  case atStart => exact ⟨0, Nat.zero_le _, rfl, HZ.out⟩
  case round =>
    obtain ⟨k, hk, rfl, hany⟩ := hrel
    have HA := Lib.hid hany
    clear hany
    by_cases hlt : k < l.length
    · obtain ⟨y, hy⟩ : ∃ y, l[k]? = some y := ⟨_, List.getElem?_eq_getElem hlt⟩
      rcases HCS.out with h0 | ⟨b, off, rfl, hc⟩
      · omega
      have c0 : w.cell? ⟨b, off + k, none⟩ = some (.string y) := hc k _ (by simp [hy])
      have hsn := hasB_snoc l k y x hy
      rw [HA.out] at hsn
      have HSN := Lib.hid hsn
      have HT := Lib.hid (hasB_take l (k + 1) x)
      clear hy hc hsn
      by_cases hyx : y = x
      · subst hyx
        go_wp2
        go_ret
        exact ⟨by rw [HT.out (by rw [HSN.out]; simp)]; rfl, rfl⟩
      · have e1 := str_ne hyx
        go_wp2
        go_round
        case rel => exact ⟨k + 1, by omega, by go_num, by rw [HSN.out]; simp [hyx]⟩
        case measure => simp [intOf]; omega
    · have hkl : k = l.length := by omega
      have hA := HA.out
      rw [hkl, List.take_length] at hA
      have HA2 := Lib.hid hA
      clear hA HA hkl
      go_wp2
      go_ret
      exact ⟨by rw [HA2.out]; rfl, rfl⟩
end Go.Proofs.YtlbioncagkkkoaaGreatDoor
