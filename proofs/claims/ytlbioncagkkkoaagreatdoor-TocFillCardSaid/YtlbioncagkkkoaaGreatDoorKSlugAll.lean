/- Maps of the call's own with texts as keys: numbers. The contract of slug.All. -/
import Derived.Test.YtlbioncagkkkoaaGreatDoorKTcM
import Derived.Lib.AppendIntMem
namespace Go.Proofs.YtlbioncagkkkoaaGreatDoor
open Go.RowKit Go.Maps
set_option linter.unusedVariables false
set_option linter.unusedSimpArgs false

def NumAt (w : World) (b n : Nat) (f : ByteArray → Int) : Prop :=
  ∃ D : DataW Unit, w.ownsMap Tryz.prog 9 (plainElem Tryz.prog 3) b n D ∧ ∀ s : ByteArray, D.atKey (sKey s) (.lit (.int .i64 0)) = .lit (.int .i64 (f s))
theorem NumAt.look {w : World} {b n : Nat} {f : ByteArray → Int} (h : NumAt w b n f) (s : ByteArray) (hs : s.size ≤ maxLen) :
    (Instr.lookup 80 (.map (some b)) (.string s) false).run Tryz.prog w = .ok (.int .i64 (f s)) w := by
  obtain ⟨D, hD, hat⟩ := h
  obtain ⟨c, hrun, hc, _⟩ := hD.lookup_int keyS Tryz.underlying80 Tryz.underlying3 (zeroI w) (sKey_of s hs)
  rw [hat s] at hc
  have : f s = c := (Lit.int.inj (DataW.lit.inj hc)).2
  subst this; exact hrun
theorem NumAt.put {w : World} {b n : Nat} {f : ByteArray → Int} (h : NumAt w b n f) (s : ByteArray) (x : Int) (hs : s.size ≤ maxLen) (hn : n < maxLen) (hx : (Lit.int .i64 x).wf = true) :
    ∃ w', (Instr.mapUpdate 80 (.map (some b)) (.string s) (.int .i64 x)).run Tryz.prog w = .ok () w' ∧ NumAt w' b (n + 1) (fun t => if t = s then x else f t) ∧ w.grownBy w' (some b) := by
  obtain ⟨D, hD, hat⟩ := h
  obtain ⟨w', hrun, hD', hg⟩ := hD.update keyS Tryz.underlying80 hn (sKey_of s hs) (plainElem_int Tryz.underlying3 hx)
  refine ⟨w', hrun, ⟨_, hD', fun t => ?_⟩, hg⟩
  by_cases e : t = s
  · subst e
    rw [atKey_put_same (owns_isMap hD) (sKey_lit t)]
    show _ = DataW.lit (.int .i64 (if t = t then x else f t))
    rw [if_pos rfl]
  · rw [atKey_put_other (fun h => e (sKey_inj _ _ h)), hat t]
    show _ = DataW.lit (.int .i64 (if t = s then x else f t))
    rw [if_neg e]
theorem NumAt.made (w : World) : NumAt (w.alloc (.map #[] 0)) w.heap.size 0 (fun _ => 0) :=
  ⟨_, World.ownsMap_made w _ _ _, fun s => rfl⟩
theorem NumAt.kept {w w' : World} {b n : Nat} {f : ByteArray → Int} {row : Option Nat} (h : NumAt w b n f) (hg : w.grownBy w' row) (hne : some b ≠ row) : NumAt w' b n f := by
  obtain ⟨D, hD, hat⟩ := h
  exact ⟨D, hD.kept hg hne, hat⟩
theorem NumAt.lt {w : World} {b n : Nat} {f : ByteArray → Int} (h : NumAt w b n f) : b < w.heap.size := by
  obtain ⟨D, hD, _⟩ := h; exact hD.lt
theorem NumAt.obj {w : World} {b n : Nat} {f : ByteArray → Int} (h : NumAt w b n f) : ∃ es c, w.heap[b]? = some (.map es c) := by
  obtain ⟨D, ⟨es, c, h, _⟩, _⟩ := h; exact ⟨es, c, h⟩
theorem NumAt.below {w w' : World} {b n : Nat} {f : ByteArray → Int} (h : NumAt w b n f) (hb : Below w.heap.size w w') : NumAt w' b n f := h.kept (grown_below hb) (by simp)

end Go.Proofs.YtlbioncagkkkoaaGreatDoor

namespace Go.Proofs.YtlbioncagkkkoaaGreatDoor
open Go.RowKit
set_option linter.unusedVariables false
set_option linter.unusedSimpArgs false

/-- The table of powers of ten is laid. -/
def PT (w : World) : Prop := 1 < w.heap.size ∧ Lib.TabIs Tryz.prog w "internal/strconv.uint64pow10" .u64 Lib.pow10Tab
theorem PT.below {w w' : World} (h : PT w) (hb : Below w.heap.size w w') : PT w' := by
  refine ⟨Nat.lt_of_lt_of_le h.1 hb.size, ?_⟩
  have hg : Tryz.prog.globalNamed "internal/strconv.uint64pow10" = some 1 := by kernel_rfl
  have h2 := h.2
  unfold Lib.TabIs World.var? at h2 ⊢
  rw [hg] at h2 ⊢
  simp only [Option.bind_some] at h2 ⊢
  rw [hb.block _ h.1]
  exact h2
theorem itoa_any (n : Nat) (w : World) (hn : n ≤ 1000000) (ht : PT w) :
    Calls Tryz.prog 46 #[.int .i64 (n : Int)] w fun e w' => e = .returned (.string ⟨(Lib.decDigits n).toArray⟩) ∧ Below w.heap.size w w' := by
  refine (Tryz.strconv_Itoa (n : Int) (by omega) (by omega) w ht.2).mono ?_
  rintro e w' ⟨rfl, k, os, rfl⟩
  refine ⟨?_, Lib.below_grow _ w (Nat.le_refl _) k os⟩
  have : Lib.itoa (n : Int) = Lib.decDigits n := by unfold Lib.itoa; rw [if_neg (by omega)]; simp
  rw [this]

theorem SetAt.congr {w : World} {b n : Nat} {S T : List ByteArray} (h : SetAt w b n S) (he : ∀ x, x ∈ S ↔ x ∈ T) : SetAt w b n T := by
  obtain ⟨D, hD, hat⟩ := h
  refine ⟨D, hD, fun s => ?_⟩
  rw [hat s]
  have : hasB S s = hasB T s := by rw [Bool.eq_iff_iff, hasB_iff, hasB_iff, he]
  rw [this]

/-- The numbers of the second map: below them nothing is free. -/
def NxOk (f : ByteArray → Int) (T : List ByteArray) : Prop := ∀ b, 0 ≤ f b ∧ (1 ≤ f b → ∀ i : Nat, (i : Int) ≤ f b → cand b i ∈ T)
theorem NxOk.more {f : ByteArray → Int} {T : List ByteArray} (h : NxOk f T) (x : ByteArray) : NxOk f (x :: T) := fun b => ⟨(h b).1, fun h1 i hi => List.mem_cons_of_mem _ ((h b).2 h1 i hi)⟩
theorem NxOk.zero (T : List ByteArray) : NxOk (fun _ => 0) T := fun b => ⟨Int.le_refl _, fun h => absurd h (by show ¬ (1 : Int) ≤ 0; omega)⟩
theorem NxOk.put {f : ByteArray → Int} {T : List ByteArray} {base : ByteArray} {n : Nat} (h : NxOk f (cand base (idx T base) :: T)) (hn : n ≤ idx T base) : NxOk (fun t => if t = base then (n : Int) else f t) (cand base (idx T base) :: T) := by
  intro b
  by_cases e : b = base
  · subst e
    show 0 ≤ (if b = b then (n : Int) else f b) ∧ _
    rw [if_pos rfl]
    refine ⟨by omega, fun _ i hi => ?_⟩
    simp only [if_true] at hi
    have hi' : i ≤ n := by omega
    rcases Nat.lt_or_ge i (idx T b) with h' | h'
    · exact List.mem_cons_of_mem _ ((idx_spec T b).2.1 i h')
    · have : i = idx T b := by omega
      rw [this]; exact List.mem_cons_self
  · show 0 ≤ (if b = base then (n : Int) else f b) ∧ (1 ≤ (if b = base then (n : Int) else f b) → ∀ i : Nat, (i : Int) ≤ (if b = base then (n : Int) else f b) → _)
    rw [if_neg e]
    exact h b
theorem NxOk.lt {f : ByteArray → Int} {T : List ByteArray} (h : NxOk f T) (base : ByteArray) (h1 : 1 ≤ f base) : f base < idx T base := by
  rcases Int.lt_or_le (f base) (idx T base) with h' | h'
  · exact h'
  · exact absurd ((h base).2 h1 (idx T base) h') (idx_spec T base).1

/-- What stays over a round's inner loop, and what it has come to. -/
structure Al3 (w wr : World) (bN : Nat) (v : Value) (outs T : List ByteArray) (n1 nn : Nat) (f : ByteArray → Int) : Prop where
  own : wr.ownsRow (w.heap.size + 2) 9 1 v outs.length (outs.map Value.string)
  set : SetAt wr w.heap.size n1 T
  box : wr.cell? ⟨w.heap.size + 1, 0, none⟩ = some (.map (some w.heap.size))
  num : NumAt wr bN nn f
  bel : Below w.heap.size w wr
theorem Al3.below {w wr w' : World} {bN : Nat} {v : Value} {outs T : List ByteArray} {n1 nn : Nat} {f : ByteArray → Int} (h : Al3 w wr bN v outs T n1 nn f) (hb : Below wr.heap.size wr w') : Al3 w w' bN v outs T n1 nn f :=
  ⟨own_below h.own hb, h.set.below hb, by rw [hb.cell (p := ⟨w.heap.size + 1, 0, none⟩) (cell_lt h.box)]; exact h.box, h.num.below hb, below_trans_size h.bel hb⟩
theorem Al3.put {w wr w' : World} {bN : Nat} {v : Value} {outs T : List ByteArray} {n1 nn nn' : Nat} {f f' : ByteArray → Int} (h : Al3 w wr bN v outs T n1 nn f) (hb : w.heap.size + 2 ≤ bN) (hg : wr.grownBy w' (some bN)) (hN : NumAt w' bN nn' f') : Al3 w w' bN v outs T n1 nn' f' :=
  ⟨h.own.kept hg (.inr (own_map_ne h.own h.num.obj)), h.set.kept hg (by simp; omega), grown_cell hg h.box (by simp; omega), hN, h.bel.grown hg h.bel.size (fun j hj => by cases hj; omega)⟩
end Go.Proofs.YtlbioncagkkkoaaGreatDoor
