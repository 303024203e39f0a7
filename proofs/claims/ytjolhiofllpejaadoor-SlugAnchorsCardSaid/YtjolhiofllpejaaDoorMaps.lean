/- Maps of the call's own with texts as keys: a set (bool elements), and numbers. -/
import Derived.Test.YtjolhiofllpejaaDoorPlAll
import Derived.Maps.Own
import Derived.Maps.OwnOps
import Derived.Maps.Views
import Derived.Maps.Keyed
import Derived.StringKeys
namespace Go.Proofs.YtjolhiofllpejaaDoor
open Go.RowKit Go.Maps
set_option linter.unusedVariables false

theorem keyS : Keyed Tryd.prog 9 := string_keyed Tryd.underlying9
theorem zeroB (w : World) : (zeroValue 4).run Tryd.prog w = .ok (.bool false) w := by kernel_rfl
theorem zeroI (w : World) : (zeroValue 3).run Tryd.prog w = .ok (.int .i64 0) w := by kernel_rfl
def sKey (s : ByteArray) : Lit := .string s.data.toList
theorem sKey_of (s : ByteArray) (hs : s.size ≤ maxLen) : keyOf Tryd.prog 9 (.string s) = some (sKey s) := WideMaps.keyOf_string_mk Tryd.underlying9 hs
theorem sKey_inj (s t : ByteArray) (h : sKey s = sKey t) : s = t := by
  unfold sKey at h
  injection h with h
  exact ByteArray.ext (Array.toList_inj.1 h)
theorem plainB_inv {P : Program} {e : TypeId} (he : P.underlying e = some .bool) {v : Value} {z : DataW Unit × List MemPlace} (h : plainElem P e v = some z) : ∃ x, v = .bool x ∧ z = (.lit (.bool x), []) := by
  unfold plainElem at h
  rw [he] at h
  cases v <;> simp at h
  exact ⟨_, rfl, h.symm⟩

/-- Block b is a map of at most n entries: the set S. -/
def SetAt (w : World) (b n : Nat) (S : List ByteArray) : Prop :=
  ∃ D : DataW Unit, w.ownsMap Tryd.prog 9 (plainElem Tryd.prog 4) b n D ∧ ∀ s : ByteArray, D.atKey (sKey s) (.lit (.bool false)) = .lit (.bool (hasB S s))
def NumAt (w : World) (b n : Nat) (f : ByteArray → Int) : Prop :=
  ∃ D : DataW Unit, w.ownsMap Tryd.prog 9 (plainElem Tryd.prog 3) b n D ∧ ∀ s : ByteArray, D.atKey (sKey s) (.lit (.int .i64 0)) = .lit (.int .i64 (f s))

theorem owns_isMap {w : World} {k : TypeId} {R : Value → Option (DataW Unit × List MemPlace)} {b n : Nat} {D : DataW Unit} (h : w.ownsMap Tryd.prog k R b n D) : IsMap D := by
  obtain ⟨es, c, _, _, _, rfl⟩ := h
  exact ⟨_, rfl⟩
theorem sKey_lit (s : ByteArray) : WideAt.IsKeyLit (sKey s) := by
  unfold sKey
  simp [WideAt.IsKeyLit]

theorem SetAt.look {w : World} {b n : Nat} {S : List ByteArray} (h : SetAt w b n S) (s : ByteArray) (hs : s.size ≤ maxLen) :
    (Instr.lookup 60 (.map (some b)) (.string s) false).run Tryd.prog w = .ok (.bool (hasB S s)) w := by
  obtain ⟨D, hD, hat⟩ := h
  obtain ⟨v, ps, hrun, hv⟩ := hD.lookup keyS Tryd.underlying60 (zeroB w) (plainElem_bool Tryd.underlying4 false) (sKey_of s hs)
  obtain ⟨x, rfl, hx⟩ := plainB_inv Tryd.underlying4 hv
  rw [hat s] at hx
  simp only [Prod.mk.injEq] at hx
  have : hasB S s = x := Lit.bool.inj (DataW.lit.inj hx.1)
  subst this; exact hrun
theorem SetAt.put {w : World} {b n : Nat} {S : List ByteArray} (h : SetAt w b n S) (s : ByteArray) (hs : s.size ≤ maxLen) (hn : n < maxLen) :
    ∃ w', (Instr.mapUpdate 60 (.map (some b)) (.string s) (.bool true)).run Tryd.prog w = .ok () w' ∧ SetAt w' b (n + 1) (s :: S) ∧ w.grownBy w' (some b) := by
  obtain ⟨D, hD, hat⟩ := h
  obtain ⟨w', hrun, hD', hg⟩ := hD.update keyS Tryd.underlying60 hn (sKey_of s hs) (plainElem_bool Tryd.underlying4 true)
  refine ⟨w', hrun, ⟨_, hD', fun t => ?_⟩, hg⟩
  by_cases e : t = s
  · subst e
    rw [atKey_put_same (owns_isMap hD) (sKey_lit t)]
    simp [hasB]
  · rw [atKey_put_other (fun h => e (sKey_inj _ _ h)), hat t]
    have : hasB (s :: S) t = hasB S t := by simp [hasB, show ¬ s = t from fun h => e h.symm]
    rw [this]
theorem SetAt.made (w : World) : SetAt (w.alloc (.map #[] 0)) w.heap.size 0 [] :=
  ⟨_, World.ownsMap_made w _ _ _, fun s => rfl⟩
theorem SetAt.kept {w w' : World} {b n : Nat} {S : List ByteArray} {row : Option Nat} (h : SetAt w b n S) (hg : w.grownBy w' row) (hne : some b ≠ row) : SetAt w' b n S := by
  obtain ⟨D, hD, hat⟩ := h
  exact ⟨D, hD.kept hg hne, hat⟩
theorem SetAt.lt {w : World} {b n : Nat} {S : List ByteArray} (h : SetAt w b n S) : b < w.heap.size := by
  obtain ⟨D, hD, _⟩ := h; exact hD.lt
theorem SetAt.obj {w : World} {b n : Nat} {S : List ByteArray} (h : SetAt w b n S) : ∃ es c, w.heap[b]? = some (.map es c) := by
  obtain ⟨D, ⟨es, c, h, _⟩, _⟩ := h; exact ⟨es, c, h⟩
theorem grown_below {w w' : World} (hb : Below w.heap.size w w') : w.grownBy w' none := ⟨hb.os, hb.tape, hb.output, hb.size, fun i hi _ => hb.block i hi⟩
theorem SetAt.below {w w' : World} {b n : Nat} {S : List ByteArray} (h : SetAt w b n S) (hb : Below w.heap.size w w') : SetAt w' b n S := h.kept (grown_below hb) (by simp)

theorem NumAt.look {w : World} {b n : Nat} {f : ByteArray → Int} (h : NumAt w b n f) (s : ByteArray) (hs : s.size ≤ maxLen) :
    (Instr.lookup 61 (.map (some b)) (.string s) false).run Tryd.prog w = .ok (.int .i64 (f s)) w := by
  obtain ⟨D, hD, hat⟩ := h
  obtain ⟨c, hrun, hc, _⟩ := hD.lookup_int keyS Tryd.underlying61 Tryd.underlying3 (zeroI w) (sKey_of s hs)
  rw [hat s] at hc
  have : f s = c := (Lit.int.inj (DataW.lit.inj hc)).2
  subst this; exact hrun
theorem NumAt.put {w : World} {b n : Nat} {f : ByteArray → Int} (h : NumAt w b n f) (s : ByteArray) (x : Int) (hs : s.size ≤ maxLen) (hn : n < maxLen) (hx : (Lit.int .i64 x).wf = true) :
    ∃ w', (Instr.mapUpdate 61 (.map (some b)) (.string s) (.int .i64 x)).run Tryd.prog w = .ok () w' ∧ NumAt w' b (n + 1) (fun t => if t = s then x else f t) ∧ w.grownBy w' (some b) := by
  obtain ⟨D, hD, hat⟩ := h
  obtain ⟨w', hrun, hD', hg⟩ := hD.update keyS Tryd.underlying61 hn (sKey_of s hs) (plainElem_int Tryd.underlying3 hx)
  refine ⟨w', hrun, ⟨_, hD', fun t => ?_⟩, hg⟩
  by_cases e : t = s
  · subst e
    rw [atKey_put_same (owns_isMap hD) (sKey_lit t)]
    show _ = DataW.lit (.int .i64 (if t = t then x else f t))
    rw [if_pos rfl]
  · rw [atKey_put_other (fun h => e (sKey_inj _ _ h)), hat t]
    show _ = DataW.lit (.int .i64 (if t = s then x else f t))
    rw [if_neg e]
theorem NumAt.made (w : World) : NumAt (w.alloc (.map #[] 0)) w.heap.size 0 (fun _ => 0) :=
  ⟨_, World.ownsMap_made w _ _ _, fun s => rfl⟩
theorem NumAt.kept {w w' : World} {b n : Nat} {f : ByteArray → Int} {row : Option Nat} (h : NumAt w b n f) (hg : w.grownBy w' row) (hne : some b ≠ row) : NumAt w' b n f := by
  obtain ⟨D, hD, hat⟩ := h
  exact ⟨D, hD.kept hg hne, hat⟩
theorem NumAt.lt {w : World} {b n : Nat} {f : ByteArray → Int} (h : NumAt w b n f) : b < w.heap.size := by
  obtain ⟨D, hD, _⟩ := h; exact hD.lt
theorem NumAt.obj {w : World} {b n : Nat} {f : ByteArray → Int} (h : NumAt w b n f) : ∃ es c, w.heap[b]? = some (.map es c) := by
  obtain ⟨D, ⟨es, c, h, _⟩, _⟩ := h; exact ⟨es, c, h⟩
theorem NumAt.below {w w' : World} {b n : Nat} {f : ByteArray → Int} (h : NumAt w b n f) (hb : Below w.heap.size w w') : NumAt w' b n f := h.kept (grown_below hb) (by simp)

/-- A row of cells is no map. -/
theorem own_map_ne {w : World} {B : Nat} {e : TypeId} {k : Nat} {v : Value} {n : Nat} {xs : List Value} {b : Nat} (h : w.ownsRow B e k v n xs) (hm : ∃ es c, w.heap[b]? = some (.map es c)) : v.ownBlock ≠ some b := by
  obtain ⟨es, c, hm⟩ := hm
  rcases h.2 with ⟨rfl, _⟩ | ⟨g, cap, cur, rfl, _, hh, _⟩
  · simp [Value.ownBlock]
  · intro he
    have : g = b := by simpa [Value.ownBlock] using he
    subst this
    rw [hh] at hm
    cases hm
end Go.Proofs.YtjolhiofllpejaaDoor
