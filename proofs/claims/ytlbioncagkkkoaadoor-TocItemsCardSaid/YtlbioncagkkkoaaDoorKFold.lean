/- The contract of chars.Fold. -/
import Derived.Test.YtlbioncagkkkoaaDoorKName
import Derived.Test.YtlbioncagkkkoaaDoorKBuilderK
import Derived.BigCall
import Derived.Lib.FieldsP
import Derived.Lib.TrimU
import Derived.Deep.DeepCutAuto
namespace Go.Proofs.YtlbioncagkkkoaaDoor
open Go.RowKit
set_option linter.unusedVariables false
set_option linter.unusedSimpArgs false

/-- The builder in block w.heap.size and the iterator in block k, in one word. -/
def BdIt (w : World) (k : Nat) (s : ByteArray) (pos : Nat) (l : List UInt8) (wr : World) : Prop :=
  Lib.IsBuilderF 104 5 w.heap.size w.heap.size (Lib.byteCells l) wr ∧ wr.heap[k]? = some (.stringIter s pos) ∧ Below w.heap.size w wr ∧ w.heap.size < k
section
variable {w : World} {k : Nat} {s : ByteArray} {pos : Nat} {l l' : List UInt8} {wr w' : World}
theorem BdIt.next (h : BdIt w k s pos l wr) (p : Nat) : BdIt w k s p l (wr.iterAt k s p) :=
  ⟨h.1.iterAt h.2.1 p, Lib.iterAt_heap wr k s pos p h.2.1, Lib.below_iterAt h.2.2.1 (k := k) (by have := h.2.2.2; omega) s p, h.2.2.2⟩
theorem BdIt.size (h : BdIt w k s pos l wr) : w.heap.size ≤ wr.heap.size := h.2.2.1.size
theorem BdIt.start (w : World) (s : ByteArray) : BdIt w (w.heap.size + 1) s 0 [] ((w.alloc (.cells #[.pointer none, .slice none 0 0] 104)).iter s 0) := by
  refine ⟨(Lib.IsBuilderF.of (Lib.fresh_isBuilder 104 5 w)).alloc _, ?_, ((Below.refl _ w).alloc (Nat.le_refl _) _).alloc (by simp) _, by omega⟩
  have := World.iter_heap (w.alloc (.cells #[.pointer none, .slice none 0 0] 104)) s 0
  simpa using this
theorem bdF_below {T e : TypeId} {B b : Nat} {bs : List Value} (h : Lib.IsBuilderF T e B b bs w) (hb : Below w.heap.size w w') : Lib.IsBuilderF T e B b bs w' := by
  have aux : ∀ p, Lib.BuilderAtF T e B b p bs w → Lib.BuilderAtF T e B b p bs w' := by
    rintro p ⟨h1, v, h2, h3, h4⟩
    have hlt : b < w.heap.size := (Array.getElem?_eq_some_iff.1 h2).1
    refine ⟨h1, v, by rw [hb.block b hlt]; exact h2, h3.kept (row := none) ⟨hb.os, hb.tape, hb.output, hb.size, fun i hi _ => hb.block i hi⟩ (by cases v.ownBlock <;> simp), h4⟩
  rcases h with h | h
  · exact .inl (aux _ h)
  · exact .inr (aux _ h)
/-- The builder is made first, then other work is done, then the range begins. -/
theorem BdIt.later (w : World) (w1 : World) (s : ByteArray) (hb : Below (w.alloc (.cells #[.pointer none, .slice none 0 0] 104)).heap.size (w.alloc (.cells #[.pointer none, .slice none 0 0] 104)) w1) :
    BdIt w w1.heap.size s 0 [] (w1.iter s 0) := by
  have hz : w.heap.size + 1 ≤ w1.heap.size := by have := hb.size; simpa using this
  refine ⟨(bdF_below (Lib.IsBuilderF.of (Lib.fresh_isBuilder 104 5 w)) hb).alloc _, World.iter_heap w1 s 0, ?_, by omega⟩
  exact (((Below.refl _ w).alloc (Nat.le_refl _) _).trans (hb.mono (by simp))).alloc (by omega) _
end

end Go.Proofs.YtlbioncagkkkoaaDoor
