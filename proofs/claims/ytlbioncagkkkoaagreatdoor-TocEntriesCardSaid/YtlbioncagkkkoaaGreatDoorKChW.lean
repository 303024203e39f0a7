/- Contracts of tree.checkBlocks and Blocks: the first error of blocks; of a formula's check they ask the contract where there is a formula. The contract of tree.Check: the first error of a document. -/
import Derived.Test.YtlbioncagkkkoaaGreatDoorKChU
import Derived.StillTailTactics
import Derived.Test.YtlbioncagkkkoaaGreatDoorKSizeD
namespace Go.Proofs.YtlbioncagkkkoaaGreatDoor
open Go.RowKit
set_option linter.unusedVariables false
set_option linter.unusedSimpArgs false

theorem Blk.smallL_get : ∀ {l : List Blk} {k : Nat} {x : Blk}, Blk.smallL l → l[k]? = some x → x.small
  | [], _, _, _, h => by simp at h
  | y :: l, 0, x, hb, h => by simp at h; subst h; rw [Blk.smallL] at hb; exact hb.1
  | y :: l, k + 1, x, hb, h => by rw [Blk.smallL] at hb; exact Blk.smallL_get (l := l) (k := k) hb.2 (by simpa using h)
theorem blS_of {k lv : Int} {i t d ti : ByteArray} {a : At} {li : List Inl} {ks : List Blk} (h : (Blk.mk k lv i t d ti a li ks).small) : BlS i t d ti a li ∧ Blk.smallL ks := by
  unfold Blk.small at h
  obtain ⟨h1, h2, h3, h4, h5, h6, h7, h8⟩ := h
  exact ⟨⟨h1, h2, h3, h4, h5, h6⟩, h8⟩
theorem bl_errL_cons (cl : ByteArray → Bool) (par : Int) (dp : Nat) (k lv : Int) (i t d ti : ByteArray) (a : At) (li : List Inl) (ks l : List Blk) (h15 : ¬ 15 < dp) :
    Blk.errL cl par dp (Blk.mk k lv i t d ti a li ks :: l) = if blFields k lv i t d ti a li ks = false ∨ placeB k par = false then 5
      else if itsErr cl k lv i t d ti a li ks ≠ 0 then itsErr cl k lv i t d ti a li ks else if Blk.errL cl k (dp + 1) ks ≠ 0 then Blk.errL cl k (dp + 1) ks else Blk.errL cl par dp l := by
  rw [Blk.errL, Blk.err, if_neg h15]
  by_cases h1 : blFields k lv i t d ti a li ks = false ∨ placeB k par = false
  · rw [if_pos h1, if_pos h1]; rfl
  · rw [if_neg h1, if_neg h1]
    by_cases h2 : itsErr cl k lv i t d ti a li ks = 0
    · simp only [h2, ne_eq, not_true_eq_false, if_false]
    · simp only [ne_eq, h2, not_false_eq_true, if_true]
def CbRel (cl : ByteArray → Bool) (l : List Blk) (par : Int) (dp : Nat) (E : Nat) (w : World) (vi : Value) (wr : World) : Prop := ∃ k : Nat, k ≤ l.length ∧ vi = .int .i64 k ∧ Below w.heap.size w wr ∧ Blk.errL cl par dp (l.drop k) = E

end Go.Proofs.YtlbioncagkkkoaaGreatDoor

namespace Go.Proofs.YtlbioncagkkkoaaGreatDoor
open Go.RowKit
set_option linter.unusedVariables false
set_option linter.unusedSimpArgs false

/-- The first error of a document. -/
def docErr (cl : ByteArray → Bool) (me : List Pr) (l : List Blk) : Nat :=
  if 32768 < Blk.allL l ∨ 64 < me.length then 3 else if metErr [] me ≠ 0 then metErr [] me else Blk.errL cl 0 0 l
end Go.Proofs.YtlbioncagkkkoaaGreatDoor
