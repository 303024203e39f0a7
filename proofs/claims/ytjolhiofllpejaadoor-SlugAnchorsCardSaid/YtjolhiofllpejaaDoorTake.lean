/- The anchors that are left, in the box that slug.Anchors$1 takes them out of; which blocks get them. -/
import Derived.Test.YtjolhiofllpejaaDoorCopyL
namespace Go.Proofs.YtjolhiofllpejaaDoor
open Go.RowKit
set_option linter.unusedVariables false

mutual
/-- A block with the anchors that are left: the first one for a heading without an identifier, then the Kids. -/
def Blk.name : Blk → List ByteArray → Blk × List ByteArray
  | .mk k lv i t d ti a li ks, A =>
    if k = 2 ∧ a.id.data.toList = [] then (.mk k lv i t d ti { a with id := A.headD a.id } li (Blk.nameL ks A.tail).1, (Blk.nameL ks A.tail).2)
    else (.mk k lv i t d ti a li (Blk.nameL ks A).1, (Blk.nameL ks A).2)
def Blk.nameL : List Blk → List ByteArray → List Blk × List ByteArray
  | [], A => ([], A)
  | x :: l, A => ((x.name A).1 :: (Blk.nameL l (x.name A).2).1, (Blk.nameL l (x.name A).2).2)
end
mutual
/-- How many headings have no identifier. -/
def Blk.bare : Blk → Nat
  | .mk k _ _ _ _ _ a _ ks => (if k = 2 ∧ a.id.data.toList = [] then 1 else 0) + Blk.bareL ks
def Blk.bareL : List Blk → Nat
  | [] => 0
  | x :: l => x.bare + Blk.bareL l
end
theorem Blk.nameL_app : ∀ (l m : List Blk) (A : List ByteArray), Blk.nameL (l ++ m) A = ((Blk.nameL l A).1 ++ (Blk.nameL m (Blk.nameL l A).2).1, (Blk.nameL m (Blk.nameL l A).2).2)
  | [], m, A => by simp [Blk.nameL]
  | x :: l, m, A => by rw [List.cons_append, Blk.nameL, Blk.nameL, Blk.nameL_app l m]; rfl
theorem Blk.nameL_take (l : List Blk) (A : List ByteArray) (k : Nat) (x : Blk) (h : l[k]? = some x) :
    Blk.nameL (l.take (k + 1)) A = ((Blk.nameL (l.take k) A).1 ++ [(x.name (Blk.nameL (l.take k) A).2).1], (x.name (Blk.nameL (l.take k) A).2).2) := by
  rw [List.take_add_one, h, Blk.nameL_app]
  simp [Blk.nameL]
theorem Blk.bareL_app (l m : List Blk) : Blk.bareL (l ++ m) = Blk.bareL l + Blk.bareL m := by
  induction l with
  | nil => rw [Blk.bareL]; simp
  | cons x l ih => rw [List.cons_append, Blk.bareL, Blk.bareL, ih]; omega
theorem Blk.bareL_get (l : List Blk) (k : Nat) (x : Blk) (h : l[k]? = some x) : Blk.bareL (l.take k) + x.bare ≤ Blk.bareL l := by
  have e : l = l.take k ++ x :: l.drop (k + 1) := by
    conv => lhs; rw [← List.take_append_drop k l]
    rw [drop_cons l k x h]
  have := congrArg Blk.bareL e
  rw [Blk.bareL_app, Blk.bareL] at this
  omega
mutual
theorem Blk.name_rest : ∀ (x : Blk) (A : List ByteArray), x.bare ≤ A.length → (x.name A).2.length + x.bare = A.length
  | .mk k lv i t d ti a li ks, A, h => by
    rw [Blk.bare] at h ⊢
    rw [Blk.name]
    split
    · rename_i hc
      rw [if_pos hc] at h
      have := Blk.nameL_rest ks A.tail (by rw [List.length_tail]; omega)
      rw [List.length_tail] at this
      simp only
      omega
    · rename_i hc
      rw [if_neg hc] at h
      have := Blk.nameL_rest ks A (by omega)
      simp only
      omega
theorem Blk.nameL_rest : ∀ (l : List Blk) (A : List ByteArray), Blk.bareL l ≤ A.length → (Blk.nameL l A).2.length + Blk.bareL l = A.length
  | [], A, _ => by simp [Blk.nameL, Blk.bareL]
  | x :: l, A, h => by
    rw [Blk.bareL] at h ⊢
    rw [Blk.nameL]
    have h1 := Blk.name_rest x A (by omega)
    have h2 := Blk.nameL_rest l (x.name A).2 (by omega)
    simp only
    omega
end

/-- The box bx holds a slice of the anchors A; they lie below it. -/
def BxAt (w : World) (bx : Nat) (A : List ByteArray) : Prop :=
  ∃ a cap, w.heap[bx]? = some (.cells #[.slice a A.length cap] 25 (0, 0)) ∧ A.length ≤ cap ∧ cap ≤ maxLen ∧ Reads w bx 1 a A.length (A.map Value.string)
theorem BxAt.keep {w w' : World} {bx : Nat} {A : List ByteArray} (h : BxAt w bx A) (hk : ∀ b, b ≤ bx → w'.heap[b]? = w.heap[b]?) : BxAt w' bx A := by
  obtain ⟨a, cap, h1, h2, h3, h4⟩ := h
  exact ⟨a, cap, (hk bx (Nat.le_refl _)).trans h1, h2, h3, h4.keep fun p hp => World.cell?_of_block (hk _ (Nat.le_of_lt hp))⟩

theorem set_grown (w : World) (bx : Nat) (u : Value) : w.grownBy (w.setCell ⟨bx, 0, none⟩ u) (some bx) :=
  ⟨rfl, rfl, rfl, by simp [World.setCell], fun i _ hne => Below.heap_setCell w ⟨bx, 0, none⟩ u i (fun e => hne (by rw [e]))⟩
/-- The box behind a store. -/
theorem BxAt.put {w : World} {bx : Nat} {old : Value} (h1 : w.heap[bx]? = some (.cells #[old] 25 (0, 0))) {A : List ByteArray} {a : Option Addr} {cap : Nat} (hc : A.length ≤ cap) (hm : cap ≤ maxLen) (hr : Reads w bx 1 a A.length (A.map Value.string)) :
    BxAt (w.setCell ⟨bx, 0, none⟩ (.slice a A.length cap)) bx A := by
  refine ⟨a, cap, by simp [World.setCell, Array.getElem?_modify, h1], hc, hm, hr.setCell (p := ⟨bx, 0, none⟩) (Nat.le_refl _) _⟩

def TkPost (w : World) (bx : Nat) (x : ByteArray) (A : List ByteArray) (e : Ending) (w' : World) : Prop := e = .returned (.string x) ∧ BxAt w' bx A ∧ w.grownBy w' (some bx)

set_option maxRecDepth 100000 in
set_option maxHeartbeats 1000000 in
theorem take_any (x : ByteArray) (A : List ByteArray) (bx : Nat) (w : World) (h : BxAt w bx (x :: A)) :
    Calls Tryd.prog 39 #[.pointer (some ⟨bx, 0, none⟩)] w (TkPost w bx x A) := by
  obtain ⟨a, cap, h1, h2, h3, h4⟩ := h
  obtain ⟨ad, e, hb, hc⟩ := h4.2 (by simp)
  subst e
  have c0 : w.cell? ⟨bx, 0, none⟩ = some (.slice (some ad) (A.length + 1) cap) := by simp [World.cell?, h1]
  have f0 : w.frozen? ⟨bx, 0, none⟩ = false := by simp [World.frozen?, h1]
  have c1 := hc 0 (.string x) rfl
  have hcut := h4.cut (k := 1) (cap := cap) (by simp) h2
  simp only [List.length_cons] at h2
  have H1 := Lib.hid h1
  have HC := Lib.hid hcut
  have hz : ad.add 0 = ad := by unfold Addr.add; simp
  rw [hz] at c1
  unfold maxLen at h3
  obtain ⟨g, off, sp⟩ := ad
  have hsp : sp = none := World.cell?_spot c1
  subst hsp
  clear h1 h4 hcut hc hz
  by_cases hk : cap = 1
  · subst hk
    have hA : A = [] := List.length_eq_zero_iff.1 (by omega)
    subst hA
    go_enter Tryd.func39, Tryd.ntmps39
    go_wp2
    go_ret
    exact ⟨rfl, BxAt.put (A := []) H1.out (by simp) (by unfold maxLen; omega) Reads.none_, set_grown _ _ _⟩
  · rw [if_neg hk] at HC
    go_enter Tryd.func39, Tryd.ntmps39
    go_wp2
    go_ret
    refine ⟨rfl, BxAt.put (A := A) (a := some ⟨g, off + 1, none⟩) (cap := cap - 1) H1.out (by omega) (by unfold maxLen; omega) ?_, set_grown _ _ _⟩
    have := HC.out
    simpa [Addr.add] using this
end Go.Proofs.YtjolhiofllpejaaDoor
