/- slug.Anchors: what its loops keep: the two boxes with rows of strings. -/
import Derived.Test.YtlbioncagkkkoaaDoorKPlMz
import Derived.Maps.AppendAt
import Derived.Maps.OwnIn
namespace Go.Proofs.YtlbioncagkkkoaaDoor
open Go.RowKit Go.Shelf
set_option linter.unusedVariables false
set_option linter.unusedSimpArgs false

attribute [local go_sem] Oper.semAt_some

def Blk.id1 : Blk → Option ByteArray
  | .mk _ _ _ _ _ _ a _ _ => if a.id.data.toList = [] then none else some a.id
def Blk.tx1 : Blk → Option ByteArray
  | .mk k _ _ _ _ _ a li _ => if a.id.data.toList = [] then (if k = 2 then some ⟨(Inl.plainL li).toArray⟩ else none) else none
def Inl.id1 : Inl → Option ByteArray
  | .mk _ _ _ _ a _ _ _ => if a.id.data.toList = [] then none else some a.id
def usedB (l : List Blk) : List ByteArray := l.filterMap Blk.id1
def textB (l : List Blk) : List ByteArray := l.filterMap Blk.tx1
def usedI (l : List Inl) : List ByteArray := l.filterMap Inl.id1

/-- Two boxes, each with a row of strings of its own; below them all as it was. -/
structure TB (S p q : Nat) (W0 : World) (us ts : List ByteArray) (vu vt : Value) (W : World) : Prop where
  bp : Box1 p vu 29 W
  bq : Box1 q vt 29 W
  ou : W.ownsRow (S + 5) 9 1 vu us.length (us.map Value.string)
  ot : W.ownsRow (S + 5) 9 1 vt ts.length (ts.map Value.string)
  ne : ∀ g, vu.ownBlock = some g → vt.ownBlock ≠ some g
  os : W.os = W0.os
  tape : W.tape = W0.tape
  output : W.output = W0.output
  size : S + 5 ≤ W.heap.size
  blk : ∀ b, b < S + 5 → b ≠ p → b ≠ q → W.heap[b]? = W0.heap[b]?

/-- What a round keeps. -/
structure KpA (S : Nat) (W W' : World) : Prop where
  os : W'.os = W.os
  tape : W'.tape = W.tape
  output : W'.output = W.output
  size : W.heap.size ≤ W'.heap.size
  blk : ∀ b, b < S + 5 → b ≠ S + 2 → b ≠ S + 3 → W'.heap[b]? = W.heap[b]?
  cel : ∀ (b : Nat) (cs : Array Value) (t : TypeId) (g : Nat × Nat), W.heap[b]? = some (Obj.cells cs t g) → t ≠ 29 → t ≠ 9 → W'.heap[b]? = some (Obj.cells cs t g)

theorem KpA.trans {S : Nat} {A B C : World} (h : KpA S A B) (k : KpA S B C) : KpA S A C :=
  ⟨k.os.trans h.os, k.tape.trans h.tape, k.output.trans h.output, Nat.le_trans h.size k.size, fun b h1 h2 h3 => (k.blk b h1 h2 h3).trans (h.blk b h1 h2 h3), fun b cs t g h1 h2 h3 => k.cel b cs t g (h.cel b cs t g h1 h2 h3) h2 h3⟩
theorem KpA.grown {S : Nat} {W W' : World} (h : W.grownBy W' none) (hS : S + 5 ≤ W.heap.size) : KpA S W W' :=
  ⟨h.os, h.tape, h.output, h.size, fun b h1 _ _ => h.block b (by omega) (by simp), fun b cs t g h1 _ _ => (h.block b (Array.getElem?_eq_some_iff.1 h1).1 (by simp)).trans h1⟩
theorem KpA.obj {S : Nat} (W : World) (l : Nat) (o o' : Obj) (hl : S + 5 ≤ l) (ho : W.heap[l]? = some o) (hc : o.isCells = false) : KpA S W (W.putObj l o') := by
  refine ⟨rfl, rfl, rfl, by simp [World.putObj], fun b h1 _ _ => World.putObj_heap_other (by omega), fun b cs t g h1 _ _ => ?_⟩
  refine (World.putObj_heap_other ?_).trans h1
  rintro rfl
  rw [ho] at h1
  cases h1
  cases hc
theorem KpA.ok (S : Nat) : KpOk S (KpA S) where
  below h := ⟨h.os, h.tape, h.output, h.size, fun b hb => h.blk b (by omega) (by omega) (by omega)⟩
  yld h hb := h.cel _ _ _ _ hb (by decide) (by decide)
  wlk h hb := h.cel _ _ _ _ hb (by decide) (by decide)

section
variable {S p q : Nat} {W0 W W' : World} {us ts : List ByteArray} {vu vt : Value}
theorem TB.grown (h : TB S p q W0 us ts vu vt W) {row : Option Nat} (hp : p < S + 5) (hq : q < S + 5) (hg : W.grownBy W' row) (hr : ∀ r, row = some r → S + 5 ≤ r ∧ vu.ownBlock ≠ some r ∧ vt.ownBlock ≠ some r) : TB S p q W0 us ts vu vt W' := by
  have hn : ∀ b, b < S + 5 → some b ≠ row := fun b hb e => by have := (hr b e.symm).1; omega
  have hz := h.size
  refine ⟨(hg.block p (by omega) (hn p hp)).trans h.bp, (hg.block q (by omega) (hn q hq)).trans h.bq, h.ou.kept hg ?_, h.ot.kept hg ?_, h.ne, hg.os.trans h.os, hg.tape.trans h.tape, hg.output.trans h.output, Nat.le_trans h.size hg.size, fun b h1 h2 h3 => (hg.block b (by omega) (hn b h1)).trans (h.blk b h1 h2 h3)⟩
  · cases e : vu.ownBlock with
    | none => exact .inl rfl
    | some g => exact .inr fun e2 => (hr g e2.symm).2.1 e
  · cases e : vt.ownBlock with
    | none => exact .inl rfl
    | some g => exact .inr fun e2 => (hr g e2.symm).2.2 e
theorem own_cells {B : Nat} {e : TypeId} {k n : Nat} {v : Value} {xs : List Value} (h : W.ownsRow B e k v n xs) {r : Nat} (hr : v.ownBlock = some r) : ∃ cur, W.heap[r]? = some (.cells cur e (0, 0)) := by
  rcases h.2 with ⟨rfl, _⟩ | ⟨g, cap, cur, rfl, _, hb, _⟩
  · cases hr
  · cases hr; exact ⟨cur, hb⟩
theorem TB.own (h : TB S p q W0 us ts vu vt W) {row : Option Nat} (hp : p < S + 5) (hq : q < S + 5) {B : Nat} (hB : S + 5 ≤ B) (hg : W.grownBy W' row) (hr : ∀ r, row = some r → B ≤ r ∧ ∃ o : Obj, W.heap[r]? = some o ∧ o.isCells = false) : TB S p q W0 us ts vu vt W' := by
  refine h.grown hp hq hg fun r hrr => ?_
  obtain ⟨h1, o, h2, h3⟩ := hr r hrr
  refine ⟨by omega, fun e => ?_, fun e => ?_⟩
  · obtain ⟨cur, hc⟩ := own_cells h.ou e
    rw [hc] at h2; cases h2; cases h3
  · obtain ⟨cur, hc⟩ := own_cells h.ot e
    rw [hc] at h2; cases h2; cases h3

theorem TB.push {W1 w2 : World} {v' : Value} {x : ByteArray} (h : TB S p q W0 us ts vu vt W) (hpq : p = S + 2 ∧ q = S + 3 ∨ p = S + 3 ∧ q = S + 2) (hg : W.grownBy W1 none)
    (hown : w2.ownsRow (S + 5) 9 1 v' (us.length + 1) (us.map Value.string ++ [.string x])) (hg2 : W1.grownBy w2 vu.ownBlock) (hat : v'.ownBlock = vu.ownBlock ∨ v'.ownBlock = some W1.heap.size) (B : Nat) :
    TB S p q W0 (us ++ [x]) ts v' vt (w2.setCell ⟨p, 0, none⟩ v') ∧ KpA S W (w2.setCell ⟨p, 0, none⟩ v') ∧ KeepsFrom B W (w2.setCell ⟨p, 0, none⟩ v') := by
  have hp : p < S + 5 := by omega
  have hq : q < S + 5 := by omega
  have hz := h.size
  have hz1 := hg.size
  have hz2 := hg2.size
  have hul : ∀ b, b < S + 5 → some b ≠ vu.ownBlock := fun b hb e => by have := (h.ou.lt b e.symm).1; omega
  have hvl : ∀ b, b < S + 5 → some b ≠ v'.ownBlock := fun b hb e => by have := (hown.lt b e.symm).1; omega
  have htl : ∀ b, b < S + 5 → some b ≠ vt.ownBlock := fun b hb e => by have := (h.ot.lt b e.symm).1; omega
  have same : ∀ b, b < W.heap.size → b ≠ p → some b ≠ vu.ownBlock → (w2.setCell ⟨p, 0, none⟩ v').heap[b]? = W.heap[b]? := fun b h1 h2 h3 =>
    (Below.heap_setCell w2 ⟨p, 0, none⟩ v' b h2).trans ((hg2.block b (by omega) h3).trans (hg.block b h1 (by simp)))
  have h1 := h.grown hp hq hg (fun r e => by cases e)
  have bp2 : Box1 p vu 29 w2 := (hg2.block p (by omega) (hul p hp)).trans h1.bp
  have bq2 : Box1 q vt 29 w2 := (hg2.block q (by omega) (hul q hq)).trans h1.bq
  have gs := grownBy_setCell' w2 p v'
  have hsz : (w2.setCell ⟨p, 0, none⟩ v').heap.size = w2.heap.size := by simp [World.setCell]
  refine ⟨⟨bp2.set v', bq2.far (by omega) v', ?_, ?_, ?_, ?_, ?_, ?_, by omega, ?_⟩, ⟨?_, ?_, ?_, by omega, ?_, ?_⟩, ⟨by omega, ?_⟩⟩
  · have := hown.kept gs (.inr fun e => hvl p hp e.symm)
    simpa using this
  · refine (h1.ot.kept hg2 ?_).kept gs ?_
    · cases e : vt.ownBlock with
      | none => exact .inl rfl
      | some g => exact .inr fun e2 => h.ne g e2.symm e
    · exact .inr fun e => htl p hp e.symm
  · intro g e1 e2
    rcases hat with e | e
    · exact h.ne g (e ▸ e1) e2
    · have := (h1.ot.lt g e2).2
      rw [e1] at e; cases e; omega
  · exact gs.os.trans (hg2.os.trans h1.os)
  · exact gs.tape.trans (hg2.tape.trans h1.tape)
  · exact gs.output.trans (hg2.output.trans h1.output)
  · intro b h1 h2 h3
    exact (same b (by omega) h2 (hul b h1)).trans (h.blk b h1 h2 h3)
  · exact gs.os.trans (hg2.os.trans hg.os)
  · exact gs.tape.trans (hg2.tape.trans hg.tape)
  · exact gs.output.trans (hg2.output.trans hg.output)
  · intro b h1 h2 h3
    exact same b (by omega) (by omega) (hul b h1)
  · intro b cs t g k1 k2 k3
    refine (same b (Array.getElem?_eq_some_iff.1 k1).1 ?_ ?_).trans k1
    · intro e
      have := h.bp
      unfold Box1 at this
      rw [← e, k1] at this; cases this; exact k2 rfl
    · intro e
      obtain ⟨cur, hc⟩ := own_cells h.ou e.symm
      rw [k1] at hc; cases hc; exact k3 rfl
  · intro b o _ k1 k2
    refine (same b (Array.getElem?_eq_some_iff.1 k1).1 ?_ ?_).trans k1
    · intro e
      have := h.bp
      unfold Box1 at this
      rw [← e, k1] at this; cases this; cases k2
    · intro e
      obtain ⟨cur, hc⟩ := own_cells h.ou e.symm
      rw [k1] at hc; cases hc; cases k2
end

end Go.Proofs.YtlbioncagkkkoaaDoor
