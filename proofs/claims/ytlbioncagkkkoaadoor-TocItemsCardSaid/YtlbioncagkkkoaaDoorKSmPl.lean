/- The contract of slug.named. slug.Anchors: what its second loop keeps. slug.Anchors. Plain part: the identifiers of a document, in the reference's order and in the program's. Plain part: what a small document's parts are bounded by, for layer 21. -/
import Derived.Test.YtlbioncagkkkoaaDoorKTcM
import Derived.Deep.RegionWith
import Derived.Test.YtlbioncagkkkoaaDoorKAnchW
import Derived.Test.YtlbioncagkkkoaaDoorKSlugAll
import Derived.Test.YtlbioncagkkkoaaDoorKAppend
import Derived.Test.YtlbioncagkkkoaaDoorKInlines
import Derived.Test.YtlbioncagkkkoaaDoorKPlMz
namespace Go.Proofs.YtlbioncagkkkoaaDoor
open Go.RowKit
set_option linter.unusedVariables false
set_option linter.unusedSimpArgs false

/-- The state of a round of slug.named: as CL, and the box bx with the anchors that are left. -/
structure NL (w : World) (bx p : Nat) (cs : List Value) (v : Value) (n : Nat) (rows : List (List Value)) (l : List Blk) (A : List ByteArray) (wr : World) : Prop where
  own : wr.ownsRow w.heap.size 35 11 v n rows.flatten
  red : RdL (fun b => w.heap.size ≤ b ∧ v.ownBlock ≠ some b ∧ b ≠ p) wr (l.map Blk.d) rows
  pb : QB p cs wr
  gro : w.grownBy wr (some bx)
  box : BxAt wr bx A
section
variable {w : World} {bx p : Nat} {cs : List Value} {v : Value} {n : Nat} {rows : List (List Value)} {l : List Blk} {A A' : List ByteArray} {wr w' : World}
theorem NL.grown (h : NL w bx p cs v n rows l A wr) (hbx : bx < w.heap.size) (hg : wr.grownBy w' none) : NL w bx p cs v n rows l A w' :=
  ⟨h.own.kept hg (by cases v.ownBlock <;> simp), RdL.keep (fun b hb hlt => ⟨hb, hg.block b hlt (by simp)⟩) _ _ h.red, h.pb.grown hg (by simp),
    grown_trans h.gro ⟨hg.os, hg.tape, hg.output, hg.size, fun i hi _ => hg.block i hi (by simp)⟩, h.box.keep fun b hb => hg.block b (by have := h.gro.size; omega) (by simp)⟩
theorem NL.set (h : NL w bx p cs v n rows l A wr) (hp : w.heap.size ≤ p) (hbx : bx < w.heap.size) (hv : v.ownBlock ≠ some p) (j : Nat) (u : Value) : NL w bx p (cs.set j u) v n rows l A (wr.setCell ⟨p, j, none⟩ u) :=
  ⟨own_set h.own ⟨p, j, none⟩ u hv, RdL.keep (fun b hb hlt => ⟨hb, Below.heap_setCell wr ⟨p, j, none⟩ u b hb.2.2⟩) _ _ h.red, h.pb.set j u,
    ⟨h.gro.os, h.gro.tape, h.gro.output, by have := h.gro.size; simpa [World.setCell] using this, fun i hi hne => (Below.heap_setCell wr ⟨p, j, none⟩ u i (by show i ≠ p; omega)).trans (h.gro.block i hi hne)⟩,
    h.box.keep fun b hb => Below.heap_setCell wr ⟨p, j, none⟩ u b (by show b ≠ p; omega)⟩
theorem NL.drew (h : NL w bx p cs v n rows l A wr) : NL w bx p cs v n rows l A wr.drew :=
  ⟨h.own, RdL.keep (w := wr) (w' := wr.drew) (fun b hb _ => ⟨hb, rfl⟩) _ _ h.red, h.pb, ⟨h.gro.os, h.gro.tape, h.gro.output, h.gro.size, h.gro.block⟩, h.box.keep fun b _ => rfl⟩
theorem NL.below (h : NL w bx p cs v n rows l A wr) {B : Nat} (hB : B ≤ bx) (hbx : bx < w.heap.size) : Below B w wr :=
  ⟨h.gro.os, h.gro.tape, h.gro.output, h.gro.size, fun i hi => h.gro.block i (by omega) (by intro e; have := Option.some.inj e; omega)⟩
end
end Go.Proofs.YtlbioncagkkkoaaDoor

namespace Go.Proofs.YtlbioncagkkkoaaDoor
open Go.RowKit Go.Shelf
set_option linter.unusedVariables false
set_option linter.unusedSimpArgs false

theorem KpA.refl (S : Nat) (W : World) : KpA S W W := ⟨rfl, rfl, rfl, Nat.le_refl _, fun _ _ _ _ => rfl, fun _ _ _ _ h _ _ => h⟩
theorem TB.bel {S p q : Nat} {w W0 W : World} {us ts : List ByteArray} {vu vt : Value} (h : TB S p q W0 us ts vu vt W) (hp : S ≤ p) (hq : S ≤ q) (hb : Below S w W0) (hS : S = w.heap.size) : Below S w W :=
  ⟨h.os.trans hb.os, h.tape.trans hb.tape, h.output.trans hb.output, by have := h.size; omega, fun b hlt => (h.blk b (by omega) (by omega) (by omega)).trans (hb.block b hlt)⟩
/-- What is known ahead of slug.named. -/
structure AF (S D bx : Nat) (w : World) (A : List ByteArray) (vm vb : Value) (W : World) : Prop where
  bel : Below S w W
  doc : W.heap[S]? = some (.cells #[vm, vb] 44 (0, 0))
  res : W.heap[S + 1]? = some (.cells #[.slice none 0 0, .slice none 0 0] 44 (0, 0))
  box : BxAt W bx A
  dfr : W.heap[D]? = some (.deferred (some []))
  lt : bx < W.heap.size
section
variable {S D bx : Nat} {w W W' : World} {A : List ByteArray} {vm vb : Value}
theorem at_lt {o : Obj} {b : Nat} (h : W.heap[b]? = some o) : b < W.heap.size := (Array.getElem?_eq_some_iff.1 h).1
theorem AF.grown (h : AF S D bx w A vm vb W) (hg : W.grownBy W' none) (hS : S ≤ W.heap.size) : AF S D bx w A vm vb W' :=
  ⟨⟨hg.os.trans h.bel.os, hg.tape.trans h.bel.tape, hg.output.trans h.bel.output, Nat.le_trans h.bel.size hg.size, fun b hb => (hg.block b (by omega) (by simp)).trans (h.bel.block b hb)⟩,
    (hg.block _ (at_lt h.doc) (by simp)).trans h.doc, (hg.block _ (at_lt h.res) (by simp)).trans h.res, h.box.keep (fun b hb => hg.block b (by have := h.lt; omega) (by simp)), (hg.block _ (at_lt h.dfr) (by simp)).trans h.dfr, Nat.lt_of_lt_of_le h.lt hg.size⟩
theorem AF.c0 (h : AF S D bx w A vm vb W) : W.cell? ⟨S, 0, none⟩ = some vm := by simp [World.cell?, h.doc]
theorem AF.c1 (h : AF S D bx w A vm vb W) : W.cell? ⟨S, 1, none⟩ = some vb := by simp [World.cell?, h.doc]
end
end Go.Proofs.YtlbioncagkkkoaaDoor

namespace Go.Proofs.YtlbioncagkkkoaaDoor
open Go.RowKit Go.Shelf
set_option linter.unusedVariables false
set_option linter.unusedSimpArgs false

attribute [local go_sem] Oper.semAt_some

def Blk.plLen : Blk → Nat
  | .mk _ _ _ _ _ _ _ li _ => (Inl.plainL li).length
/-- What the loop over the blocks holds. -/
def plOk (b : Blk) : Prop := b.plLen ≤ 100000000
def AnI (S : Nat) (w W0 : World) (pre : List (BW S w plOk)) (W : World) : Prop :=
  ∃ vu vt, TB S (S + 2) (S + 3) W0 (usedB (blksOf pre)) (textB (blksOf pre)) vu vt W

/-- The cells of a block. -/
def BV.cellsA (x : BV) : List Value := [.int .i64 x.kd, .int .i64 x.lv, .string x.i, .string x.t, .string x.d, .string x.ti, .string x.at_.id, x.vc, x.vp, x.vl, x.vk]
/-- The frame in a round: the block lies in a box. -/
def AnA (S : Nat) (vm vb : Value) (x : BV) (Bx : Nat) : Act :=
  { tmps := #[.agg #[vm, vb], .pointer (some ⟨S, 0, none⟩), .pointer (some ⟨S + 1, 0, none⟩), .pointer (some ⟨S + 2, 0, none⟩), .pointer (some ⟨S + 3, 0, none⟩), .pointer (some ⟨Bx, 0, none⟩), undef, undef, undef, undef, .pointer (some ⟨S, 1, none⟩), vb, .func (.func 67) #[] #[.pointer (some ⟨S + 4, 0, none⟩)], x.enc, undef, undef, undef, undef, undef, undef, undef, undef, undef, undef, undef, undef, undef, undef, undef, undef, undef, undef, undef, undef, undef, undef, undef, undef, undef, undef, undef, undef, undef, undef, undef, undef, undef, undef, undef, undef, undef, undef, undef, undef, undef, undef, undef, undef, undef, undef, undef, undef, undef, undef], defers := [] }
def AnX (S : Nat) (vm vb : Value) (x : BV) (a' : Act) (W : World) : Prop := ∃ Bx, S + 5 ≤ Bx ∧ QB Bx x.cellsA W ∧ a' = AnA S vm vb x Bx

theorem AnI.own {S : Nat} {w W0 : World} {B : Nat} (hB : S + 5 ≤ B) : OwnFrom B (AnI S w W0) := fun s W W' row ⟨vu, vt, h⟩ hg hr => ⟨vu, vt, h.own (by omega) (by omega) hB hg hr⟩
theorem AnX.own {S B : Nat} {vm vb : Value} {x : BV} {a' : Act} : OwnFrom B (fun (_ : Unit) W => AnX S vm vb x a' W) := fun _ W W' row ⟨Bx, h1, h2, h3⟩ hg hr =>
  ⟨Bx, h1, h2.grown hg (fun e => by
    obtain ⟨_, o, k1, k2⟩ := hr Bx e.symm
    unfold QB at h2
    rw [h2] at k1; cases k1; cases k2), h3⟩
theorem AnI.grown {S : Nat} {w W0 W W' : World} {pre : List (BW S w plOk)} (h : AnI S w W0 pre W) (hg : W.grownBy W' none) : AnI S w W0 pre W' := by
  obtain ⟨vu, vt, h⟩ := h
  exact ⟨vu, vt, h.grown (by omega) (by omega) hg (fun r e => by cases e)⟩

end Go.Proofs.YtlbioncagkkkoaaDoor

namespace Go.Proofs.YtlbioncagkkkoaaDoor
set_option linter.unusedVariables false
set_option linter.unusedSimpArgs false

def idL (a : At) : List ByteArray := if a.id.data.toList = [] then [] else [a.id]
mutual
def Blk.ids : Blk → List ByteArray
  | .mk _ _ _ _ _ _ a li ks => idL a ++ usedI (Inl.deepL li) ++ Blk.idsL ks
def Blk.idsL : List Blk → List ByteArray
  | [] => []
  | x :: l => x.ids ++ Blk.idsL l
end
theorem Blk.idsL_app (l m : List Blk) : Blk.idsL (l ++ m) = Blk.idsL l ++ Blk.idsL m := by
  induction l with
  | nil => rw [Blk.idsL]; rfl
  | cons x l ih => rw [List.cons_append, Blk.idsL, Blk.idsL, ih, List.append_assoc]
theorem Blk.idsL_snoc (l : List Blk) (k : Nat) (x : Blk) (h : l[k]? = some x) : Blk.idsL (l.take (k + 1)) = Blk.idsL (l.take k) ++ x.ids := by
  rw [List.take_add_one, h, Blk.idsL_app]
  simp [Blk.idsL]
theorem idL_len (a : At) : (idL a).length ≤ 1 := by unfold idL; split <;> simp
theorem usedI_le (l : List Inl) : (usedI l).length ≤ l.length := List.length_filterMap_le _ _
mutual
theorem Blk.ids_len : ∀ (b : Blk), b.ids.length ≤ b.sz + b.inls.length
  | .mk _ _ _ _ _ _ a li ks => by
    rw [Blk.ids, Blk.sz, Blk.inls]
    have h1 := idL_len a
    have h2 := usedI_le (Inl.deepL li)
    have h3 := Blk.idsL_len ks
    simp only [List.length_append]
    omega
theorem Blk.idsL_len : ∀ (l : List Blk), (Blk.idsL l).length ≤ Blk.szL l + (Blk.inlsL l).length
  | [] => by rw [Blk.idsL]; simp
  | b :: l => by
    rw [Blk.idsL, Blk.szL, Blk.inlsL]
    have h1 := Blk.ids_len b
    have h2 := Blk.idsL_len l
    simp only [List.length_append]
    omega
end
theorem Blk.inlsL_get : ∀ (l : List Blk) (k : Nat) (x : Blk), l[k]? = some x → x.inls.length ≤ (Blk.inlsL l).length
  | [], _, _, h => by simp at h
  | y :: l, 0, x, h => by simp at h; subst h; rw [Blk.inlsL, List.length_append]; omega
  | y :: l, k + 1, x, h => by
    have := Blk.inlsL_get l k x (by simpa using h)
    rw [Blk.inlsL, List.length_append]; omega
theorem Blk.idsL_takeLen (l : List Blk) (k : Nat) : (Blk.idsL (l.take k)).length ≤ Blk.szL l + (Blk.inlsL l).length := by
  have h := Blk.idsL_len l
  have e := Blk.idsL_app (l.take k) (l.drop k)
  rw [List.take_append_drop] at e
  have := congrArg List.length e
  rw [List.length_append] at this
  omega
end Go.Proofs.YtlbioncagkkkoaaDoor

namespace Go.Proofs.YtlbioncagkkkoaaDoor
set_option linter.unusedVariables false
set_option linter.unusedSimpArgs false

end Go.Proofs.YtlbioncagkkkoaaDoor
