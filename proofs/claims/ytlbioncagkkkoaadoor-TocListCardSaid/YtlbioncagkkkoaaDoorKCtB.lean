/- Maps of the call's own from texts to truth values; what the loops of count.Notes keep. -/
import Derived.Test.YtlbioncagkkkoaaDoorKPlMz
import Derived.Test.YtlbioncagkkkoaaDoorKInlines
import Derived.Test.YtlbioncagkkkoaaDoorKPlOf
import Derived.Maps.AppendAt
namespace Go.Proofs.YtlbioncagkkkoaaDoor
open Go.RowKit Go.Maps
set_option linter.unusedVariables false
set_option linter.unusedSimpArgs false

def BolAt (w : World) (b n : Nat) (f : ByteArray → Bool) : Prop :=
  ∃ D : DataW Unit, w.ownsMap Tryd.prog 9 (plainElem Tryd.prog 4) b n D ∧ ∀ s : ByteArray, D.atKey (sKey s) (.lit (.bool false)) = .lit (.bool (f s))
theorem BolAt.look {w : World} {b n : Nat} {f : ByteArray → Bool} (h : BolAt w b n f) (s : ByteArray) (hs : s.size ≤ maxLen) :
    (Instr.lookup 97 (.map (some b)) (.string s) false).run Tryd.prog w = .ok (.bool (f s)) w := by
  obtain ⟨D, hD, hat⟩ := h
  obtain ⟨v, ps, hrun, hv⟩ := hD.lookup keyS Tryd.underlying97 (zeroB w) (plainElem_bool Tryd.underlying4 false) (sKey_of s hs)
  rw [hat s] at hv
  obtain ⟨x, rfl, hx⟩ := plainB_inv Tryd.underlying4 hv
  have : f s = x := by
    have := (Prod.mk.inj hx).1
    exact Lit.bool.inj (DataW.lit.inj this)
  subst this; exact hrun
theorem BolAt.put {w : World} {b n : Nat} {f : ByteArray → Bool} (h : BolAt w b n f) (s : ByteArray) (x : Bool) (hs : s.size ≤ maxLen) (hn : n < maxLen) :
    ∃ w', (Instr.mapUpdate 97 (.map (some b)) (.string s) (.bool x)).run Tryd.prog w = .ok () w' ∧ BolAt w' b (n + 1) (fun t => if t = s then x else f t) ∧ w.grownBy w' (some b) := by
  obtain ⟨D, hD, hat⟩ := h
  obtain ⟨w', hrun, hD', hg⟩ := hD.update keyS Tryd.underlying97 hn (sKey_of s hs) (plainElem_bool Tryd.underlying4 x)
  refine ⟨w', hrun, ⟨_, hD', fun t => ?_⟩, hg⟩
  by_cases e : t = s
  · subst e
    rw [atKey_put_same (owns_isMap hD) (sKey_lit t)]
    show _ = DataW.lit (.bool (if t = t then x else f t))
    rw [if_pos rfl]
  · rw [atKey_put_other (fun h => e (sKey_inj _ _ h)), hat t]
    show _ = DataW.lit (.bool (if t = s then x else f t))
    rw [if_neg e]
theorem BolAt.made (w : World) : BolAt (w.alloc (.map #[] 0)) w.heap.size 0 (fun _ => false) :=
  ⟨_, World.ownsMap_made w _ _ _, fun s => rfl⟩
theorem BolAt.kept {w w' : World} {b n : Nat} {f : ByteArray → Bool} {row : Option Nat} (h : BolAt w b n f) (hg : w.grownBy w' row) (hne : some b ≠ row) : BolAt w' b n f := by
  obtain ⟨D, hD, hat⟩ := h
  exact ⟨D, hD.kept hg hne, hat⟩
theorem BolAt.lt {w : World} {b n : Nat} {f : ByteArray → Bool} (h : BolAt w b n f) : b < w.heap.size := by
  obtain ⟨D, hD, _⟩ := h; exact hD.lt
theorem BolAt.obj {w : World} {b n : Nat} {f : ByteArray → Bool} (h : BolAt w b n f) : ∃ es c, w.heap[b]? = some (.map es c) := by
  obtain ⟨D, ⟨es, c, h, _⟩, _⟩ := h; exact ⟨es, c, h⟩
theorem BolAt.below {w w' : World} {b n : Nat} {f : ByteArray → Bool} (h : BolAt w b n f) (hb : Below w.heap.size w w') : BolAt w' b n f := h.kept (grown_below hb) (by simp)
theorem BolAt.same {w w' : World} {b n : Nat} {f : ByteArray → Bool} (h : BolAt w b n f) (hb : w'.heap[b]? = w.heap[b]?) : BolAt w' b n f := by
  obtain ⟨D, ⟨es, c, h1, h2, h3⟩, hat⟩ := h
  exact ⟨D, ⟨es, c, hb.trans h1, h2, h3⟩, hat⟩
theorem BolAt.congr {w : World} {b n : Nat} {f g : ByteArray → Bool} (h : BolAt w b n f) (he : ∀ x, f x = g x) : BolAt w b n g := by rw [← funext he]; exact h
end Go.Proofs.YtlbioncagkkkoaaDoor

namespace Go.Proofs.YtlbioncagkkkoaaDoor
open Go.RowKit Go.Shelf
set_option linter.unusedVariables false
set_option linter.unusedSimpArgs false
attribute [local go_sem] Oper.semAt_some

mutual
theorem Blk.each_num : ∀ (x : Blk), x.each.length = x.sz
  | .mk k lv i t d ti a li ks => by rw [Blk.each, Blk.sz, List.length_cons, Blk.eachL_num ks]; omega
theorem Blk.eachL_num : ∀ (l : List Blk), (Blk.eachL l).length = Blk.szL l
  | [] => by rw [Blk.eachL, Blk.szL]; rfl
  | x :: l => by rw [Blk.eachL, Blk.szL, List.length_append, Blk.each_num x, Blk.eachL_num l]
end
def Blk.infoOf : Blk → ByteArray
  | .mk _ _ i _ _ _ _ _ _ => i
/-- The map in block mb, its box in block pb; all else below Q as in W0. -/
structure Nt1 (mb pb Q : Nat) (W0 : World) (bs : List Blk) (W : World) : Prop where
  mp : ∃ n, n ≤ bs.length ∧ BolAt W mb n (hasB (defN bs))
  bx : Box1 pb (.map (some mb)) 97 W
  os : W.os = W0.os
  tape : W.tape = W0.tape
  output : W.output = W0.output
  size : Q ≤ W.heap.size
  blk : ∀ b, b < Q → b ≠ mb → W.heap[b]? = W0.heap[b]?
/-- What a round keeps. -/
structure KpN (mb Q : Nat) (W W' : World) : Prop where
  os : W'.os = W.os
  tape : W'.tape = W.tape
  output : W'.output = W.output
  size : W.heap.size ≤ W'.heap.size
  blk : ∀ b, b < Q → b ≠ mb → W'.heap[b]? = W.heap[b]?
  cel : ∀ (b : Nat) (cs : Array Value) (t : TypeId) (g : Nat × Nat), W.heap[b]? = some (Obj.cells cs t g) → W'.heap[b]? = some (Obj.cells cs t g)
section
variable {mb pb Q : Nat} {W0 W W' : World} {bs : List Blk}
theorem KpN.trans {A B C : World} (h : KpN mb Q A B) (k : KpN mb Q B C) : KpN mb Q A C :=
  ⟨k.os.trans h.os, k.tape.trans h.tape, k.output.trans h.output, Nat.le_trans h.size k.size, fun b h1 h2 => (k.blk b h1 h2).trans (h.blk b h1 h2), fun b cs t g h1 => k.cel b cs t g (h.cel b cs t g h1)⟩
theorem KpN.refl (mb Q : Nat) (W : World) : KpN mb Q W W := ⟨rfl, rfl, rfl, Nat.le_refl _, fun _ _ _ => rfl, fun _ _ _ _ h => h⟩
theorem KpN.grown (h : W.grownBy W' none) (hS : Q ≤ W.heap.size) : KpN mb Q W W' :=
  ⟨h.os, h.tape, h.output, h.size, fun b h1 _ => h.block b (by omega) (by simp), fun b cs t g h1 => (h.block b (Array.getElem?_eq_some_iff.1 h1).1 (by simp)).trans h1⟩
theorem KpN.map (h : W.grownBy W' (some mb)) (hS : Q ≤ W.heap.size) (hm : ∃ es c, W.heap[mb]? = some (.map es c)) : KpN mb Q W W' := by
  refine ⟨h.os, h.tape, h.output, h.size, fun b h1 h2 => h.block b (by omega) (fun e => h2 (Option.some.inj e)), fun b cs t g h1 => (h.block b (Array.getElem?_eq_some_iff.1 h1).1 (fun e => ?_)).trans h1⟩
  obtain ⟨es, c, hm⟩ := hm
  rw [← Option.some.inj e, h1] at hm; cases hm
theorem KpN.obj (W : World) (l : Nat) (o o' : Obj) (hl : Q ≤ l) (ho : W.heap[l]? = some o) (hc : o.isCells = false) : KpN mb Q W (W.putObj l o') := by
  refine ⟨rfl, rfl, rfl, by simp [World.putObj], fun b h1 _ => World.putObj_heap_other (by omega), fun b cs t g h1 => ?_⟩
  refine (World.putObj_heap_other ?_).trans h1
  rintro rfl
  rw [ho] at h1
  cases h1
  cases hc
theorem KpN.ok {S : Nat} (h1 : S ≤ mb) (h2 : S ≤ Q) : KpOk S (KpN mb Q) where
  below h := ⟨h.os, h.tape, h.output, h.size, fun b hb => h.blk b (by omega) (by omega)⟩
  yld h hb := h.cel _ _ _ _ hb
  wlk h hb := h.cel _ _ _ _ hb
theorem Nt1.grown (h : Nt1 mb pb Q W0 bs W) {row : Option Nat} (hg : W.grownBy W' row) (hr : ∀ r, row = some r → Q ≤ r) (hm : mb < Q) (hp : pb < Q) : Nt1 mb pb Q W0 bs W' := by
  have hz := h.size
  have hn : ∀ b, b < Q → some b ≠ row := fun b hb e => by have := hr b e.symm; omega
  obtain ⟨n, hn1, hn2⟩ := h.mp
  exact ⟨⟨n, hn1, hn2.kept hg (hn _ hm)⟩, (hg.block pb (by omega) (hn _ hp)).trans h.bx, hg.os.trans h.os, hg.tape.trans h.tape, hg.output.trans h.output, Nat.le_trans h.size hg.size, fun b h1 h2 => (hg.block b (by omega) (hn b h1)).trans (h.blk b h1 h2)⟩
theorem defN_snoc (bs : List Blk) (x : Blk) : defN (bs ++ [x]) = defN bs ++ defN [x] := by unfold defN; rw [List.filterMap_append]
theorem hasB_app (l m : List ByteArray) (t : ByteArray) : hasB (l ++ m) t = (hasB l t || hasB m t) := by unfold hasB; rw [List.any_append]
theorem Nt1.skip (h : Nt1 mb pb Q W0 bs W) (x : Blk) (hx : x.kindOf ≠ 14) : Nt1 mb pb Q W0 (bs ++ [x]) W := by
  obtain ⟨n, hn1, hn2⟩ := h.mp
  have e : defN [x] = [] := by
    obtain ⟨k, lv, i, t, d, ti, a, li, ks⟩ := x
    have hx : k ≠ 14 := hx
    simp [defN, hx]
  exact { h with mp := ⟨n, by simp; omega, by rw [defN_snoc, e, List.append_nil]; exact hn2⟩ }
theorem Nt1.put (h : Nt1 mb pb Q W0 bs W) (x : Blk) (hx : x.kindOf = 14) (hp : pb ≠ mb) {n : Nat} (hn : n ≤ bs.length) (hg : W.grownBy W' (some mb)) (hb : BolAt W' mb (n + 1) (fun t => if t = x.infoOf then true else hasB (defN bs) t)) (hpq : pb < Q) : Nt1 mb pb Q W0 (bs ++ [x]) W' := by
  have hz := h.size
  have ne : ∀ b, b ≠ mb → some b ≠ some mb := fun b hb e => hb (Option.some.inj e)
  refine ⟨⟨n + 1, by simp; omega, hb.congr fun t => ?_⟩, (hg.block pb (by omega) (ne _ hp)).trans h.bx, hg.os.trans h.os, hg.tape.trans h.tape, hg.output.trans h.output, Nat.le_trans h.size hg.size, fun b h1 h2 => (hg.block b (by omega) (ne b h2)).trans (h.blk b h1 h2)⟩
  obtain ⟨k, lv, i, t', d, ti, a, li, ks⟩ := x
  have hx : k = 14 := hx
  have e : defN [Blk.mk k lv i t' d ti a li ks] = [i] := by simp [defN, hx]
  rw [defN_snoc, e, hasB_app]
  show (if t = i then true else hasB (defN bs) t) = _
  by_cases ht : t = i
  · rw [if_pos ht, ht]; simp [hasB]
  · rw [if_neg ht]
    have : hasB [i] t = false := by rw [hasB_no]; simp [ht]
    rw [this, Bool.or_false]
end
theorem noteG_snoc (defs : List ByteArray) : ∀ (l : List Inl) (k : Nat) (x : Inl) (out : List ByteArray), l[k]? = some x →
    noteG defs out (l.take (k + 1)) = (if x.kd = 12 ∧ hasB defs x.tx = true ∧ hasB (noteG defs out (l.take k)) x.tx = false then noteG defs out (l.take k) ++ [x.tx] else noteG defs out (l.take k))
  | [], _, _, _, h => by simp at h
  | y :: l, 0, x, out, h => by
    simp at h; subst h
    simp [noteG]
  | y :: l, k + 1, x, out, h => by
    rw [List.take_succ_cons, List.take_succ_cons, noteG, noteG]
    exact noteG_snoc defs l k x _ (by simpa using h)
end Go.Proofs.YtlbioncagkkkoaaDoor
