/- The walk of publisherlaw04.TreeMeasures: what its first loop keeps: a box with a row of blocks of its own. -/
import Derived.Test.YtcfplilbhkaihaaGreatDoorSmPlA
import Derived.Maps.AppendAt
import Derived.Maps.OwnIn
namespace Go.Proofs.YtcfplilbhkaihaaGreatDoor
open Go.RowKit Go.Shelf
set_option linter.unusedVariables false
set_option linter.unusedSimpArgs false

attribute [local go_sem] Oper.semAt_some

mutual
theorem Blk.each_eq : ∀ (x : Blk), x.each.length = x.sz
  | .mk k lv i t d ti a li ks => by rw [Blk.each, Blk.sz, List.length_cons, Blk.eachL_eq ks]; omega
theorem Blk.eachL_eq : ∀ (l : List Blk), (Blk.eachL l).length = Blk.szL l
  | [] => by rw [Blk.eachL, Blk.szL]; rfl
  | x :: l => by rw [Blk.eachL, Blk.szL, List.length_append, Blk.each_eq x, Blk.eachL_eq l]
end
/-- The cells of a block. -/
def BV.cells (x : BV) : List Value := [.int .i64 x.kd, .int .i64 x.lv, .string x.i, .string x.t, .string x.d, .string x.ti, .string x.at_.id, x.vc, x.vp, x.vl, x.vk]
theorem own_cells {W : World} {B : Nat} {e : TypeId} {k n : Nat} {v : Value} {xs : List Value} (h : W.ownsRow B e k v n xs) {r : Nat} (hr : v.ownBlock = some r) : ∃ cur, W.heap[r]? = some (.cells cur e (0, 0)) := by
  rcases h.2 with ⟨rfl, _⟩ | ⟨g, cap, cur, rfl, _, hb, _⟩
  · cases hr
  · cases hr; exact ⟨cur, hb⟩

/-- A box with a row of blocks of its own; below them all as it was. -/
structure MB (S Q : Nat) (w W0 : World) (bs : List Blk) (v : Value) (rows : List (List Value)) (W : World) : Prop where
  bp : Box1 Q v 23 W
  ou : W.ownsRow (Q + 2) 36 11 v bs.length rows.flatten
  rd : RdL (· < S) w (bs.map Blk.d) rows
  r11 : ∀ r ∈ rows, r.length = 11
  os : W.os = W0.os
  tape : W.tape = W0.tape
  output : W.output = W0.output
  size : Q + 2 ≤ W.heap.size
  blk : ∀ b, b < Q + 2 → b ≠ Q → W.heap[b]? = W0.heap[b]?
/-- What a round keeps. -/
structure KpM (Q : Nat) (W W' : World) : Prop where
  os : W'.os = W.os
  tape : W'.tape = W.tape
  output : W'.output = W.output
  size : W.heap.size ≤ W'.heap.size
  blk : ∀ b, b < Q + 2 → b ≠ Q → W'.heap[b]? = W.heap[b]?
  cel : ∀ (b : Nat) (cs : Array Value) (t : TypeId) (g : Nat × Nat), W.heap[b]? = some (Obj.cells cs t g) → t ≠ 23 → t ≠ 36 → W'.heap[b]? = some (Obj.cells cs t g)
theorem KpM.trans {S : Nat} {A B C : World} (h : KpM S A B) (k : KpM S B C) : KpM S A C :=
  ⟨k.os.trans h.os, k.tape.trans h.tape, k.output.trans h.output, Nat.le_trans h.size k.size, fun b h1 h2 => (k.blk b h1 h2).trans (h.blk b h1 h2), fun b cs t g h1 h2 h3 => k.cel b cs t g (h.cel b cs t g h1 h2 h3) h2 h3⟩
theorem KpM.refl (S : Nat) (W : World) : KpM S W W := ⟨rfl, rfl, rfl, Nat.le_refl _, fun _ _ _ => rfl, fun _ _ _ _ h _ _ => h⟩
theorem KpM.grown {S : Nat} {W W' : World} (h : W.grownBy W' none) (hS : S + 2 ≤ W.heap.size) : KpM S W W' :=
  ⟨h.os, h.tape, h.output, h.size, fun b h1 _ => h.block b (by omega) (by simp), fun b cs t g h1 _ _ => (h.block b (Array.getElem?_eq_some_iff.1 h1).1 (by simp)).trans h1⟩
theorem KpM.obj {S : Nat} (W : World) (l : Nat) (o o' : Obj) (hl : S + 2 ≤ l) (ho : W.heap[l]? = some o) (hc : o.isCells = false) : KpM S W (W.putObj l o') := by
  refine ⟨rfl, rfl, rfl, by simp [World.putObj], fun b h1 _ => World.putObj_heap_other (by omega), fun b cs t g h1 _ _ => ?_⟩
  refine (World.putObj_heap_other ?_).trans h1
  rintro rfl
  rw [ho] at h1
  cases h1
  cases hc
theorem KpM.ok {S Q : Nat} (hSQ : S ≤ Q) : KpOk S (KpM Q) where
  below h := ⟨h.os, h.tape, h.output, h.size, fun b hb => h.blk b (by omega) (by omega)⟩
  yld h hb := h.cel _ _ _ _ hb (by decide) (by decide)
  wlk h hb := h.cel _ _ _ _ hb (by decide) (by decide)

section
variable {S Q : Nat} {w W0 W W' : World} {bs : List Blk} {v : Value} {rows : List (List Value)}
theorem MB.grown (h : MB S Q w W0 bs v rows W) {row : Option Nat} (hg : W.grownBy W' row) (hr : ∀ r, row = some r → Q + 2 ≤ r ∧ v.ownBlock ≠ some r) : MB S Q w W0 bs v rows W' := by
  have hn : ∀ b, b < Q + 2 → some b ≠ row := fun b hb e => by have := (hr b e.symm).1; omega
  have hz := h.size
  refine ⟨(hg.block Q (by omega) (hn Q (by omega))).trans h.bp, h.ou.kept hg ?_, h.rd, h.r11, hg.os.trans h.os, hg.tape.trans h.tape, hg.output.trans h.output, Nat.le_trans h.size hg.size, fun b h1 h2 => (hg.block b (by omega) (hn b h1)).trans (h.blk b h1 h2)⟩
  cases e : v.ownBlock with
  | none => exact .inl rfl
  | some g => exact .inr fun e2 => (hr g e2.symm).2 e
theorem MB.own (h : MB S Q w W0 bs v rows W) {row : Option Nat} {B : Nat} (hB : Q + 2 ≤ B) (hg : W.grownBy W' row) (hr : ∀ r, row = some r → B ≤ r ∧ ∃ o : Obj, W.heap[r]? = some o ∧ o.isCells = false) : MB S Q w W0 bs v rows W' := by
  refine h.grown hg fun r hrr => ?_
  obtain ⟨h1, o, h2, h3⟩ := hr r hrr
  refine ⟨by omega, fun e => ?_⟩
  obtain ⟨cur, hc⟩ := own_cells h.ou e
  rw [hc] at h2; cases h2; cases h3

/-- A store of eleven cells. -/
def elv (w : World) (g o : Nat) (c0 c1 c2 c3 c4 c5 c6 c7 c8 c9 c10 : Value) : World :=
  ((((((((((w.setCell ⟨g, o + 0, none⟩ c0).setCell ⟨g, o + 1, none⟩ c1).setCell ⟨g, o + 2, none⟩ c2).setCell ⟨g, o + 3, none⟩ c3).setCell ⟨g, o + 4, none⟩ c4).setCell ⟨g, o + 5, none⟩ c5).setCell ⟨g, o + 6, none⟩ c6).setCell ⟨g, o + 7, none⟩ c7).setCell ⟨g, o + 8, none⟩ c8).setCell ⟨g, o + 9, none⟩ c9).setCell ⟨g, o + 10, none⟩ c10
theorem stored_e {w : World} {B g m cap : Nat} {e : TypeId} {xs zs : List Value} (h : w.ownsRow B e 11 (.slice (some ⟨g, 0, none⟩) (m + 1) cap) (m + 1) (xs ++ zs)) (hx : xs.length = m * 11) (j : Nat) (u : Value) :
    (w.setCell ⟨g, m * 11 + j, none⟩ u).ownsRow B e 11 (.slice (some ⟨g, 0, none⟩) (m + 1) cap) (m + 1) (xs ++ zs.set j u) := by
  have := (h.stored (m * 11 + j) u).1
  rw [List.set_append_right _ _ (by omega), hx, Nat.add_sub_cancel_left] at this
  exact this
theorem elv_own {w : World} {B g m cap : Nat} {e : TypeId} {xs zs : List Value} (c0 c1 c2 c3 c4 c5 c6 c7 c8 c9 c10 : Value) (h : w.ownsRow B e 11 (.slice (some ⟨g, 0, none⟩) (m + 1) cap) (m + 1) (xs ++ zs)) (hx : xs.length = m * 11) (hz : zs.length = 11) :
    (elv w g (m * 11) c0 c1 c2 c3 c4 c5 c6 c7 c8 c9 c10).ownsRow B e 11 (.slice (some ⟨g, 0, none⟩) (m + 1) cap) (m + 1) (xs ++ [c0, c1, c2, c3, c4, c5, c6, c7, c8, c9, c10]) := by
  obtain ⟨z0, z1, z2, z3, z4, z5, z6, z7, z8, z9, z10, rfl⟩ : ∃ z0 z1 z2 z3 z4 z5 z6 z7 z8 z9 z10, zs = [z0, z1, z2, z3, z4, z5, z6, z7, z8, z9, z10] := by
    match zs, hz with
    | [z0, z1, z2, z3, z4, z5, z6, z7, z8, z9, z10], _ => exact ⟨_, _, _, _, _, _, _, _, _, _, _, rfl⟩
  have h := stored_e h hx 0 c0
  have h := stored_e h hx 1 c1
  have h := stored_e h hx 2 c2
  have h := stored_e h hx 3 c3
  have h := stored_e h hx 4 c4
  have h := stored_e h hx 5 c5
  have h := stored_e h hx 6 c6
  have h := stored_e h hx 7 c7
  have h := stored_e h hx 8 c8
  have h := stored_e h hx 9 c9
  have h := stored_e h hx 10 c10
  exact h
theorem elv_heap (w : World) (g o : Nat) (c0 c1 c2 c3 c4 c5 c6 c7 c8 c9 c10 : Value) (b : Nat) (hb : b ≠ g) : (elv w g o c0 c1 c2 c3 c4 c5 c6 c7 c8 c9 c10).heap[b]? = w.heap[b]? := by
  unfold elv
  iterate 11 rw [Below.heap_setCell _ _ _ b hb]
theorem elv_size (w : World) (g o : Nat) (c0 c1 c2 c3 c4 c5 c6 c7 c8 c9 c10 : Value) : (elv w g o c0 c1 c2 c3 c4 c5 c6 c7 c8 c9 c10).heap.size = w.heap.size := by
  unfold elv
  simp [World.setCell]

theorem set_ot (w : World) (p : Addr) (u : Value) : (w.setCell p u).os = w.os ∧ (w.setCell p u).tape = w.tape ∧ (w.setCell p u).output = w.output := by unfold World.setCell; exact ⟨rfl, rfl, rfl⟩
theorem elv_ot (w : World) (g o : Nat) (c0 c1 c2 c3 c4 c5 c6 c7 c8 c9 c10 : Value) : (elv w g o c0 c1 c2 c3 c4 c5 c6 c7 c8 c9 c10).os = w.os ∧ (elv w g o c0 c1 c2 c3 c4 c5 c6 c7 c8 c9 c10).tape = w.tape ∧ (elv w g o c0 c1 c2 c3 c4 c5 c6 c7 c8 c9 c10).output = w.output := by
  unfold elv
  refine ⟨?_, ?_, ?_⟩
  · iterate 11 rw [(set_ot _ _ _).1]
  · iterate 11 rw [(set_ot _ _ _).2.1]
  · iterate 11 rw [(set_ot _ _ _).2.2]
theorem ot_trans {a b c : World} (h : a.os = b.os ∧ a.tape = b.tape ∧ a.output = b.output) (k : b.os = c.os ∧ b.tape = c.tape ∧ b.output = c.output) : a.os = c.os ∧ a.tape = c.tape ∧ a.output = c.output := ⟨h.1.trans k.1, h.2.1.trans k.2.1, h.2.2.trans k.2.2⟩
/-- Behind the append and the two stores, in either order: w3. -/
theorem MB.push {W1 w2 w3 : World} {x : Blk} {g cap : Nat} {cs : List Value} {zs : List Value} (h : MB S Q w W0 bs v rows W) (hg : W.grownBy W1 none)
    (hown : w2.ownsRow (Q + 2) 36 11 (.slice (some ⟨g, 0, none⟩) (bs.length + 1) cap) (bs.length + 1) (rows.flatten ++ zs)) (hg2 : W1.grownBy w2 v.ownBlock)
    (hat : (Value.slice (some ⟨g, 0, none⟩) (bs.length + 1) cap).ownBlock = v.ownBlock ∨ (Value.slice (some ⟨g, 0, none⟩) (bs.length + 1) cap).ownBlock = some W1.heap.size)
    (hx : Rd (· < S) w x.d cs) (hcs : cs.length = 11)
    (e1 : Box1 Q (.slice (some ⟨g, 0, none⟩) (bs.length + 1) cap) 23 w3) (e2 : w3.ownsRow (Q + 2) 36 11 (.slice (some ⟨g, 0, none⟩) (bs.length + 1) cap) (bs.length + 1) (rows.flatten ++ cs))
    (e3 : ∀ b, b ≠ Q → b ≠ g → w3.heap[b]? = w2.heap[b]?) (e4 : w3.heap.size = w2.heap.size) (e5 : w3.os = w2.os ∧ w3.tape = w2.tape ∧ w3.output = w2.output) (B : Nat) :
    MB S Q w W0 (bs ++ [x]) (.slice (some ⟨g, 0, none⟩) (bs.length + 1) cap) (rows ++ [cs]) w3 ∧ KpM Q W w3 ∧ KeepsFrom B W w3 := by
  have hz := h.size
  have hz1 := hg.size
  have hz2 := hg2.size
  have hul : ∀ b, b < Q + 2 → some b ≠ v.ownBlock := fun b hb e => by have := (h.ou.lt b e.symm).1; omega
  have hgl : Q + 2 ≤ g := (hown.lt g rfl).1
  have same : ∀ b, b < W.heap.size → b ≠ Q → b ≠ g → some b ≠ v.ownBlock → w3.heap[b]? = W.heap[b]? := fun b h1 h2 h3 h4 =>
    (e3 b h2 h3).trans ((hg2.block b (by omega) h4).trans (hg.block b h1 (by simp)))
  have hgv : ∀ b, b < W.heap.size → b = g → some b = v.ownBlock := by
    rintro b hb rfl
    rcases hat with e | e
    · exact e
    · have : b = W1.heap.size := by simpa [Value.ownBlock] using e
      omega
  refine ⟨⟨e1, ?_, ?_, ?_, ?_, ?_, ?_, by omega, ?_⟩, ⟨?_, ?_, ?_, by omega, ?_, ?_⟩, ⟨by omega, ?_⟩⟩
  · rw [List.length_append, List.flatten_append]; simpa using e2
  · rw [List.map_append]; exact RdL.app h.rd (RdL.one hx)
  · intro r hr
    rcases List.mem_append.1 hr with hr | hr
    · exact h.r11 r hr
    · simp at hr; subst hr; exact hcs
  · exact e5.1.trans (hg2.os.trans (hg.os.trans h.os))
  · exact e5.2.1.trans (hg2.tape.trans (hg.tape.trans h.tape))
  · exact e5.2.2.trans (hg2.output.trans (hg.output.trans h.output))
  · intro b h1 h2
    exact (same b (by omega) h2 (by omega) (hul b h1)).trans (h.blk b h1 h2)
  · exact e5.1.trans (hg2.os.trans hg.os)
  · exact e5.2.1.trans (hg2.tape.trans hg.tape)
  · exact e5.2.2.trans (hg2.output.trans hg.output)
  · intro b h1 h2
    exact same b (by omega) h2 (by omega) (hul b h1)
  · intro b cs t gg k1 k2 k3
    have hb := (Array.getElem?_eq_some_iff.1 k1).1
    have hnv : some b ≠ v.ownBlock := by
      intro e
      obtain ⟨cur, hc⟩ := own_cells h.ou e.symm
      rw [k1] at hc; cases hc; exact k3 rfl
    refine (same b hb ?_ (fun e => hnv (hgv b hb e)) hnv).trans k1
    intro e
    have := h.bp
    unfold Box1 at this
    rw [← e, k1] at this; cases this; exact k2 rfl
  · intro b o _ k1 k2
    have hb := (Array.getElem?_eq_some_iff.1 k1).1
    have hnv : some b ≠ v.ownBlock := by
      intro e
      obtain ⟨cur, hc⟩ := own_cells h.ou e.symm
      rw [k1] at hc; cases hc; cases k2
    refine (same b hb ?_ (fun e => hnv (hgv b hb e)) hnv).trans k1
    intro e
    have := h.bp
    unfold Box1 at this
    rw [← e, k1] at this; cases this; cases k2
/-- The element's store, then the box's. -/
theorem two_ab {w2 : World} {g cap n : Nat} {v0 : Value} {c0 c1 c2 c3 c4 c5 c6 c7 c8 c9 c10 : Value} {xs zs : List Value} (hbx : Box1 Q v0 23 w2) (hown : w2.ownsRow (Q + 2) 36 11 (.slice (some ⟨g, 0, none⟩) (n + 1) cap) (n + 1) (xs ++ zs)) (hx : xs.length = n * 11) (hz : zs.length = 11) (w3 : World)
    (h3 : w3 = (elv w2 g (n * 11) c0 c1 c2 c3 c4 c5 c6 c7 c8 c9 c10).setCell ⟨Q, 0, none⟩ (.slice (some ⟨g, 0, none⟩) (n + 1) cap)) :
    Box1 Q (.slice (some ⟨g, 0, none⟩) (n + 1) cap) 23 w3 ∧ w3.ownsRow (Q + 2) 36 11 (.slice (some ⟨g, 0, none⟩) (n + 1) cap) (n + 1) (xs ++ [c0, c1, c2, c3, c4, c5, c6, c7, c8, c9, c10]) ∧
      (∀ b, b ≠ Q → b ≠ g → w3.heap[b]? = w2.heap[b]?) ∧ w3.heap.size = w2.heap.size ∧ (w3.os = w2.os ∧ w3.tape = w2.tape ∧ w3.output = w2.output) := by
  have hgl : Q + 2 ≤ g := (hown.lt g rfl).1
  subst h3
  refine ⟨?_, ?_, ?_, ?_, ot_trans (set_ot _ _ _) (elv_ot _ _ _ _ _ _ _ _ _ _ _ _ _ _)⟩
  · have : Box1 Q v0 23 (elv w2 g (n * 11) c0 c1 c2 c3 c4 c5 c6 c7 c8 c9 c10) := (elv_heap _ _ _ _ _ _ _ _ _ _ _ _ _ _ Q (by omega)).trans hbx
    exact this.set _
  · exact (elv_own c0 c1 c2 c3 c4 c5 c6 c7 c8 c9 c10 hown hx hz).kept (grownBy_setCell' _ Q _) (.inr (by simp [Value.ownBlock]; omega))
  · intro b h1 h2
    exact (Below.heap_setCell _ ⟨Q, 0, none⟩ _ b h1).trans (elv_heap _ _ _ _ _ _ _ _ _ _ _ _ _ _ b h2)
  · show ((elv w2 g (n * 11) c0 c1 c2 c3 c4 c5 c6 c7 c8 c9 c10).setCell _ _).heap.size = _
    rw [show ∀ (w : World) (p : Addr) (u : Value), (w.setCell p u).heap.size = w.heap.size from fun w p u => by simp [World.setCell], elv_size]
/-- The box's store, then the element's. -/
theorem two_ba {w2 : World} {g cap n : Nat} {v0 : Value} {c0 c1 c2 c3 c4 c5 c6 c7 c8 c9 c10 : Value} {xs zs : List Value} (hbx : Box1 Q v0 23 w2) (hown : w2.ownsRow (Q + 2) 36 11 (.slice (some ⟨g, 0, none⟩) (n + 1) cap) (n + 1) (xs ++ zs)) (hx : xs.length = n * 11) (hz : zs.length = 11) (w3 : World)
    (h3 : w3 = elv (w2.setCell ⟨Q, 0, none⟩ (.slice (some ⟨g, 0, none⟩) (n + 1) cap)) g (n * 11) c0 c1 c2 c3 c4 c5 c6 c7 c8 c9 c10) :
    Box1 Q (.slice (some ⟨g, 0, none⟩) (n + 1) cap) 23 w3 ∧ w3.ownsRow (Q + 2) 36 11 (.slice (some ⟨g, 0, none⟩) (n + 1) cap) (n + 1) (xs ++ [c0, c1, c2, c3, c4, c5, c6, c7, c8, c9, c10]) ∧
      (∀ b, b ≠ Q → b ≠ g → w3.heap[b]? = w2.heap[b]?) ∧ w3.heap.size = w2.heap.size ∧ (w3.os = w2.os ∧ w3.tape = w2.tape ∧ w3.output = w2.output) := by
  have hgl : Q + 2 ≤ g := (hown.lt g rfl).1
  have hk : (w2.setCell ⟨Q, 0, none⟩ (.slice (some ⟨g, 0, none⟩) (n + 1) cap)).ownsRow (Q + 2) 36 11 (.slice (some ⟨g, 0, none⟩) (n + 1) cap) (n + 1) (xs ++ zs) :=
    hown.kept (grownBy_setCell' w2 Q _) (.inr (by simp [Value.ownBlock]; omega))
  subst h3
  refine ⟨?_, elv_own c0 c1 c2 c3 c4 c5 c6 c7 c8 c9 c10 hk hx hz, ?_, ?_, ot_trans (elv_ot _ _ _ _ _ _ _ _ _ _ _ _ _ _) (set_ot _ _ _)⟩
  · exact (elv_heap _ _ _ _ _ _ _ _ _ _ _ _ _ _ Q (by omega)).trans (hbx.set _)
  · intro b h1 h2
    exact (elv_heap _ _ _ _ _ _ _ _ _ _ _ _ _ _ b h2).trans (Below.heap_setCell _ ⟨Q, 0, none⟩ _ b h1)
  · rw [elv_size]; simp [World.setCell]
end

/-- append to a row of one's own, at one operation of a region that draws its order. -/
theorem stepIn_append_at {F : Fence} {nF : Nat} {P : Program} {w : World} {ops : Array Oper} {o : Oper} {a : Act} {K : Act → World → Prop} {Q : Exit → Act → World → Prop} {E : Prop} (hgd : o.guard = none) (s x : Operand) (t : TypeId)
    (ho : o.op = .call { callee := .builtin .append, args := #[s, x], argTypes := #[t, t] })
    (base : Nat) (e : TypeId) (i : TypeInfo) (z : Value) (size bytes : Nat) (ht : P.underlying t = some (.slice e)) (hi : P.info? e = some i) (hz : i.zero = some z)
    (hsize : i.size = size) (hby : i.bytes = bytes) (hzs : z.cells.size = size) (hsz : 0 < size)
    (v : Value) (n : Nat) (xs : List Value) (hs : a.eval s = v) (hown : w.ownsRow base e size v n xs)
    (ad : Addr) (m c : Nat) (news : List Value) (hx : a.eval x = .slice (some ad) m c) (hl : news.length = m * size) (hnews : ∀ j u, news[j]? = some u → w.cell? (ad.add j) = some u) (h1 : ∀ u ∈ news, u.oneCell' = true)
    (h63 : n + m ≤ maxLen) (hbytes : (n + m) * bytes ≤ 140737488355328) (hbase : base ≤ w.heap.size)
    (h : ∀ v' w', w'.ownsRow base e size v' (n + m) (xs ++ news) → w.grownBy w' v.ownBlock → (v'.ownBlock = v.ownBlock ∨ v'.ownBlock = some w.heap.size) → K (a.put o.dst v') w') :
    if Region.wanted o (yielded ops a.tmps) = true then o.wpIn F nF P a w K Q else E := by
  rw [if_pos (by simp [Region.wanted, hgd])]
  obtain ⟨v', w', hr, h2, h3, h4, h5⟩ := run_append_own_at (P := P) w base t o.type e i z size bytes ht hi hz hsize hby hzs hsz v n xs hown ad m c news hl hnews h1 h63 hbytes hbase
  unfold Oper.wpIn
  refine ⟨by simp [Oper.about, ho, resolve, Target.leads, Sem.run_pure], ?_⟩
  rw [Oper.semAt_plain F _ _ (by rw [ho]; intro c hc'; cases hc')]
  simp [execOp, ho, resolve, invoke, builtin, hs, hx, hr, Result.andThen]
  exact h v' w' h2 h3 h5
end Go.Proofs.YtcfplilbhkaihaaGreatDoor
