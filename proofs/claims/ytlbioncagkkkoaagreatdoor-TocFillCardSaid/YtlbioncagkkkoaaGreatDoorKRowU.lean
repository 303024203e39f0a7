/- A row that a call builds: what its elements read lies below U; laws for append of one element and of a slice. -/
import Derived.Test.YtlbioncagkkkoaaGreatDoorKTcM
import Derived.Test.YtlbioncagkkkoaaGreatDoorKAppend
import Derived.Maps.AppendAt
import Derived.Deep.AppendLies
namespace Go.Proofs.YtlbioncagkkkoaaGreatDoor
open Go.RowKit
set_option linter.unusedVariables false
set_option linter.unusedSimpArgs false

/-- A row of the call's own (since w0): its elements read blocks below B (the argument's) or made since w0, all of them below U, none of them the row's own block. -/
structure RowU (T : TypeId) (k : Nat) (ok : Nat → Prop) (U : Nat) (w0 : World) (ds : List D) (rows : List (List Value)) (v : Value) (w : World) : Prop where
  own : w.ownsRow w0.heap.size T k v ds.length rows.flatten
  red : RdL (fun b => (ok b ∨ w0.heap.size ≤ b) ∧ v.ownBlock ≠ some b ∧ b < U) w ds rows
  len : ∀ r ∈ rows, r.length = k
  bel : Below w0.heap.size w0 w
  oU : ∀ g, v.ownBlock = some g → g < U
  le0 : w0.heap.size ≤ U
  leU : U ≤ w.heap.size
section
variable {T : TypeId} {k U : Nat} {ok : Nat → Prop} {w0 w w' : World} {ds es : List D} {rows rows2 : List (List Value)} {v v' : Value}
theorem RowU.nil (T : TypeId) (k : Nat) (ok : Nat → Prop) (w0 : World) : RowU T k ok w0.heap.size w0 [] [] (.slice none 0 0) w0 :=
  ⟨⟨by simp, .inl ⟨rfl, rfl⟩⟩, RdL.none, by simp, Below.refl _ _, by simp [Value.ownBlock], Nat.le_refl _, Nat.le_refl _⟩
theorem RowU.up (h : RowU T k ok U w0 ds rows v w) {U' : Nat} (h1 : U ≤ U') (h2 : U' ≤ w.heap.size) : RowU T k ok U' w0 ds rows v w :=
  ⟨h.own, RdL.keep (fun b hb _ => ⟨⟨hb.1, hb.2.1, by omega⟩, rfl⟩) _ _ h.red, h.len, h.bel, fun g hg => Nat.lt_of_lt_of_le (h.oU g hg) h1, Nat.le_trans h.le0 h1, h2⟩
theorem RowU.top (h : RowU T k ok U w0 ds rows v w) : RowU T k ok w.heap.size w0 ds rows v w := h.up h.leU (Nat.le_refl _)
theorem RowU.grown (h : RowU T k ok U w0 ds rows v w) (hg : w.grownBy w' none) : RowU T k ok U w0 ds rows v w' :=
  ⟨h.own.kept hg (by cases v.ownBlock <;> simp), RdL.keep (fun b hb hlt => ⟨hb, hg.block b hlt (by simp)⟩) _ _ h.red, h.len, h.bel.grown hg h.bel.size (by simp), h.oU, h.le0, Nat.le_trans h.leU hg.size⟩
theorem RowU.below (h : RowU T k ok U w0 ds rows v w) (hb : Below w.heap.size w w') : RowU T k ok U w0 ds rows v w' := h.grown (grown_below hb)
theorem RowU.drew (h : RowU T k ok U w0 ds rows v w) : RowU T k ok U w0 ds rows v w.drew := h.grown ⟨rfl, rfl, rfl, Nat.le_refl _, fun _ _ _ => rfl⟩
theorem RowU.alloc (h : RowU T k ok U w0 ds rows v w) (o : Obj) : RowU T k ok U w0 ds rows v (w.alloc o) := h.grown (World.grownBy_alloc _ _ none)
theorem RowU.ne (h : RowU T k ok U w0 ds rows v w) {p : Nat} (hp : U ≤ p) : v.ownBlock ≠ some p := fun e => by have := h.oU p e; omega
/-- All blocks below U, and the row, as they were. -/
theorem RowU.same (h : RowU T k ok U w0 ds rows v w) (hs : w.heap.size ≤ w'.heap.size) (hos : w'.os = w.os ∧ w'.tape = w.tape ∧ w'.output = w.output) (hb : ∀ b, b < U → w'.heap[b]? = w.heap[b]?) : RowU T k ok U w0 ds rows v w' := by
  have hl := h.leU
  have hl0 := h.le0
  refine ⟨?_, RdL.keep (fun b hb' hlt => ⟨hb', hb b hb'.2.2⟩) _ _ h.red, h.len, ⟨hos.1.trans h.bel.os, hos.2.1.trans h.bel.tape, hos.2.2.trans h.bel.output, Nat.le_trans h.bel.size hs, fun b hlt => (hb b (by omega)).trans (h.bel.block b hlt)⟩, h.oU, h.le0, Nat.le_trans hl hs⟩
  obtain ⟨h1, h2⟩ := h.own
  refine ⟨h1, ?_⟩
  rcases h2 with h2 | ⟨g, cap, cur, rfl, r2, r3, r4⟩
  · exact .inl h2
  · exact .inr ⟨g, cap, cur, rfl, r2, (hb g (h.oU g rfl)).trans r3, r4⟩
theorem RowU.set (h : RowU T k ok U w0 ds rows v w) {p : Nat} (hp : U ≤ p) (j : Nat) (u : Value) : RowU T k ok U w0 ds rows v (w.setCell ⟨p, j, none⟩ u) :=
  h.same (by simp [World.setCell]) ⟨rfl, rfl, rfl⟩ (fun b hb => Below.heap_setCell w ⟨p, j, none⟩ u b (by show b ≠ p; omega))
theorem RowU.slice (h : RowU T k ok U w0 ds rows v w) : ∃ a c, v = .slice a ds.length c := own_slice h.own
theorem RowU.cap (h : RowU T k ok U w0 ds rows v w) {n : Nat} (hn : ds.length = n) : ∃ a c, v = .slice a n c ∧ n ≤ c ∧ c ≤ maxLen := by
  subst hn
  rcases h.own.2 with ⟨h1, h2⟩ | ⟨g, cap, cur, h1, _, _, h2, h3, _⟩
  · exact ⟨none, 0, by rw [h1, h2], by omega, Nat.zero_le _⟩
  · exact ⟨_, cap, h1, h2, h3⟩
/-- Behind the append of elements. -/
theorem RowU.put {w1 : World} (h : RowU T k ok U w0 ds rows v w) (hB : ∀ b, ok b → b < w0.heap.size) (hes : RdL (fun b => ok b ∨ U ≤ b) w1 es rows2) (hl2 : ∀ r ∈ rows2, r.length = k) (hw1 : w.grownBy w1 none)
    (hown : w'.ownsRow w0.heap.size T k v' (ds.length + es.length) (rows.flatten ++ rows2.flatten)) (hg : w1.grownBy w' v.ownBlock) (hat : v'.ownBlock = v.ownBlock ∨ v'.ownBlock = some w1.heap.size) :
    RowU T k ok w'.heap.size w0 (ds ++ es) (rows ++ rows2) v' w' := by
  have hs := hg.size
  have hs1 := hw1.size
  have h0 := h.le0
  have h1 := h.leU
  have hV : ∀ g, v.ownBlock = some g → w0.heap.size ≤ g ∧ g < U := fun g e => ⟨(h.own.lt g e).1, h.oU g e⟩
  have hv' : ∀ b, b < w1.heap.size → v.ownBlock ≠ some b → v'.ownBlock ≠ some b := by
    intro b hb hne
    rcases hat with e | e
    · rw [e]; exact hne
    · rw [e]; intro h; have := Option.some.inj h; omega
  have hh : ∀ b, b < w.heap.size → v.ownBlock ≠ some b → w'.heap[b]? = w.heap[b]? := fun b hb hne =>
    (hg.block b (by omega) (fun e => hne e.symm)).trans (hw1.block b hb (by simp))
  refine ⟨by rw [List.length_append, List.flatten_append]; exact hown, ?_, ?_, ?_, fun g e => (hown.lt g e).2, by omega, Nat.le_refl _⟩
  · refine RdL.app (RdL.keep (fun b hb hlt => ⟨⟨hb.1, hv' b (by omega) hb.2.1, by omega⟩, hh b hlt hb.2.1⟩) _ _ h.red) (RdL.keep (fun b hb hlt => ?_) _ _ hes)
    have hne : v.ownBlock ≠ some b := fun e => by
      have := hV b e
      rcases hb with hb | hb
      · have := hB b hb; omega
      · omega
    exact ⟨⟨hb.imp id (fun h => by omega), hv' b hlt hne, by omega⟩, hg.block b hlt (fun e => hne e.symm)⟩
  · intro r hr
    rcases List.mem_append.1 hr with hr | hr
    · exact h.len r hr
    · exact hl2 r hr
  · refine (h.bel.grown hw1 h.bel.size (by simp)).grown hg (by have := h.bel.size; omega) (fun g e => (hV g e).1)
theorem RowU.rd (h : RowU T k ok U w0 ds rows v w) : Rd (fun b => ok b ∨ w0.heap.size ≤ b) w (.sl k ds) [v] :=
  Rd.sl_own h.own (RdL.keep (fun b hb _ => ⟨hb.1, rfl⟩) _ _ h.red) h.len (fun g hg => .inr (h.own.lt g hg).1)
/-- The same, where nothing of the argument is read. -/
theorem RowU.rd0 (h : RowU T k (fun _ => False) U w0 ds rows v w) : Rd (w0.heap.size ≤ ·) w (.sl k ds) [v] := h.rd.weaken (fun b hb => hb.elim False.elim id)

theorem Rd.readsG {ok : Nat → Prop} {l : List D} (h : Rd ok w (.sl k l) [v]) : ∃ A cap rows, v = .slice A l.length cap ∧ l.length ≤ cap ∧ cap ≤ maxLen ∧ RdL ok w l rows ∧ (∀ r ∈ rows, r.length = k) ∧ Reads w w.heap.size k A l.length rows.flatten := by
  unfold Rd at h
  obtain ⟨a, cap, rows, h1, h2, h3, h4, h5, h6⟩ := h
  refine ⟨a, cap, rows, by simpa using h1, h2, h3, h4, h5, ?_, fun hp => ?_⟩
  · rw [flat_len k rows h5, h4.len]
  · rcases h6 with h6 | ⟨b, off, h7, h8, hb, h9⟩
    · omega
    · refine ⟨⟨b, off, none⟩, h7, hb, fun j u hu => ?_⟩
      have e : ((⟨b, off, none⟩ : Addr).add j) = ⟨b, off + j, none⟩ := by unfold Addr.add; split <;> simp_all
      rw [e]; exact h9 j u hu
theorem Rd.up0 {ok : Nat → Prop} {d : D} {cs : List Value} (h : Rd ok w d cs) (hb : Below w.heap.size w w') : Rd ok w' d cs := Rd.keep (fun b h1 h2 => ⟨h1, hb.block b h2⟩) _ _ h
theorem Rd.inside {ok : Nat → Prop} {d : D} {cs : List Value} (h : Rd ok w d cs) : Rd (fun b => ok b ∧ b < w.heap.size) w d cs := Rd.keep (fun b h1 h2 => ⟨⟨h1, h2⟩, rfl⟩) _ _ h
theorem SlAt.up0 {ok : Nat → Prop} {l : List D} {a : Option Addr} {cap : Nat} (h : SlAt ok w k l a cap) (hb : Below w.heap.size w w') : SlAt ok w' k l a cap :=
  ⟨h.le, h.max, fun hl => by
    obtain ⟨b, off, h1, h2, h3, h4⟩ := h.at_ hl
    refine ⟨b, off, h1, h2, Nat.lt_of_lt_of_le h3 hb.size, fun i d hd => ?_⟩
    obtain ⟨r, g1, g2, g3⟩ := h4 i d hd
    exact ⟨r, g1.up0 hb, g2, fun j u hu => (hb.cell (p := ⟨b, _, none⟩) h3).trans (g3 j u hu)⟩⟩
/-- append of one element, which the literal '[]T{x}' holds. -/
theorem wpList_put {n : Nat} {ops : Array Oper} {rest : List Oper} {o : Oper} {a : Act} {Q : Exit → Act → World → Prop} (hgd : o.guard = none) (s x : Operand) (t : TypeId)
    (ho : o.op = .call { callee := .builtin .append, args := #[s, x], argTypes := #[t, t] })
    (i : TypeInfo) (z : Value) (bytes : Nat) (ht : Tryz.prog.underlying t = some (.slice T)) (hi : Tryz.prog.info? T = some i) (hz : i.zero = some z)
    (hsize : i.size = k) (hby : i.bytes = bytes) (hzs : z.cells.size = k) (hsz : 0 < k)
    (h : RowU T k ok U w0 ds rows v w) (hB : ∀ b, ok b → b < w0.heap.size) (d : D) (r : List Value) (hx : Rd (fun b => ok b ∨ U ≤ b) w d r) (hr : r.length = k) (h1 : ∀ u ∈ r, u.oneCell' = true) (hdn : ds.length = n) (hn : n ≤ 10000000) (hb200 : bytes ≤ 1000)
    (hs : a.eval s = v) (hxe : a.eval x = .slice (some ⟨w.heap.size, 0, none⟩) 1 1)
    (hK : ∀ a' c' w', RowU T k ok w'.heap.size w0 (ds ++ [d]) (rows ++ [r]) (.slice a' (n + 1) c') w' → (w.alloc (.cells r.toArray T)).grownBy w' v.ownBlock → wpList Tryz.prog ops Q rest (a.put o.dst (.slice a' (n + 1) c')) w') :
    wpList Tryz.prog ops Q (o :: rest) a (w.alloc (.cells r.toArray T)) := by
  subst hdn
  have hmul : (ds.length + 1) * bytes ≤ 140737488355328 := Nat.le_trans (Nat.mul_le_mul (show ds.length + 1 ≤ 10000001 by omega) hb200) (by omega)
  refine wpList_append_own_at _ hgd s x t ho w0.heap.size T i z k bytes ht hi hz hsize hby hzs hsz v ds.length rows.flatten hs (h.own.alloc _) ⟨w.heap.size, 0, none⟩ 1 1 r hxe (by omega) (new_cells w r T) h1 (by unfold maxLen; omega) hmul (by have := h.bel.size; simp; omega) ?_
  intro v' w' hown hg _ hat
  obtain ⟨a', c', rfl⟩ := own_slice hown
  refine hK a' c' w' ?_ hg
  refine h.put hB (rows2 := [r]) (es := [d]) (RdL.one (Rd.keep (fun b hb hlt => ⟨hb, Below.heap_alloc w _ b hlt⟩) _ _ hx)) (by simp [hr]) (World.grownBy_alloc w _ none) (by simpa using hown) hg hat
/-- The same, with the place of the new slice. -/
theorem wpList_putA {n : Nat} {ops : Array Oper} {rest : List Oper} {o : Oper} {a : Act} {Q : Exit → Act → World → Prop} (hgd : o.guard = none) (s x : Operand) (t : TypeId)
    (ho : o.op = .call { callee := .builtin .append, args := #[s, x], argTypes := #[t, t] })
    (i : TypeInfo) (z : Value) (bytes : Nat) (ht : Tryz.prog.underlying t = some (.slice T)) (hi : Tryz.prog.info? T = some i) (hz : i.zero = some z)
    (hsize : i.size = k) (hby : i.bytes = bytes) (hzs : z.cells.size = k) (hsz : 0 < k)
    (h : RowU T k ok U w0 ds rows v w) (hB : ∀ b, ok b → b < w0.heap.size) (d : D) (r : List Value) (hx : Rd (fun b => ok b ∨ U ≤ b) w d r) (hr : r.length = k) (h1 : ∀ u ∈ r, u.oneCell' = true) (hdn : ds.length = n) (hn : n ≤ 10000000) (hb200 : bytes ≤ 1000)
    (hs : a.eval s = v) (hxe : a.eval x = .slice (some ⟨w.heap.size, 0, none⟩) 1 1)
    (hK : ∀ a' c' w', RowU T k ok w'.heap.size w0 (ds ++ [d]) (rows ++ [r]) (.slice a' (n + 1) c') w' → (w.alloc (.cells r.toArray T)).grownBy w' v.ownBlock → ((Value.slice a' (n + 1) c').ownBlock = v.ownBlock ∨ (Value.slice a' (n + 1) c').ownBlock = some (w.heap.size + 1)) → wpList Tryz.prog ops Q rest (a.put o.dst (.slice a' (n + 1) c')) w') :
    wpList Tryz.prog ops Q (o :: rest) a (w.alloc (.cells r.toArray T)) := by
  subst hdn
  have hmul : (ds.length + 1) * bytes ≤ 140737488355328 := Nat.le_trans (Nat.mul_le_mul (show ds.length + 1 ≤ 10000001 by omega) hb200) (by omega)
  refine wpList_append_own_at _ hgd s x t ho w0.heap.size T i z k bytes ht hi hz hsize hby hzs hsz v ds.length rows.flatten hs (h.own.alloc _) ⟨w.heap.size, 0, none⟩ 1 1 r hxe (by omega) (new_cells w r T) h1 (by unfold maxLen; omega) hmul (by have := h.bel.size; simp; omega) ?_
  intro v' w' hown hg _ hat
  obtain ⟨a', c', rfl⟩ := own_slice hown
  refine hK a' c' w' ?_ hg (by simpa using hat)
  refine h.put hB (rows2 := [r]) (es := [d]) (RdL.one (Rd.keep (fun b hb hlt => ⟨hb, Below.heap_alloc w _ b hlt⟩) _ _ hx)) (by simp [hr]) (World.grownBy_alloc w _ none) (by simpa using hown) hg hat
/-- append of all elements of a slice. -/
theorem wpList_puts {n m : Nat} {ops : Array Oper} {rest : List Oper} {o : Oper} {a : Act} {Q : Exit → Act → World → Prop} (hgd : o.guard = none) (s x : Operand) (t : TypeId)
    (ho : o.op = .call { callee := .builtin .append, args := #[s, x], argTypes := #[t, t] })
    (i : TypeInfo) (z : Value) (bytes : Nat) (ht : Tryz.prog.underlying t = some (.slice T)) (hi : Tryz.prog.info? T = some i) (hz : i.zero = some z)
    (hsize : i.size = k) (hby : i.bytes = bytes) (hzs : z.cells.size = k) (hsz : 0 < k)
    (h : RowU T k ok U w0 ds rows v w) (hB : ∀ b, ok b → b < w0.heap.size) (vx : Value) (hx : Rd (fun b => ok b ∨ U ≤ b) w (.sl k es) [vx]) (h1 : ∀ (rs : List (List Value)) (ok' : Nat → Prop), RdL ok' w es rs → ∀ u ∈ rs.flatten, u.oneCell' = true) (hdn : ds.length = n) (hem : es.length = m) (hn : n + m ≤ 10000000) (hb200 : bytes ≤ 1000)
    (hs : a.eval s = v) (hxe : a.eval x = vx)
    (hK : ∀ a' c' rows' w', RowU T k ok w'.heap.size w0 (ds ++ es) rows' (.slice a' (n + m) c') w' → w.grownBy w' v.ownBlock → wpList Tryz.prog ops Q rest (a.put o.dst (.slice a' (n + m) c')) w') :
    wpList Tryz.prog ops Q (o :: rest) a w := by
  subst hdn hem
  obtain ⟨A, c, rs, rfl, h2, h3, h4, h5, h6⟩ := Rd.readsG hx
  have hmul : (ds.length + es.length) * bytes ≤ 140737488355328 := Nat.le_trans (Nat.mul_le_mul hn hb200) (by omega)
  refine wpList_append_any _ hgd s x t ho w0.heap.size T i z k bytes ht hi hz hsize hby hzs hsz v ds.length rows.flatten hs h.own w.heap.size A es.length c rs.flatten hxe h6 (h1 rs _ h4) (by unfold maxLen; omega) hmul (by have := h.bel.size; omega) ?_
  intro v' w' hown hg hat
  obtain ⟨a', c', rfl⟩ := own_slice hown
  exact hK a' c' _ w' (h.put hB h4 h5 (World.grownBy.refl w none) hown hg hat) hg
/-- append of one element, at a step of a region that draws its order. -/
theorem step_put {n : Nat} {ops : Array Oper} {o : Oper} {a : Act} {K : Act → World → Prop} {Q : Exit → Act → World → Prop} {E : Prop} (hgd : o.guard = none) (s x : Operand) (t : TypeId)
    (ho : o.op = .call { callee := .builtin .append, args := #[s, x], argTypes := #[t, t] })
    (i : TypeInfo) (z : Value) (bytes : Nat) (ht : Tryz.prog.underlying t = some (.slice T)) (hi : Tryz.prog.info? T = some i) (hz : i.zero = some z)
    (hsize : i.size = k) (hby : i.bytes = bytes) (hzs : z.cells.size = k) (hsz : 0 < k)
    (h : RowU T k ok U w0 ds rows v w) (hB : ∀ b, ok b → b < w0.heap.size) (d : D) (r : List Value) (hx : Rd (fun b => ok b ∨ U ≤ b) w d r) (hr : r.length = k) (h1 : ∀ u ∈ r, u.oneCell' = true) (hdn : ds.length = n) (hn : n ≤ 10000000) (hb200 : bytes ≤ 1000)
    (hs : a.eval s = v) (hxe : a.eval x = .slice (some ⟨w.heap.size, 0, none⟩) 1 1)
    (hK : ∀ a' c' w', RowU T k ok w'.heap.size w0 (ds ++ [d]) (rows ++ [r]) (.slice a' (n + 1) c') w' → (w.alloc (.cells r.toArray T)).grownBy w' v.ownBlock → K (a.put o.dst (.slice a' (n + 1) c')) w') :
    if Region.wanted o (yielded ops a.tmps) = true then Oper.wp Tryz.prog o a (w.alloc (.cells r.toArray T)) K Q else E := by
  subst hdn
  have hmul : (ds.length + 1) * bytes ≤ 140737488355328 := Nat.le_trans (Nat.mul_le_mul (show ds.length + 1 ≤ 10000001 by omega) hb200) (by omega)
  refine step_append_lies _ hgd s x t ho w0.heap.size T i z k bytes ht hi hz hsize hby hzs hsz v ds.length rows.flatten hs (h.own.alloc _) ⟨w.heap.size, 0, none⟩ 1 1 r hxe (by omega) (new_cells w r T) h1 (by omega) (by unfold maxLen; omega) hmul (by have := h.bel.size; simp; omega) (w.heap.size + 1) (by simp) ?_
  intro g cap w' hown hg hat _
  refine hK _ _ w' ?_ hg
  refine h.put hB (rows2 := [r]) (es := [d]) (RdL.one (Rd.keep (fun b hb hlt => ⟨hb, Below.heap_alloc w _ b hlt⟩) _ _ hx)) (by simp [hr]) (World.grownBy_alloc w _ none) (by simpa using hown) hg (hat.elim (fun e => .inl (by rw [e]; rfl)) (fun e => .inr (by rw [e]; simp [Value.ownBlock])))
/-- append of all elements of a slice, at a step of a region that draws its order. -/
theorem step_puts {n m : Nat} {ops : Array Oper} {o : Oper} {a : Act} {K : Act → World → Prop} {Q : Exit → Act → World → Prop} {E : Prop} (hgd : o.guard = none) (s x : Operand) (t : TypeId)
    (ho : o.op = .call { callee := .builtin .append, args := #[s, x], argTypes := #[t, t] })
    (i : TypeInfo) (z : Value) (bytes : Nat) (ht : Tryz.prog.underlying t = some (.slice T)) (hi : Tryz.prog.info? T = some i) (hz : i.zero = some z)
    (hsize : i.size = k) (hby : i.bytes = bytes) (hzs : z.cells.size = k) (hsz : 0 < k)
    (h : RowU T k ok U w0 ds rows v w) (hB : ∀ b, ok b → b < w0.heap.size) (vx : Value) (hx : Rd (fun b => ok b ∨ U ≤ b) w (.sl k es) [vx]) (h1 : ∀ (rs : List (List Value)) (ok' : Nat → Prop), RdL ok' w es rs → ∀ u ∈ rs.flatten, u.oneCell' = true) (hdn : ds.length = n) (hem : es.length = m) (hn : n + m ≤ 10000000) (hb200 : bytes ≤ 1000)
    (hs : a.eval s = v) (hxe : a.eval x = vx)
    (hK : ∀ a' c' rows' w', RowU T k ok w'.heap.size w0 (ds ++ es) rows' (.slice a' (n + m) c') w' → w.grownBy w' v.ownBlock → K (a.put o.dst (.slice a' (n + m) c')) w') :
    if Region.wanted o (yielded ops a.tmps) = true then Oper.wp Tryz.prog o a w K Q else E := by
  subst hdn hem
  obtain ⟨A, c, rs, rfl, h2, h3, h4, h5, h6⟩ := Rd.readsG hx
  have hmul : (ds.length + es.length) * bytes ≤ 140737488355328 := Nat.le_trans (Nat.mul_le_mul hn hb200) (by omega)
  refine step_append_any _ hgd s x t ho w0.heap.size T i z k bytes ht hi hz hsize hby hzs hsz v ds.length rows.flatten hs h.own w.heap.size A es.length c rs.flatten hxe h6 (h1 rs _ h4) (by unfold maxLen; omega) hmul (by have := h.bel.size; omega) ?_
  intro v' w' hown hg hat
  obtain ⟨a', c', rfl⟩ := own_slice hown
  exact hK a' c' _ w' (h.put hB h4 h5 (World.grownBy.refl w none) hown hg hat) hg
/-- The world with its first n blocks alone: what a row counts as made since. -/
def cutW (n : Nat) (w : World) : World := { w with heap := w.heap.extract 0 n }
theorem cutW_size {n : Nat} {w : World} (h : n ≤ w.heap.size) : (cutW n w).heap.size = n := by
  show (w.heap.extract 0 n).size = n
  rw [Array.size_extract]; omega
theorem cutW_get {n : Nat} {w : World} (h : n ≤ w.heap.size) {b : Nat} (hb : b < n) : (cutW n w).heap[b]? = w.heap[b]? := by
  show (w.heap.extract 0 n)[b]? = w.heap[b]?
  rw [Array.getElem?_extract]
  simp; omega
theorem cutW_below {n : Nat} {w : World} (h : n ≤ w.heap.size) : Below n (cutW n w) w :=
  ⟨rfl, rfl, rfl, by rw [cutW_size h]; exact h, fun b hb => (cutW_get h hb).symm⟩
/-- A row is one since any other world, the heap of which is no longer. -/
theorem RowU.base (h : RowU T k (fun _ => False) U w0 ds rows v w) : RowU T k (fun _ => False) U (cutW w0.heap.size w) ds rows v w := by
  have hz := cutW_size (w := w) h.bel.size
  have hb := cutW_below (w := w) h.bel.size
  exact ⟨by rw [hz]; exact h.own, by rw [hz]; exact h.red, h.len, by rw [hz]; exact hb, h.oU, by rw [hz]; exact h.le0, h.leU⟩
/-- A block that is not the row's changes. -/
theorem RowU.hop {p n0 : Nat} (h : RowU T k (fun _ => False) U (cutW n0 w) ds rows v w) (hn : n0 ≤ w.heap.size) (hp : p < n0) (hg : w.grownBy w' (some p)) : RowU T k (fun _ => False) U (cutW n0 w') ds rows v w' := by
  have hz := cutW_size (w := w) hn
  have hn' : n0 ≤ w'.heap.size := Nat.le_trans hn hg.size
  have hz' := cutW_size (w := w') hn'
  have h0 := h.own
  have h1 := h.red
  have h2 := h.le0
  rw [hz] at h0 h1 h2
  refine ⟨?_, ?_, h.len, ?_, h.oU, by rw [hz']; exact h2, Nat.le_trans h.leU hg.size⟩
  · rw [hz']
    exact h0.kept hg (.inr (fun e => by have := (h0.lt p e).1; omega))
  · rw [hz']
    exact RdL.keep (fun b hb hlt => ⟨hb, hg.block b hlt (fun e => by have e1 := Option.some.inj e; rcases hb.1 with h3 | h3; exact h3.elim; omega)⟩) _ _ h1
  · rw [hz']; exact cutW_below hn'
theorem RowU.hop2 {p : Nat} (h : RowU T k (fun _ => False) U w0 ds rows v w) (hp : p < w0.heap.size) (hg : w.grownBy w' (some p)) : ∃ w0', w0'.heap.size = w0.heap.size ∧ RowU T k (fun _ => False) U w0' ds rows v w' :=
  ⟨_, cutW_size (Nat.le_trans h.bel.size hg.size), h.base.hop h.bel.size hp hg⟩
theorem RowU.hopG {p : Nat} (h : RowU T k ok U w0 ds rows v w) (hp : p < w0.heap.size) (hno : ¬ ok p) (hg : w.grownBy w' (some p)) : ∃ w0', w0'.heap.size = w0.heap.size ∧ RowU T k ok U w0' ds rows v w' := by
  have hn' : w0.heap.size ≤ w'.heap.size := Nat.le_trans h.bel.size hg.size
  have hz' := cutW_size (w := w') hn'
  refine ⟨cutW w0.heap.size w', hz', ?_, ?_, h.len, ?_, h.oU, by rw [hz']; exact h.le0, Nat.le_trans h.leU hg.size⟩
  · rw [hz']
    exact h.own.kept hg (.inr (fun e => by have := (h.own.lt p e).1; omega))
  · rw [hz']
    exact RdL.keep (fun b hb hlt => ⟨hb, hg.block b hlt (fun e => by
      have e1 := Option.some.inj e
      subst e1
      rcases hb.1 with h3 | h3
      · exact hno h3
      · omega)⟩) _ _ h.red
  · rw [hz']; exact cutW_below hn'
/-- A literal slice of one element. -/
theorem RowU.lit {n1 : Nat} {d : D} {r : List Value} (hr : r.length = k) (hx : Rd (n1 ≤ ·) w d r) : RowU T k (fun b => n1 ≤ b ∧ b < w.heap.size) (w.heap.size + 1) (cutW w.heap.size (w.alloc (.cells r.toArray T))) [d] [r] (.slice (some ⟨w.heap.size, 0, none⟩) 1 1) (w.alloc (.cells r.toArray T)) := by
  have hs : (w.alloc (.cells r.toArray T)).heap.size = w.heap.size + 1 := World.size_alloc _ _
  have hz := cutW_size (w := w.alloc (.cells r.toArray T)) (n := w.heap.size) (by omega)
  refine ⟨?_, ?_, by simp [hr], by rw [hz]; exact cutW_below (by omega), ?_, by omega, by omega⟩
  · refine ⟨by simp [hr], .inr ⟨w.heap.size, 1, r.toArray, rfl, by omega, ?_, by simp, by unfold maxLen; omega, ?_, ?_⟩⟩
    · exact heap_alloc_new w _
    · simp [hr]
    · subst hr; simp
  · refine RdL.one (Rd.keep (fun b hb hlt => ⟨⟨.inl ⟨hb, hlt⟩, fun e => ?_, by omega⟩, Below.heap_alloc w _ b hlt⟩) _ _ hx)
    have e1 : w.heap.size = b := by simpa [Value.ownBlock] using e
    omega
  · intro g hg
    have e1 : w.heap.size = g := by simpa [Value.ownBlock] using hg
    omega
end
end Go.Proofs.YtlbioncagkkkoaaGreatDoor
