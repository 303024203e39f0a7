/- Data in memory: what cells read as, whatever the types; kept while the blocks that are read stay. -/
import Derived.Test.YtjolhiofllpejaaDoorMem
namespace Go.Proofs.YtjolhiofllpejaaDoor
open Go.RowKit

/-- Plain data: numbers, texts, structs (their cells one after the other), slices of elements of k cells each. -/
inductive D where
  | int (k : IntKind) (n : Int)
  | bool (b : Bool)
  | str (s : ByteArray)
  | st (fs : List D)
  | sl (k : Nat) (l : List D)

mutual
/-- The cells read as the datum; every block that is read is one of ok. -/
def Rd (ok : Nat → Prop) (w : World) : D → List Value → Prop
  | .int k n, cs => cs = [.int k n]
  | .bool b, cs => cs = [.bool b]
  | .str s, cs => cs = [.string s]
  | .st fs, cs => ∃ rows, RdL ok w fs rows ∧ cs = rows.flatten
  | .sl k l, cs => ∃ a cap rows, cs = [.slice a l.length cap] ∧ l.length ≤ cap ∧ cap ≤ maxLen ∧ RdL ok w l rows ∧ (∀ r ∈ rows, r.length = k) ∧
      (l.length = 0 ∨ ∃ b off, a = some ⟨b, off, none⟩ ∧ ok b ∧ b < w.heap.size ∧ ∀ j u, rows.flatten[j]? = some u → w.cell? ⟨b, off + j, none⟩ = some u)
/-- The same, of several data. -/
def RdL (ok : Nat → Prop) (w : World) : List D → List (List Value) → Prop
  | [], rows => rows = []
  | d :: ds, rows => ∃ r rs, rows = r :: rs ∧ Rd ok w d r ∧ RdL ok w ds rs
end

theorem cell_same {w w' : World} {b : Nat} (h : w'.heap[b]? = w.heap[b]?) (o : Nat) : w'.cell? ⟨b, o, none⟩ = w.cell? ⟨b, o, none⟩ := World.cell?_of_block (a := ⟨b, o, none⟩) h

theorem lt_same {w w' : World} {b : Nat} (h : w'.heap[b]? = w.heap[b]?) (hb : b < w.heap.size) : b < w'.heap.size := by
  rw [Array.getElem?_eq_getElem hb] at h
  exact (Array.getElem?_eq_some_iff.1 h).1

theorem grown_cell {w w' : World} {row : Option Nat} {b o : Nat} {v : Value} (hg : w.grownBy w' row) (hc : w.cell? ⟨b, o, none⟩ = some v) (hne : row ≠ some b) : w'.cell? ⟨b, o, none⟩ = some v := by
  rw [cell_same (hg.block b (cell_lt hc) (fun e => hne e.symm))]; exact hc
theorem new_cell (w : World) (cs : List Value) (T : TypeId) (j : Nat) (u : Value) (h : cs[j]? = some u) : (w.alloc (.cells cs.toArray T)).cell? ⟨w.heap.size, j, none⟩ = some u := by
  have := new_cells w cs T j u h
  have e : ((⟨w.heap.size, 0, none⟩ : Addr).add j) = ⟨w.heap.size, j, none⟩ := by unfold Addr.add; split <;> simp_all
  rwa [e] at this
theorem own_ne {w : World} {B : Nat} {e : TypeId} {k : Nat} {v : Value} {n : Nat} {xs : List Value} {b : Nat} (h : w.ownsRow B e k v n xs) (hb : w.heap.size ≤ b) : v.ownBlock ≠ some b := fun e' => by
  have := (h.lt b e').2; omega

/-- What the blocks that are read must meet, so that all reads as before. -/
def Stays (ok ok' : Nat → Prop) (w w' : World) : Prop := ∀ b, ok b → b < w.heap.size → ok' b ∧ w'.heap[b]? = w.heap[b]?

mutual
theorem Rd.keep {ok ok' : Nat → Prop} {w w' : World} (hs : Stays ok ok' w w') : ∀ (d : D) (cs : List Value), Rd ok w d cs → Rd ok' w' d cs
  | .int _ _, _, h => by unfold Rd at h ⊢; exact h
  | .bool _, _, h => by unfold Rd at h ⊢; exact h
  | .str _, _, h => by unfold Rd at h ⊢; exact h
  | .st fs, _, h => by
    unfold Rd at h ⊢
    obtain ⟨rows, hr, hc⟩ := h
    exact ⟨rows, RdL.keep hs fs rows hr, hc⟩
  | .sl k l, _, h => by
    unfold Rd at h ⊢
    obtain ⟨a, cap, rows, h1, h2, h3, h4, h5, h6⟩ := h
    have h4' := RdL.keep hs l rows h4
    refine ⟨a, cap, rows, h1, h2, h3, h4', h5, ?_⟩
    rcases h6 with h6 | ⟨b, off, h7, h8, hb, h9⟩
    · exact .inl h6
    · obtain ⟨k1, k2⟩ := hs b h8 hb
      refine .inr ⟨b, off, h7, k1, lt_same k2 hb, fun j u hu => by rw [cell_same k2]; exact h9 j u hu⟩
theorem RdL.keep {ok ok' : Nat → Prop} {w w' : World} (hs : Stays ok ok' w w') : ∀ (l : List D) (rows : List (List Value)), RdL ok w l rows → RdL ok' w' l rows
  | [], _, h => by unfold RdL at h ⊢; exact h
  | d :: ds, _, h => by
    unfold RdL at h ⊢
    obtain ⟨r, rs, h1, h2, h3⟩ := h
    exact ⟨r, rs, h1, Rd.keep hs d r h2, RdL.keep hs ds rs h3⟩
end

theorem RdL.len {ok : Nat → Prop} {w : World} : ∀ {l : List D} {rows : List (List Value)}, RdL ok w l rows → rows.length = l.length
  | [], _, h => by unfold RdL at h; simp [h]
  | d :: ds, _, h => by
    unfold RdL at h
    obtain ⟨r, rs, rfl, _, h3⟩ := h
    simp [RdL.len h3]
theorem RdL.get {ok : Nat → Prop} {w : World} : ∀ {l : List D} {rows : List (List Value)}, RdL ok w l rows → ∀ (i : Nat) (d : D), l[i]? = some d → ∃ r, rows[i]? = some r ∧ Rd ok w d r
  | [], _, h, i, d, hd => by simp at hd
  | x :: xs, _, h, i, d, hd => by
    unfold RdL at h
    obtain ⟨r, rs, rfl, h2, h3⟩ := h
    cases i with
    | zero => simp at hd; subst hd; exact ⟨r, rfl, h2⟩
    | succ i => simp at hd; obtain ⟨r', h4, h5⟩ := RdL.get h3 i d hd; exact ⟨r', by simpa using h4, h5⟩
theorem RdL.app {ok : Nat → Prop} {w : World} : ∀ {l m : List D} {rows rows' : List (List Value)}, RdL ok w l rows → RdL ok w m rows' → RdL ok w (l ++ m) (rows ++ rows')
  | [], _, _, _, h, h' => by unfold RdL at h; subst h; exact h'
  | d :: ds, _, _, _, h, h' => by
    unfold RdL at h
    obtain ⟨r, rs, rfl, h2, h3⟩ := h
    show RdL ok w (d :: (ds ++ _)) _
    unfold RdL
    exact ⟨r, rs ++ _, rfl, h2, RdL.app h3 h'⟩
theorem RdL.one {ok : Nat → Prop} {w : World} {d : D} {r : List Value} (h : Rd ok w d r) : RdL ok w [d] [r] := by
  unfold RdL; exact ⟨r, [], rfl, h, by unfold RdL; rfl⟩
theorem RdL.none {ok : Nat → Prop} {w : World} : RdL ok w [] [] := by unfold RdL; rfl
theorem RdL.cons {ok : Nat → Prop} {w : World} {d : D} {ds : List D} {r : List Value} {rs : List (List Value)} (h : Rd ok w d r) (hs : RdL ok w ds rs) : RdL ok w (d :: ds) (r :: rs) := by
  unfold RdL; exact ⟨r, rs, rfl, h, hs⟩

theorem flat_len (k : Nat) : ∀ (rows : List (List Value)), (∀ r ∈ rows, r.length = k) → rows.flatten.length = rows.length * k
  | [], _ => by simp
  | r :: rs, h => by
    rw [List.flatten_cons, List.length_append, flat_len k rs (fun x hx => h x (by simp [hx])), h r (by simp), List.length_cons, Nat.add_mul]; omega
theorem flat_get (k : Nat) : ∀ (rows : List (List Value)), (∀ r ∈ rows, r.length = k) → ∀ (i j : Nat) (r : List Value) (u : Value), rows[i]? = some r → r[j]? = some u → rows.flatten[i * k + j]? = some u
  | [], _, i, j, r, u, h1, _ => by simp at h1
  | x :: xs, h, i, j, r, u, h1, h2 => by
    have hx := h x (by simp)
    rw [List.flatten_cons]
    cases i with
    | zero =>
      simp at h1; subst h1
      have hj : j < x.length := (List.getElem?_eq_some_iff.1 h2).1
      rw [List.getElem?_append_left (by omega)]
      simpa using h2
    | succ i =>
      rw [List.getElem?_append_right (by rw [hx, Nat.add_mul]; omega)]
      have e : (i + 1) * k + j - x.length = i * k + j := by rw [hx, Nat.add_mul]; omega
      rw [e]
      exact flat_get k xs (fun y hy => h y (by simp [hy])) i j r u (by simpa using h1) h2

/-- A slice that reads as a list of data: what a loop over it asks. -/
structure SlAt (ok : Nat → Prop) (w : World) (k : Nat) (l : List D) (a : Option Addr) (cap : Nat) : Prop where
  le : l.length ≤ cap
  max : cap ≤ maxLen
  at_ : 0 < l.length → ∃ b off, a = some ⟨b, off, none⟩ ∧ ok b ∧ b < w.heap.size ∧ ∀ i d, l[i]? = some d → ∃ r, Rd ok w d r ∧ r.length = k ∧ ∀ j u, r[j]? = some u → w.cell? ⟨b, off + (i * k + j), none⟩ = some u

theorem Rd.sl_open {ok : Nat → Prop} {w : World} {k : Nat} {l : List D} {cs : List Value} (h : Rd ok w (.sl k l) cs) : ∃ a cap, cs = [.slice a l.length cap] ∧ SlAt ok w k l a cap := by
  unfold Rd at h
  obtain ⟨a, cap, rows, h1, h2, h3, h4, h5, h6⟩ := h
  refine ⟨a, cap, h1, h2, h3, fun hp => ?_⟩
  rcases h6 with h6 | ⟨b, off, h7, h8, hb, h9⟩
  · omega
  · refine ⟨b, off, h7, h8, hb, fun i d hd => ?_⟩
    obtain ⟨r, hr, hrd⟩ := h4.get i d hd
    exact ⟨r, hrd, h5 r (List.mem_of_getElem? hr), fun j u hu => h9 _ u (flat_get k rows h5 i j r u hr hu)⟩

theorem Rd.st_open {ok : Nat → Prop} {w : World} {fs : List D} {cs : List Value} (h : Rd ok w (.st fs) cs) : ∃ rows, RdL ok w fs rows ∧ cs = rows.flatten := by
  unfold Rd at h; exact h
theorem Rd.st_mk {ok : Nat → Prop} {w : World} {fs : List D} {rows : List (List Value)} (h : RdL ok w fs rows) : Rd ok w (.st fs) rows.flatten := by
  unfold Rd; exact ⟨rows, h, rfl⟩
theorem RdL.cons_open {ok : Nat → Prop} {w : World} {d : D} {ds : List D} {rows : List (List Value)} (h : RdL ok w (d :: ds) rows) : ∃ r rs, rows = r :: rs ∧ Rd ok w d r ∧ RdL ok w ds rs := by
  unfold RdL at h; exact h
theorem RdL.nil_open {ok : Nat → Prop} {w : World} {rows : List (List Value)} (h : RdL ok w [] rows) : rows = [] := by
  unfold RdL at h; exact h
theorem Rd.int_open {ok : Nat → Prop} {w : World} {k : IntKind} {n : Int} {cs : List Value} (h : Rd ok w (.int k n) cs) : cs = [.int k n] := by unfold Rd at h; exact h
theorem Rd.bool_open {ok : Nat → Prop} {w : World} {b : Bool} {cs : List Value} (h : Rd ok w (.bool b) cs) : cs = [.bool b] := by unfold Rd at h; exact h
theorem Rd.str_open {ok : Nat → Prop} {w : World} {s : ByteArray} {cs : List Value} (h : Rd ok w (.str s) cs) : cs = [.string s] := by unfold Rd at h; exact h
theorem Rd.int_mk (ok : Nat → Prop) (w : World) (k : IntKind) (n : Int) : Rd ok w (.int k n) [.int k n] := by unfold Rd; rfl
theorem Rd.bool_mk (ok : Nat → Prop) (w : World) (b : Bool) : Rd ok w (.bool b) [.bool b] := by unfold Rd; rfl
theorem Rd.str_mk (ok : Nat → Prop) (w : World) (s : ByteArray) : Rd ok w (.str s) [.string s] := by unfold Rd; rfl
theorem Rd.nil_mk (ok : Nat → Prop) (w : World) (k : Nat) : Rd ok w (.sl k []) [.slice none 0 0] := by
  unfold Rd; exact ⟨none, 0, [], rfl, Nat.le_refl _, Nat.zero_le _, RdL.none, by simp, .inl rfl⟩

/-- A slice of the call's own, whose cells are the rows. -/
theorem Rd.sl_own {ok : Nat → Prop} {w : World} {B : Nat} {e : TypeId} {k : Nat} {l : List D} {v : Value} {rows : List (List Value)} (ho : w.ownsRow B e k v l.length rows.flatten) (h : RdL ok w l rows) (hk : ∀ r ∈ rows, r.length = k)
    (hok : ∀ g, v.ownBlock = some g → ok g) : Rd ok w (.sl k l) [v] := by
  have hlt := ho.lt
  have hcl : ∀ g cap, v = .slice (some ⟨g, 0, none⟩) l.length cap → ∀ j u, rows.flatten[j]? = some u → w.cell? ⟨g, 0 + j, none⟩ = some u := by
    rintro g cap rfl j u hu
    rw [Nat.zero_add, ← ho.cells rfl j u hu]
    congr 1
    unfold Addr.add; split <;> simp_all
  obtain ⟨h1, h2⟩ := ho
  rcases h2 with ⟨rfl, hx⟩ | ⟨g, cap, cur, rfl, hg, hb, hn, hm, hcs, hx⟩
  · unfold Rd
    exact ⟨none, 0, rows, by rw [hx], by omega, Nat.zero_le _, h, hk, .inl hx⟩
  · unfold Rd
    exact ⟨_, cap, rows, rfl, hn, hm, h, hk, .inr ⟨g, 0, rfl, hok g rfl, (hlt g rfl).2, hcl g cap rfl⟩⟩

/-- A slice of texts. -/
def strsD (l : List ByteArray) : D := .sl 1 (l.map D.str)
theorem RdL.strs {ok : Nat → Prop} {w : World} : ∀ (l : List ByteArray), RdL ok w (l.map D.str) (l.map fun s => [Value.string s])
  | [] => RdL.none
  | s :: l => RdL.cons (Rd.str_mk ok w s) (RdL.strs l)
theorem strs_flat : ∀ (l : List ByteArray), (l.map fun s => [Value.string s]).flatten = l.map Value.string
  | [] => rfl
  | s :: l => by simp [List.flatten_cons, strs_flat l]
theorem RdL.strs_rows {ok : Nat → Prop} {w : World} : ∀ (l : List ByteArray) (rows : List (List Value)), RdL ok w (l.map D.str) rows → rows = l.map fun s => [Value.string s]
  | [], _, h => by exact h.nil_open
  | s :: l, _, h => by
    obtain ⟨r, rs, rfl, h1, h2⟩ := h.cons_open
    rw [h1.str_open, RdL.strs_rows l rs h2]; rfl
theorem Rd.sees {ok : Nat → Prop} {w : World} {l : List ByteArray} {v : Value} (h : Rd ok w (strsD l) [v]) : Sees w 1 v l.length (l.map Value.string) := by
  unfold strsD Rd at h
  obtain ⟨a, cap, rows, h1, h2, h3, h4, h5, h6⟩ := h
  rw [List.length_map] at *
  have hr := RdL.strs_rows l rows h4
  subst hr
  rw [strs_flat] at h6
  refine ⟨by simp, a, cap, by simpa using h1, h2, h3, ?_⟩
  rcases h6 with h6 | ⟨b, off, h7, _, _, h9⟩
  · exact .inl h6
  · exact .inr ⟨b, off, h7, h9⟩
theorem Rd.strs_own {ok : Nat → Prop} {w : World} {B : Nat} {e : TypeId} {l : List ByteArray} {v : Value} (ho : w.ownsRow B e 1 v l.length (l.map Value.string)) (hok : ∀ g, v.ownBlock = some g → ok g) : Rd ok w (strsD l) [v] := by
  refine Rd.sl_own (rows := l.map fun s => [Value.string s]) (B := B) (e := e) ?_ (RdL.strs l) (by simp) hok
  rw [strs_flat, List.length_map]; exact ho
end Go.Proofs.YtjolhiofllpejaaDoor
