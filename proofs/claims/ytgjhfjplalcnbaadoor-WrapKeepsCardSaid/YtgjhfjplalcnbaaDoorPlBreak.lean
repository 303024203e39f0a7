/- The best division of words into lines, plainly: the table that both programs fill from its end, and what is read off it. -/
namespace Go.Proofs.YtgjhfjplalcnbaaDoor

/-- The best division of the words from one on: its cost, its lines, the first word of its second line. -/
structure Dv where
  c : Int
  l : Int
  nx : Int

def cand (n : Nat) (wd : Int) (T : Nat → Dv) (to : Nat) (wide : Int) : Dv :=
  ⟨(T to).c + (if to < n ∧ wide ≤ wd then (wd - wide) * (wd - wide) else 0), (T to).l + 1, to⟩
def betterB (x old : Dv) : Bool := decide (x.c < old.c) || (decide (x.c = old.c) && decide (x.l < old.l))
def upOf (n : Nat) (wd : Int) (T : Nat → Dv) (fr to : Nat) (wide : Int) (cur : Dv) : Dv :=
  if to = fr + 1 ∨ betterB (cand n wd T to wide) cur = true then cand n wd T to wide else cur

/-- The loop over the ends of the first line. -/
def extH (ws : List Int) (sp wd : Int) (n : Nat) (T : Nat → Dv) (fr : Nat) : Nat → Nat → Int → Dv → Dv
  | 0, _, _, cur => cur
  | f + 1, to, wide, cur =>
    if to = n then upOf n wd T fr to wide cur
    else if wd < wide + (sp + ws.getD to 0) then upOf n wd T fr to wide cur
    else extH ws sp wd n T fr f (to + 1) (wide + (sp + ws.getD to 0)) (upOf n wd T fr to wide cur)

theorem extH_last (ws : List Int) (sp wd : Int) (n : Nat) (T : Nat → Dv) (fr f to : Nat) (wide : Int) (cur : Dv) (h : to = n) :
    extH ws sp wd n T fr (f + 1) to wide cur = upOf n wd T fr to wide cur := by rw [extH, if_pos h]
theorem extH_wide (ws : List Int) (sp wd : Int) (n : Nat) (T : Nat → Dv) (fr f to : Nat) (wide : Int) (cur : Dv) (h : wd < wide + (sp + ws.getD to 0)) :
    extH ws sp wd n T fr (f + 1) to wide cur = upOf n wd T fr to wide cur := by
  rw [extH]
  by_cases e : to = n
  · rw [if_pos e]
  · rw [if_neg e, if_pos h]
theorem extH_on (ws : List Int) (sp wd : Int) (n : Nat) (T : Nat → Dv) (fr f to : Nat) (wide : Int) (cur : Dv) (h : to ≠ n) (h' : ¬ wd < wide + (sp + ws.getD to 0)) :
    extH ws sp wd n T fr (f + 1) to wide cur = extH ws sp wd n T fr f (to + 1) (wide + (sp + ws.getD to 0)) (upOf n wd T fr to wide cur) := by rw [extH, if_neg h, if_neg h']

def upd (T : Nat → Dv) (j : Nat) (d : Dv) : Nat → Dv := fun i => if i = j then d else T i

/-- The table after k rounds. -/
def tab (ws : List Int) (sp wd : Int) (n : Nat) : Nat → Nat → Dv
  | 0 => fun _ => ⟨0, 0, 0⟩
  | k + 1 => upd (tab ws sp wd n k) (n - (k + 1)) (extH ws sp wd n (tab ws sp wd n k) (n - (k + 1)) (k + 1) (n - k) (ws.getD (n - (k + 1)) 0) (tab ws sp wd n k (n - (k + 1))))

/-- What the entries of the table are bounded by, when the entries from n - k on are filled. -/
structure TabOk (n k : Nat) (T : Nat → Dv) : Prop where
  c0 : ∀ j, 0 ≤ (T j).c ∧ (T j).c ≤ k * 1099511627776
  l0 : ∀ j, 0 ≤ (T j).l ∧ (T j).l ≤ k
  z : ∀ j, ¬ (n - k ≤ j ∧ j < n) → T j = ⟨0, 0, 0⟩
  nx : ∀ j, n - k ≤ j → j < n → (j : Int) < (T j).nx ∧ (T j).nx ≤ n

/-- The same of one entry. -/
structure DvOk (n k fr : Nat) (d : Dv) : Prop where
  c : 0 ≤ d.c ∧ d.c ≤ k * 1099511627776
  l : 0 ≤ d.l ∧ d.l ≤ k
  nx : (fr : Int) < d.nx ∧ d.nx ≤ n

theorem sq_bd {x : Int} (h0 : 0 ≤ x) (h : x ≤ 1048576) : 0 ≤ x * x ∧ x * x ≤ 1099511627776 := by
  have h1 : x * x ≤ 1048576 * 1048576 := Int.mul_le_mul h h h0 (by omega)
  have h2 : 0 ≤ x * x := Int.mul_nonneg h0 h0
  omega

theorem cand_ok {n k : Nat} {T : Nat → Dv} (h : TabOk n k T) {wd : Int} (hw1 : wd ≤ 1048576) {fr to : Nat} (ht : fr < to) (htn : to ≤ n) {wide : Int} (h0 : 0 ≤ wide) : DvOk n (k + 1) fr (cand n wd T to wide) := by
  have hc := h.c0 to
  have hl := h.l0 to
  refine ⟨?_, ?_, ?_⟩
  · unfold cand
    split
    · rename_i hh
      have := sq_bd (x := wd - wide) (by omega) (by omega)
      simp only
      omega
    · simp only; omega
  · unfold cand; simp only; omega
  · unfold cand; simp only; omega

theorem up_ok {n k : Nat} {T : Nat → Dv} (h : TabOk n k T) {wd : Int} (hw1 : wd ≤ 1048576) {fr to : Nat} (ht : fr < to) (htn : to ≤ n) {wide : Int} (h0 : 0 ≤ wide) {cur : Dv} (hc : to = fr + 1 ∨ DvOk n (k + 1) fr cur) :
    DvOk n (k + 1) fr (upOf n wd T fr to wide cur) := by
  unfold upOf
  split
  · exact cand_ok h hw1 ht htn h0
  · rcases hc with hc | hc
    · rename_i hh; exact absurd (.inl hc) hh
    · exact hc

theorem ext_ok {n k : Nat} {T : Nat → Dv} (h : TabOk n k T) {ws : List Int} {sp wd : Int} (hw1 : wd ≤ 1048576) (hs : 0 ≤ sp) (hws : ∀ x ∈ ws, (0 : Int) ≤ x) {fr : Nat} :
    ∀ (f to : Nat) (wide : Int) (cur : Dv), fr < to → to ≤ n → 0 < f → 0 ≤ wide → (to = fr + 1 ∨ DvOk n (k + 1) fr cur) → DvOk n (k + 1) fr (extH ws sp wd n T fr f to wide cur)
  | 0, _, _, _, _, _, hf, _, _ => absurd hf (by omega)
  | f + 1, to, wide, cur, h1, h2, _, h4, h5 => by
    have hu := up_ok h hw1 h1 h2 h4 h5
    have hd : 0 ≤ ws.getD to 0 := by
      rw [List.getD_eq_getElem?_getD]
      cases hx : ws[to]? with
      | none => simp
      | some y => exact hws y (List.mem_of_getElem? hx)
    rw [extH]
    split
    · exact hu
    · split
      · exact hu
      · cases f with
        | zero => exact hu
        | succ f => exact ext_ok h hw1 hs hws (f + 1) _ _ _ (by omega) (by omega) (by omega) (by omega) (.inr hu)

theorem tab_ok (ws : List Int) (sp wd : Int) (n : Nat) (hw1 : wd ≤ 1048576) (hs : 0 ≤ sp) (hws : ∀ x ∈ ws, (0 : Int) ≤ x) : ∀ k, k ≤ n → TabOk n k (tab ws sp wd n k)
  | 0, _ => ⟨fun j => by simp [tab], fun j => by simp [tab], fun j _ => rfl, fun j h1 h2 => by omega⟩
  | k + 1, hk => by
    have ih := tab_ok ws sp wd n hw1 hs hws k (by omega)
    have hd : 0 ≤ ws.getD (n - (k + 1)) 0 := by
      rw [List.getD_eq_getElem?_getD]
      cases hx : ws[n - (k + 1)]? with
      | none => simp
      | some y => exact hws y (List.mem_of_getElem? hx)
    have he := ext_ok ih hw1 hs hws (fr := n - (k + 1)) (k + 1) (n - k) (ws.getD (n - (k + 1)) 0) (tab ws sp wd n k (n - (k + 1))) (by omega) (by omega) (by omega) hd (.inl (by omega))
    rw [tab]
    generalize extH ws sp wd n (tab ws sp wd n k) (n - (k + 1)) (k + 1) (n - k) (ws.getD (n - (k + 1)) 0) (tab ws sp wd n k (n - (k + 1))) = d at *
    refine ⟨fun j => ?_, fun j => ?_, fun j hj => ?_, fun j h1 h2 => ?_⟩
    · unfold upd; have := ih.c0 j; split
      · exact he.c
      · push_cast; omega
    · unfold upd; have := ih.l0 j; split
      · exact he.l
      · push_cast; omega
    · unfold upd; rw [if_neg (by omega)]; exact ih.z j (by omega)
    · unfold upd
      by_cases e : j = n - (k + 1)
      · rw [if_pos e, e]; exact he.nx
      · rw [if_neg e]; exact ih.nx j (by omega) h2

/-- The first words of the lines, read off the table. -/
def firsts (n : Nat) (T : Nat → Dv) : Nat → Nat → List Int
  | 0, _ => []
  | f + 1, i => if i < n then (i : Int) :: firsts n T f (T i).nx.toNat else []
theorem firsts_end (n : Nat) (T : Nat → Dv) (f i : Nat) (h : ¬ i < n) : firsts n T f i = [] := by cases f <;> simp [firsts, h]
theorem firsts_on (n : Nat) (T : Nat → Dv) (f i : Nat) (h : i < n) : firsts n T (f + 1) i = (i : Int) :: firsts n T f (T i).nx.toNat := by rw [firsts, if_pos h]
theorem firsts_len (n : Nat) (T : Nat → Dv) : ∀ f i, (firsts n T f i).length ≤ f
  | 0, _ => by simp [firsts]
  | f + 1, i => by
    rw [firsts]; split
    · simp; exact firsts_len n T f _
    · simp

/-- The whole answer: the table of the words, the first words of the lines, the cost. -/
def brT (ws : List Int) (sp wd : Int) : Nat → Dv := tab ws sp wd ws.length ws.length
def brFirst (ws : List Int) (sp wd : Int) : List Int := firsts ws.length (brT ws sp wd) ws.length 0
def brCost (ws : List Int) (sp wd : Int) : Int := (brT ws sp wd 0).c
end Go.Proofs.YtgjhfjplalcnbaaDoor
