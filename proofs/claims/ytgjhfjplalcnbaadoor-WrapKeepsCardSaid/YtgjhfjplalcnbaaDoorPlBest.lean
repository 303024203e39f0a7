/- Plainly: no division into lines that fit costs less than the one that the table gives, and the table's own division costs what it says. -/
import Derived.Test.YtgjhfjplalcnbaaDoorPlBreak
namespace Go.Proofs.YtgjhfjplalcnbaaDoor

/-- The width of the line of the words j, .., k - 1. -/
def lineW (ws : List Int) (sp : Int) (j : Nat) : Nat → Int
  | 0 => 0
  | k + 1 => if k = j then ws.getD j 0 else lineW ws sp j k + (sp + ws.getD k 0)
theorem lineW_one (ws : List Int) (sp : Int) (j : Nat) : lineW ws sp j (j + 1) = ws.getD j 0 := by rw [lineW, if_pos rfl]
theorem lineW_on (ws : List Int) (sp : Int) (j k : Nat) (h : j < k) : lineW ws sp j (k + 1) = lineW ws sp j k + (sp + ws.getD k 0) := by rw [lineW, if_neg (by omega)]

/-- The loop over the ends of a line reads the table behind the line's first word alone. -/
theorem cand_congr {n : Nat} {wd : Int} {T T' : Nat → Dv} {t : Nat} (wide : Int) (h : T t = T' t) : cand n wd T t wide = cand n wd T' t wide := by
  unfold cand; rw [h]
theorem ext_congr {ws : List Int} {sp wd : Int} {n : Nat} {T T' : Nat → Dv} {fr : Nat} (h : ∀ j, fr < j → T j = T' j) :
    ∀ (f t : Nat) (wide : Int) (cur : Dv), fr < t → extH ws sp wd n T fr f t wide cur = extH ws sp wd n T' fr f t wide cur
  | 0, _, _, _, _ => rfl
  | f + 1, t, wide, cur, ht => by
    have hu : upOf n wd T fr t wide cur = upOf n wd T' fr t wide cur := by unfold upOf; rw [cand_congr wide (h t ht)]
    rw [extH, extH, hu, ext_congr h f (t + 1) _ _ (by omega)]
/-- At its start the loop forgets what was there. -/
theorem ext_first {ws : List Int} {sp wd : Int} {n : Nat} {T : Nat → Dv} {fr : Nat} (f : Nat) (wide : Int) (cur cur' : Dv) :
    extH ws sp wd n T fr (f + 1) (fr + 1) wide cur = extH ws sp wd n T fr (f + 1) (fr + 1) wide cur' := by
  have hu : upOf n wd T fr (fr + 1) wide cur = upOf n wd T fr (fr + 1) wide cur' := by unfold upOf; rw [if_pos (.inl rfl), if_pos (.inl rfl)]
  rw [extH, extH, hu]

theorem tab_stay (ws : List Int) (sp wd : Int) (n : Nat) : ∀ (d k j : Nat), n - k ≤ j → k + d ≤ n → tab ws sp wd n (k + d) j = tab ws sp wd n k j
  | 0, _, _, _, _ => rfl
  | d + 1, k, j, hj, hk => by
    rw [show k + (d + 1) = (k + d) + 1 from rfl, tab]
    unfold upd
    rw [if_neg (by omega)]
    exact tab_stay ws sp wd n d k j hj (by omega)

/-- The table's own equation. -/
theorem brT_eq (ws : List Int) (sp wd : Int) (j : Nat) (hj : j < ws.length) (cur : Dv) :
    brT ws sp wd j = extH ws sp wd ws.length (brT ws sp wd) j (ws.length - j) (j + 1) (ws.getD j 0) cur := by
  obtain ⟨k, hk⟩ : ∃ k, k + 1 + j = ws.length := ⟨ws.length - j - 1, by omega⟩
  have e1 : brT ws sp wd j = tab ws sp wd ws.length (k + 1) j := by
    unfold brT
    have := tab_stay ws sp wd ws.length (ws.length - (k + 1)) (k + 1) j (by omega) (by omega)
    rw [show k + 1 + (ws.length - (k + 1)) = ws.length from by omega] at this
    exact this
  have e2 : tab ws sp wd ws.length (k + 1) j = extH ws sp wd ws.length (tab ws sp wd ws.length k) j (k + 1) (j + 1) (ws.getD j 0) (tab ws sp wd ws.length k j) := by
    rw [tab]; unfold upd
    rw [if_pos (by omega), show ws.length - (k + 1) = j from by omega, show ws.length - k = j + 1 from by omega]
  rw [e1, e2, show ws.length - j = k + 1 from by omega, ext_first k _ _ cur]
  refine ext_congr (fun i hi => ?_) _ _ _ _ (by omega)
  by_cases hin : i < ws.length
  · have := tab_stay ws sp wd ws.length (ws.length - k) k i (by omega) (by omega)
    rw [show k + (ws.length - k) = ws.length from by omega] at this
    exact this.symm
  · have z : ∀ m, m ≤ ws.length → tab ws sp wd ws.length m i = ⟨0, 0, 0⟩ := by
      intro m
      induction m with
      | zero => intro _; rfl
      | succ m ih => intro hm; rw [tab]; unfold upd; rw [if_neg (by omega)]; exact ih (by omega)
    unfold brT
    rw [z k (by omega), z ws.length (Nat.le_refl _)]
theorem brT_end (ws : List Int) (sp wd : Int) (j : Nat) (hj : ¬ j < ws.length) : brT ws sp wd j = ⟨0, 0, 0⟩ := by
  have z : ∀ m, m ≤ ws.length → tab ws sp wd ws.length m j = ⟨0, 0, 0⟩ := by
    intro m
    induction m with
    | zero => intro _; rfl
    | succ m ih => intro hm; rw [tab]; unfold upd; rw [if_neg (by omega)]; exact ih (by omega)
  exact z _ (Nat.le_refl _)

theorem up_le_cand (n : Nat) (wd : Int) (T : Nat → Dv) (fr t : Nat) (wide : Int) (cur : Dv) : (upOf n wd T fr t wide cur).c ≤ (cand n wd T t wide).c := by
  unfold upOf
  split
  · exact Int.le_refl _
  · rename_i h
    have hb : betterB (cand n wd T t wide) cur ≠ true := fun e => h (.inr e)
    simp [betterB] at hb
    omega
theorem up_le_cur (n : Nat) (wd : Int) (T : Nat → Dv) (fr t : Nat) (wide : Int) (cur : Dv) (h : t ≠ fr + 1) : (upOf n wd T fr t wide cur).c ≤ cur.c := by
  unfold upOf
  split
  · rename_i h'
    rcases h' with h' | h'
    · exact absurd h' h
    · simp [betterB] at h'
      omega
  · exact Int.le_refl _

/-- What the loop returns is no worse than each candidate that it reaches. -/
theorem ext_min {ws : List Int} {sp wd : Int} {n : Nat} {T : Nat → Dv} {fr : Nat} (hs : 0 ≤ sp) (hws : ∀ k, 0 ≤ ws.getD k 0) :
    ∀ (f t : Nat) (cur : Dv), fr < t → t ≤ n → t + f = n + 1 →
      ((t ≠ fr + 1 → (extH ws sp wd n T fr f t (lineW ws sp fr t) cur).c ≤ cur.c) ∧
       ∀ u, t ≤ u → u ≤ n → (u = t ∨ lineW ws sp fr u ≤ wd) → (extH ws sp wd n T fr f t (lineW ws sp fr t) cur).c ≤ (cand n wd T u (lineW ws sp fr u)).c)
  | 0, t, _, _, _, h => by omega
  | f + 1, t, cur, h1, h2, h3 => by
    have mono : ∀ a b, fr < a → lineW ws sp fr a ≤ lineW ws sp fr (a + b) := by
      intro a b ha
      induction b with
      | zero => exact Int.le_refl _
      | succ b ih =>
        rw [show a + (b + 1) = (a + b) + 1 from rfl, lineW_on _ _ _ _ (by omega)]
        have := hws (a + b)
        omega
    rw [extH]
    by_cases htn : t = n
    · rw [if_pos htn]
      refine ⟨fun h => up_le_cur _ _ _ _ _ _ _ h, fun u hu1 hu2 _ => ?_⟩
      obtain rfl : u = t := by omega
      exact up_le_cand _ _ _ _ _ _ _
    · rw [if_neg htn]
      by_cases hw : wd < lineW ws sp fr t + (sp + ws.getD t 0)
      · rw [if_pos hw]
        refine ⟨fun h => up_le_cur _ _ _ _ _ _ _ h, fun u hu1 hu2 hu3 => ?_⟩
        by_cases hut : u = t
        · rw [hut]; exact up_le_cand _ _ _ _ _ _ _
        · rcases hu3 with hu3 | hu3
          · exact absurd hu3 hut
          · have m := mono (t + 1) (u - (t + 1)) (by omega)
            rw [show t + 1 + (u - (t + 1)) = u from by omega, lineW_on _ _ _ _ h1] at m
            omega
      · rw [if_neg hw, ← lineW_on _ _ _ _ h1]
        have ih := ext_min (n := n) (T := T) (wd := wd) (fr := fr) hs hws f (t + 1) (upOf n wd T fr t (lineW ws sp fr t) cur) (by omega) (by omega) (by omega)
        obtain ⟨i1, i2⟩ := ih
        have i1 := i1 (by omega)
        refine ⟨fun h => Int.le_trans i1 (up_le_cur _ _ _ _ _ _ _ h), fun u hu1 hu2 hu3 => ?_⟩
        by_cases hut : u = t
        · rw [hut]; exact Int.le_trans i1 (up_le_cand _ _ _ _ _ _ _)
        · refine i2 u (by omega) hu2 ?_
          rcases hu3 with hu3 | hu3
          · exact absurd hu3 hut
          · exact .inr hu3

/-- What the loop returns is a candidate that it reaches. -/
theorem ext_is {ws : List Int} {sp wd : Int} {n : Nat} {T : Nat → Dv} {fr : Nat} :
    ∀ (f t : Nat) (cur : Dv), fr < t → t ≤ n → t + f = n + 1 →
      (extH ws sp wd n T fr f t (lineW ws sp fr t) cur = cur ∧ t ≠ fr + 1) ∨
      ∃ u, t ≤ u ∧ u ≤ n ∧ (u = t ∨ lineW ws sp fr u ≤ wd) ∧ extH ws sp wd n T fr f t (lineW ws sp fr t) cur = cand n wd T u (lineW ws sp fr u)
  | 0, t, _, _, _, h => by omega
  | f + 1, t, cur, h1, h2, h3 => by
    have hup : (upOf n wd T fr t (lineW ws sp fr t) cur = cur ∧ t ≠ fr + 1) ∨ upOf n wd T fr t (lineW ws sp fr t) cur = cand n wd T t (lineW ws sp fr t) := by
      unfold upOf
      split
      · exact .inr rfl
      · rename_i h; exact .inl ⟨rfl, fun e => h (.inl e)⟩
    rw [extH]
    by_cases htn : t = n
    · rw [if_pos htn]
      rcases hup with h | h
      · exact .inl h
      · exact .inr ⟨t, Nat.le_refl _, h2, .inl rfl, h⟩
    · rw [if_neg htn]
      by_cases hw : wd < lineW ws sp fr t + (sp + ws.getD t 0)
      · rw [if_pos hw]
        rcases hup with h | h
        · exact .inl h
        · exact .inr ⟨t, Nat.le_refl _, h2, .inl rfl, h⟩
      · rw [if_neg hw, ← lineW_on _ _ _ _ h1]
        rcases ext_is (n := n) (T := T) (wd := wd) (fr := fr) (ws := ws) (sp := sp) f (t + 1) (upOf n wd T fr t (lineW ws sp fr t) cur) (by omega) (by omega) (by omega) with ⟨h, -⟩ | ⟨u, u1, u2, u3, u4⟩
        · rw [h]
          rcases hup with h | h
          · exact .inl h
          · exact .inr ⟨t, Nat.le_refl _, h2, .inl rfl, h⟩
        · refine .inr ⟨u, by omega, u2, ?_, u4⟩
          rcases u3 with rfl | u3
          · exact .inr (by rw [lineW_on _ _ _ _ h1]; omega)
          · exact .inr u3

/-- The two facts on the table. -/
theorem br_min (ws : List Int) (sp wd : Int) (hs : 0 ≤ sp) (hws : ∀ k, 0 ≤ ws.getD k 0) (j u : Nat) (hj : j < u) (hu : u ≤ ws.length) (hf : u = j + 1 ∨ lineW ws sp j u ≤ wd) :
    (brT ws sp wd j).c ≤ (cand ws.length wd (brT ws sp wd) u (lineW ws sp j u)).c := by
  rw [brT_eq ws sp wd j (by omega) ⟨0, 0, 0⟩, ← lineW_one ws sp j]
  exact (ext_min hs hws (ws.length - j) (j + 1) ⟨0, 0, 0⟩ (by omega) (by omega) (by omega)).2 u (by omega) hu hf
theorem br_is (ws : List Int) (sp wd : Int) (j : Nat) (hj : j < ws.length) :
    ∃ u, j < u ∧ u ≤ ws.length ∧ (u = j + 1 ∨ lineW ws sp j u ≤ wd) ∧ brT ws sp wd j = cand ws.length wd (brT ws sp wd) u (lineW ws sp j u) := by
  have h := ext_is (ws := ws) (sp := sp) (wd := wd) (n := ws.length) (T := brT ws sp wd) (fr := j) (ws.length - j) (j + 1) ⟨0, 0, 0⟩ (by omega) (by omega) (by omega)
  rw [lineW_one, ← brT_eq ws sp wd j hj ⟨0, 0, 0⟩] at h
  rcases h with ⟨_, h⟩ | ⟨u, u1, u2, u3, u4⟩
  · exact absurd rfl h
  · exact ⟨u, by omega, u2, u3, u4⟩

/-- The law's cost of a division: the loop from the word i on. -/
def cGo (ws : List Int) (sp wd : Int) (en : Nat → Bool) : Nat → Nat → Int → Nat → Int → Int × Bool
  | 0, _, sum, _, _ => (sum, true)
  | f + 1, i, sum, n, wide =>
    if wd < (if 0 < n then wide + sp else wide) + ws.getD i 0 ∧ 1 < n + 1 then (0, false)
    else if i + 1 = ws.length ∨ en i = true then
      cGo ws sp wd en f (i + 1) (if i + 1 ≠ ws.length ∧ (if 0 < n then wide + sp else wide) + ws.getD i 0 ≤ wd then sum + (wd - ((if 0 < n then wide + sp else wide) + ws.getD i 0)) * (wd - ((if 0 < n then wide + sp else wide) + ws.getD i 0)) else sum) 0 0
    else cGo ws sp wd en f (i + 1) sum (n + 1) ((if 0 < n then wide + sp else wide) + ws.getD i 0)

/-- The width so far of the line from j, before the word i. -/
def soFar (ws : List Int) (sp : Int) (j i : Nat) : Int := if j = i then 0 else lineW ws sp j i
theorem soFar_step (ws : List Int) (sp : Int) (j i : Nat) (h : j ≤ i) : (if 0 < i - j then soFar ws sp j i + sp else soFar ws sp j i) + ws.getD i 0 = lineW ws sp j (i + 1) := by
  unfold soFar
  by_cases e : j = i
  · subst e; simp [lineW_one]
  · rw [if_neg e, if_pos (by omega), lineW_on _ _ _ _ (by omega)]; omega

theorem cost_low (ws : List Int) (sp wd : Int) (hs : 0 ≤ sp) (hws : ∀ k, 0 ≤ ws.getD k 0) (en : Nat → Bool) :
    ∀ (f i j : Nat) (sum m : Int), j ≤ i → i + f = ws.length → 0 < f → cGo ws sp wd en f i sum (i - j) (soFar ws sp j i) = (m, true) → sum + (brT ws sp wd j).c ≤ m
  | 0, _, _, _, _, _, _, h, _ => by omega
  | f + 1, i, j, sum, m, h1, h2, _, h4 => by
    rw [cGo, soFar_step ws sp j i h1] at h4
    by_cases hfail : wd < lineW ws sp j (i + 1) ∧ 1 < i - j + 1
    · rw [if_pos hfail] at h4; simp at h4
    · rw [if_neg hfail] at h4
      by_cases hend : i + 1 = ws.length ∨ en i = true
      · rw [if_pos hend] at h4
        have hm := br_min ws sp wd hs hws j (i + 1) (by omega) (by omega) (by omega)
        have hc : (cand ws.length wd (brT ws sp wd) (i + 1) (lineW ws sp j (i + 1))).c = (brT ws sp wd (i + 1)).c + (if i + 1 < ws.length ∧ lineW ws sp j (i + 1) ≤ wd then (wd - lineW ws sp j (i + 1)) * (wd - lineW ws sp j (i + 1)) else 0) := rfl
        rw [hc] at hm
        cases f with
        | zero =>
          have hi : i + 1 = ws.length := by omega
          rw [if_neg (by omega)] at h4 hm
          rw [cGo] at h4
          rw [brT_end ws sp wd (i + 1) (by omega)] at hm
          simp at h4 hm
          omega
        | succ f =>
          have ih := cost_low ws sp wd hs hws en (f + 1) (i + 1) (i + 1) _ m (Nat.le_refl _) (by omega) (by omega) (by rw [Nat.sub_self, soFar, if_pos rfl]; exact h4)
          by_cases hq : i + 1 ≠ ws.length ∧ lineW ws sp j (i + 1) ≤ wd
          · rw [if_pos hq] at ih
            rw [if_pos ⟨by omega, hq.2⟩] at hm
            omega
          · rw [if_neg hq] at ih
            rw [if_neg (by omega)] at hm
            omega
      · rw [if_neg hend] at h4
        have hi : i + 1 ≠ ws.length := fun e => hend (.inl e)
        cases f with
        | zero => omega
        | succ f =>
          refine cost_low ws sp wd hs hws en (f + 1) (i + 1) j sum m (by omega) (by omega) (by omega) ?_
          rw [show i + 1 - j = i - j + 1 from by omega, soFar, if_neg (by omega)]
          exact h4

theorem firsts_ge (n : Nat) (T : Nat → Dv) (hT : ∀ j, j < n → (j : Int) < (T j).nx) : ∀ (f i : Nat) (x : Int), x ∈ firsts n T f i → (i : Int) ≤ x ∧ x < n
  | 0, _, _, h => by simp [firsts] at h
  | f + 1, i, x, h => by
    rw [firsts] at h
    split at h
    · rename_i hi
      have := hT i hi
      rcases List.mem_cons.1 h with rfl | h
      · omega
      · have ih := firsts_ge n T hT f _ x h
        omega
    · simp at h

theorem cost_own (ws : List Int) (sp wd : Int) (hs : 0 ≤ sp) (hws : ∀ k, 0 ≤ ws.getD k 0) (hnx : ∀ j, j < ws.length → (j : Int) < (brT ws sp wd j).nx) (F : List Int) (en : Nat → Bool)
    (hen : ∀ k, k + 1 < ws.length → (en k = true ↔ ((k + 1 : Nat) : Int) ∈ F)) :
    ∀ (f i j g u : Nat) (sum : Int), j ≤ i → i < u → i + f = ws.length → ws.length ≤ j + g → (∀ x : Nat, j < x → ((x : Int) ∈ F ↔ (x : Int) ∈ firsts ws.length (brT ws sp wd) g j)) →
      u ≤ ws.length → (u = j + 1 ∨ lineW ws sp j u ≤ wd) → brT ws sp wd j = cand ws.length wd (brT ws sp wd) u (lineW ws sp j u) →
      cGo ws sp wd en f i sum (i - j) (soFar ws sp j i) = (sum + (brT ws sp wd j).c, true)
  | 0, i, j, g, u, sum, h1, h2, h3, h4, h5, h6, h7, h8 => by omega
  | f + 1, i, j, g, u, sum, h1, h2, h3, h4, h5, h6, h7, h8 => by
    have mono : ∀ a b, j < a → lineW ws sp j a ≤ lineW ws sp j (a + b) := by
      intro a b ha
      induction b with
      | zero => exact Int.le_refl _
      | succ b ih =>
        rw [show a + (b + 1) = (a + b) + 1 from rfl, lineW_on _ _ _ _ (by omega)]
        have := hws (a + b)
        omega
    have hm := mono (i + 1) (u - (i + 1)) (by omega)
    rw [show i + 1 + (u - (i + 1)) = u from by omega] at hm
    have hnxu : (brT ws sp wd j).nx = (u : Int) := by rw [h8]; rfl
    obtain ⟨g', rfl⟩ : ∃ g', g = g' + 1 := ⟨g - 1, by omega⟩
    have hfi : firsts ws.length (brT ws sp wd) (g' + 1) j = (j : Int) :: firsts ws.length (brT ws sp wd) g' u := by
      rw [firsts_on _ _ _ _ (by omega), hnxu, Int.toNat_natCast]
    rw [cGo, soFar_step ws sp j i h1, if_neg (by omega)]
    by_cases hiu : i + 1 = u
    · subst hiu
      have hend : i + 1 = ws.length ∨ en i = true := by
        by_cases e : i + 1 = ws.length
        · exact .inl e
        · refine .inr ((hen i (by omega)).2 ((h5 (i + 1) (by omega)).2 ?_))
          rw [hfi]
          refine List.mem_cons_of_mem _ ?_
          obtain ⟨g'', rfl⟩ : ∃ g'', g' = g'' + 1 := ⟨g' - 1, by omega⟩
          rw [firsts_on _ _ _ _ (by omega)]
          exact List.mem_cons_self
      rw [if_pos hend]
      have hc : (brT ws sp wd j).c = (brT ws sp wd (i + 1)).c + (if i + 1 < ws.length ∧ lineW ws sp j (i + 1) ≤ wd then (wd - lineW ws sp j (i + 1)) * (wd - lineW ws sp j (i + 1)) else 0) := by
        rw [h8]; rfl
      cases f with
      | zero =>
        rw [if_neg (by omega), cGo, hc, if_neg (by omega), brT_end ws sp wd (i + 1) (by omega)]
        simp
      | succ f =>
        obtain ⟨u', u1, u2, u3, u4⟩ := br_is ws sp wd (i + 1) (by omega)
        have ih := fun s => cost_own ws sp wd hs hws hnx F en hen (f + 1) (i + 1) (i + 1) g' u' s (Nat.le_refl _) u1 (by omega) (by omega)
          (fun x hx => by
            rw [h5 x (by omega), hfi, List.mem_cons]
            constructor
            · rintro (h | h)
              · omega
              · exact h
            · exact .inr) u2 u3 u4
        simp only [Nat.sub_self, soFar, if_true] at ih
        rw [ih, hc]
        by_cases hq : lineW ws sp j (i + 1) ≤ wd
        · rw [if_pos ⟨by omega, hq⟩, if_pos ⟨by omega, hq⟩]
          simp only [Prod.mk.injEq, and_true]; omega
        · rw [if_neg (fun h => hq h.2), if_neg (fun h => hq h.2)]
          simp only [Prod.mk.injEq, and_true]; omega
    · have hend : ¬ (i + 1 = ws.length ∨ en i = true) := by
        rintro (e | e)
        · omega
        · have hx := (h5 (i + 1) (by omega)).1 ((hen i (by omega)).1 e)
          rw [hfi] at hx
          rcases List.mem_cons.1 hx with hx | hx
          · omega
          · have := firsts_ge _ _ hnx _ _ _ hx
            omega
      rw [if_neg hend]
      have ih := cost_own ws sp wd hs hws hnx F en hen f (i + 1) j (g' + 1) u sum (by omega) (by omega) (by omega) h4 h5 h6 h7 h8
      rw [show i + 1 - j = i - j + 1 from by omega, soFar, if_neg (by omega)] at ih
      exact ih

/-- The division that Break returns costs what Break returns. -/
theorem own_cost (ws : List Int) (sp wd : Int) (hs : 0 ≤ sp) (hd : wd ≤ 1048576) (hws : ∀ x ∈ ws, (0 : Int) ≤ x) (hn : 0 < ws.length) (en : Nat → Bool)
    (hen : ∀ k, k + 1 < ws.length → (en k = true ↔ ((k + 1 : Nat) : Int) ∈ brFirst ws sp wd)) : cGo ws sp wd en ws.length 0 0 0 0 = (brCost ws sp wd, true) := by
  have hw0 : ∀ k, 0 ≤ ws.getD k 0 := by
    intro k
    rw [List.getD_eq_getElem?_getD]
    cases hx : ws[k]? with
    | none => simp
    | some y => exact hws y (List.mem_of_getElem? hx)
  have hT := tab_ok ws sp wd ws.length hd hs hws ws.length (Nat.le_refl _)
  obtain ⟨u, u1, u2, u3, u4⟩ := br_is ws sp wd 0 hn
  have h := cost_own ws sp wd hs hw0 (fun j hj => (hT.nx j (by omega) hj).1) (brFirst ws sp wd) en hen ws.length 0 0 ws.length u 0 (Nat.le_refl _) u1 (by omega) (by omega) (fun x _ => Iff.rfl) u2 u3 u4
  simpa [soFar, brCost] using h
theorem low_cost (ws : List Int) (sp wd : Int) (hs : 0 ≤ sp) (hws : ∀ x ∈ ws, (0 : Int) ≤ x) (hn : 0 < ws.length) (en : Nat → Bool) (m : Int) (h : cGo ws sp wd en ws.length 0 0 0 0 = (m, true)) : brCost ws sp wd ≤ m := by
  have hw0 : ∀ k, 0 ≤ ws.getD k 0 := by
    intro k
    rw [List.getD_eq_getElem?_getD]
    cases hx : ws[k]? with
    | none => simp
    | some y => exact hws y (List.mem_of_getElem? hx)
  have := cost_low ws sp wd hs hw0 en ws.length 0 0 0 m (Nat.le_refl _) (by omega) hn (by simpa [soFar] using h)
  unfold brCost; omega

/-- The first words: increasing, from 0, below the number of words. -/
theorem firsts_sorted (n : Nat) (T : Nat → Dv) (hT : ∀ j, j < n → (j : Int) < (T j).nx) : ∀ (f i : Nat) (k : Nat) (x y : Int), (firsts n T f i)[k]? = some x → (firsts n T f i)[k + 1]? = some y → x < y
  | 0, _, _, _, _, h, _ => by simp [firsts] at h
  | f + 1, i, k, x, y, h, h' => by
    rw [firsts] at h h'
    split at h
    · rename_i hi
      rw [if_pos hi] at h'
      have hn := hT i hi
      cases k with
      | zero =>
        simp at h h'
        subst h
        have := firsts_ge n T hT f _ y (List.mem_of_getElem? h')
        omega
      | succ k =>
        simp at h h'
        exact firsts_sorted n T hT f _ k x y h h'
    · simp at h
end Go.Proofs.YtgjhfjplalcnbaaDoor
