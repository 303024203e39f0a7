/- Plain part: attributes in braces, read off a list of bytes; what is read does not depend on what stands behind the closing brace. -/
import Derived.Test.YtjobjicdfoklpaaGreatDoorMergP
namespace Go.Proofs.YtjobjicdfoklpaaGreatDoor
set_option linter.unusedVariables false
set_option linter.unusedSimpArgs false

/-- What stands between quotation marks, from behind the first one, and what is left behind the second one. -/
def quoteL : List UInt8 → List UInt8 → Option (List UInt8 × List UInt8)
  | [], _ => none
  | c :: l, acc =>
    if c = 34 then some (acc, l)
    else if c = 92 then (match l with
      | [] => none
      | d :: l' => if d = 34 ∨ d = 92 then quoteL l' (acc ++ [d]) else none)
    else quoteL l (acc ++ [c])
def bsOf (l : List UInt8) : ByteArray := ⟨l.toArray⟩
def valueL (l : List UInt8) : Option (ByteArray × List UInt8) :=
  if l.head? = some 34 then (match quoteL l.tail [] with
    | none => none
    | some (v, r) => if lineS (bsOf v) = true then some (bsOf v, r) else none)
  else if nameOk (bsOf (l.takeWhile nmB)) = true then some (bsOf (l.takeWhile nmB), l.dropWhile nmB) else none
def afterSign (l : List UInt8) : List UInt8 := if l.head? = some 35 ∨ l.head? = some 46 then l.tail else l
def keysOf (a : At) : List ByteArray := a.prs.map Pr.key
def itemL (a : At) (l : List UInt8) : Option (At × List UInt8) :=
  if nameOk (bsOf ((afterSign l).takeWhile nmB)) = false then none
  else if l.head? = some 35 then (if emptyS a.id = false then none else some (⟨bsOf ((afterSign l).takeWhile nmB), a.cls, a.prs⟩, (afterSign l).dropWhile nmB))
  else if l.head? = some 46 then (if hasB a.cls (bsOf ((afterSign l).takeWhile nmB)) = true then none else if 32 ≤ a.cls.length then none
    else some (⟨a.id, a.cls ++ [bsOf ((afterSign l).takeWhile nmB)], a.prs⟩, (afterSign l).dropWhile nmB))
  else if ((afterSign l).dropWhile nmB).head? = some 61 then (match valueL ((afterSign l).dropWhile nmB).tail with
    | none => none
    | some (v, r) => if hasB (keysOf a) (bsOf ((afterSign l).takeWhile nmB)) = true then none else if 32 ≤ a.prs.length then none
      else some (⟨a.id, a.cls, a.prs ++ [⟨bsOf ((afterSign l).takeWhile nmB), v⟩]⟩, r))
  else none
def isSp (c : UInt8) : Bool := decide (c = 32)
def skipS (l : List UInt8) : List UInt8 := l.dropWhile isSp
/-- The attributes, from behind spaces on; sep: may an item stand here? -/
def parseG : Nat → At → Bool → List UInt8 → Option (At × List UInt8)
  | 0, _, _, _ => none
  | f + 1, a, sep, l =>
    if l.head? = some 125 then some (a, l.tail)
    else if l = [] ∨ sep = false then none
    else (match itemL a l with
      | none => none
      | some (a', l') => parseG f a' (decide (l'.head? = some 32)) (skipS l'))
/-- Attributes in braces. -/
def parseL (l : List UInt8) : Option (At × List UInt8) :=
  if l.head? = some 123 then parseG l.length ⟨bsOf [], [], []⟩ true (skipS l.tail) else none

theorem tw_app (p : UInt8 → Bool) : ∀ (n r : List UInt8), (∀ c ∈ n, p c = true) → (∀ c, r.head? = some c → p c = false) → (n ++ r).takeWhile p = n ∧ (n ++ r).dropWhile p = r
  | [], r, _, h2 => by
    cases r with
    | nil => exact ⟨rfl, rfl⟩
    | cons c r => exact ⟨by simp [h2 c rfl], by simp [h2 c rfl]⟩
  | c :: n, r, h1, h2 => by
    have hc := h1 c (by simp)
    obtain ⟨k1, k2⟩ := tw_app p n r (fun x hx => h1 x (by simp [hx])) h2
    rw [List.cons_append, List.takeWhile_cons, List.dropWhile_cons, hc]
    simp [k1, k2]
theorem tw_parts (p : UInt8 → Bool) (l : List UInt8) : (∀ c ∈ l.takeWhile p, p c = true) ∧ (∀ c, (l.dropWhile p).head? = some c → p c = false) := by
  induction l with
  | nil => simp
  | cons x l ih =>
    rw [List.takeWhile_cons, List.dropWhile_cons]
    cases h : p x with
    | true =>
      refine ⟨fun c hc => ?_, fun c hc => ih.2 c (by simpa using hc)⟩
      simp at hc
      rcases hc with rfl | hc
      · exact h
      · exact ih.1 c hc
    | false => exact ⟨by simp, fun c hc => by simp at hc; rw [← hc]; exact h⟩
/-- A run of letters is read alike in front of whatever begins alike. -/
theorem tw_swap (p : UInt8 → Bool) (l r' : List UInt8) (h : r'.head? = (l.dropWhile p).head?) : (l.takeWhile p ++ r').takeWhile p = l.takeWhile p ∧ (l.takeWhile p ++ r').dropWhile p = r' :=
  tw_app p _ _ (tw_parts p l).1 (fun c hc => (tw_parts p l).2 c (by rw [← h]; exact hc))

theorem quoteL_pre : ∀ (n : Nat) (l acc v r : List UInt8), l.length ≤ n → quoteL l acc = some (v, r) → ∃ p, l = p ++ r ∧ p ≠ [] ∧ ∀ r', quoteL (p ++ r') acc = some (v, r')
  | n, [], acc, v, r, _, h => by rw [quoteL] at h; cases h
  | 0, c :: l, acc, v, r, hn, h => by simp at hn
  | n + 1, c :: l, acc, v, r, hn, h => by
    simp only [List.length_cons] at hn
    rw [quoteL.eq_def] at h
    simp only at h
    by_cases h1 : c = 34
    · rw [if_pos h1] at h
      injection h with h
      injection h with h2 h3
      subst h2 h3
      exact ⟨[c], rfl, by simp, fun r' => by rw [List.singleton_append, quoteL.eq_def]; simp only; rw [if_pos h1]⟩
    · rw [if_neg h1] at h
      by_cases h2 : c = 92
      · rw [if_pos h2] at h
        cases l with
        | nil => cases h
        | cons d l' =>
          simp only at h
          by_cases h3 : d = 34 ∨ d = 92
          · rw [if_pos h3] at h
            obtain ⟨p, e1, e2, e3⟩ := quoteL_pre n l' (acc ++ [d]) v r (by simp at hn; omega) h
            refine ⟨c :: d :: p, by rw [e1]; rfl, by simp, fun r' => ?_⟩
            rw [List.cons_append, List.cons_append, quoteL.eq_def]
            simp only
            rw [if_neg h1, if_pos h2, if_pos h3]
            exact e3 r'
          · rw [if_neg h3] at h; cases h
      · rw [if_neg h2] at h
        obtain ⟨p, e1, e2, e3⟩ := quoteL_pre n l (acc ++ [c]) v r (by omega) h
        refine ⟨c :: p, by rw [e1]; rfl, by simp, fun r' => ?_⟩
        rw [List.cons_append, quoteL.eq_def]
        simp only
        rw [if_neg h1, if_neg h2]
        exact e3 r'
theorem nameOk_ne (l : List UInt8) (h : nameOk (bsOf l) = true) : l ≠ [] := by
  rintro rfl
  revert h
  decide
theorem valueL_pre (l r : List UInt8) (v : ByteArray) (h : valueL l = some (v, r)) : ∃ p, l = p ++ r ∧ p ≠ [] ∧ ∀ r', r'.head? = r.head? → valueL (p ++ r') = some (v, r') := by
  unfold valueL at h
  by_cases h1 : l.head? = some 34
  · rw [if_pos h1] at h
    cases l with
    | nil => simp at h1
    | cons c l =>
      obtain rfl : c = 34 := by simpa using h1
      rw [List.tail_cons] at h
      cases hq : quoteL l [] with
      | none => rw [hq] at h; cases h
      | some z =>
        obtain ⟨v1, r1⟩ := z
        rw [hq] at h
        simp only at h
        by_cases h2 : lineS (bsOf v1) = true
        · rw [if_pos h2] at h
          injection h with h
          injection h with h3 h4
          subst h3 h4
          obtain ⟨p, e1, e2, e3⟩ := quoteL_pre _ l [] v1 r1 (Nat.le_refl _) hq
          refine ⟨34 :: p, by rw [e1]; rfl, by simp, fun r' _ => ?_⟩
          unfold valueL
          rw [List.cons_append, List.head?_cons, if_pos rfl, List.tail_cons, e3 r']
          simp only
          rw [if_pos h2]
        · rw [if_neg h2] at h; cases h
  · rw [if_neg h1] at h
    by_cases h2 : nameOk (bsOf (l.takeWhile nmB)) = true
    · rw [if_pos h2] at h
      injection h with h
      injection h with h3 h4
      subst h3 h4
      refine ⟨l.takeWhile nmB, (List.takeWhile_append_dropWhile).symm, nameOk_ne _ h2, fun r' hr => ?_⟩
      obtain ⟨k1, k2⟩ := tw_swap nmB l r' hr
      unfold valueL
      have hh : (l.takeWhile nmB ++ r').head? = l.head? := by
        cases l with
        | nil => exact absurd rfl (nameOk_ne _ h2)
        | cons c l =>
          have hne := nameOk_ne _ h2
          rw [List.takeWhile_cons] at hne ⊢
          cases hc : nmB c with
          | true => simp
          | false => rw [hc] at hne; simp at hne
      rw [hh, if_neg h1, k1, k2, if_pos h2]
    · rw [if_neg h2] at h; cases h
theorem head_app (p r r' : List UInt8) (h : p ≠ []) : (p ++ r).head? = (p ++ r').head? := by
  cases p with
  | nil => exact absurd rfl h
  | cons c p => rfl
theorem itemL_pre (a a' : At) (l r : List UInt8) (h : itemL a l = some (a', r)) : ∃ p, l = p ++ r ∧ p ≠ [] ∧ ∀ r', r'.head? = r.head? → itemL a (p ++ r') = some (a', r') := by
  unfold itemL at h
  by_cases h1 : nameOk (bsOf ((afterSign l).takeWhile nmB)) = false
  · rw [if_pos h1] at h; cases h
  rw [if_neg h1] at h
  have h1' : nameOk (bsOf ((afterSign l).takeWhile nmB)) = true := by simpa using h1
  have hN := nameOk_ne _ h1'
  by_cases h2 : l.head? = some 35
  · rw [if_pos h2] at h
    by_cases h3 : emptyS a.id = false
    · rw [if_pos h3] at h; cases h
    rw [if_neg h3] at h
    injection h with h
    injection h with e1 e2
    cases l with
    | nil => simp at h2
    | cons c l =>
      obtain rfl : c = 35 := by simpa using h2
      have hA : ∀ x, afterSign (35 :: x) = x := fun x => by simp [afterSign]
      rw [hA] at e1 e2 h1 hN
      refine ⟨35 :: l.takeWhile nmB, ?_, by simp, fun r' hr => ?_⟩
      · rw [← e2, List.cons_append, List.takeWhile_append_dropWhile]
      · obtain ⟨k1, k2⟩ := tw_swap nmB l r' (by rw [hr, e2])
        unfold itemL
        rw [List.cons_append, hA, k1, k2, if_neg h1, List.head?_cons, if_pos rfl, if_neg h3, e1]
  rw [if_neg h2] at h
  by_cases h3 : l.head? = some 46
  · rw [if_pos h3] at h
    by_cases h4 : hasB a.cls (bsOf ((afterSign l).takeWhile nmB)) = true
    · rw [if_pos h4] at h; cases h
    rw [if_neg h4] at h
    by_cases h5 : 32 ≤ a.cls.length
    · rw [if_pos h5] at h; cases h
    rw [if_neg h5] at h
    injection h with h
    injection h with e1 e2
    cases l with
    | nil => simp at h3
    | cons c l =>
      obtain rfl : c = 46 := by simpa using h3
      have hA : ∀ x, afterSign (46 :: x) = x := fun x => by simp [afterSign]
      rw [hA] at e1 e2 h1 hN h4
      refine ⟨46 :: l.takeWhile nmB, ?_, by simp, fun r' hr => ?_⟩
      · rw [← e2, List.cons_append, List.takeWhile_append_dropWhile]
      · obtain ⟨k1, k2⟩ := tw_swap nmB l r' (by rw [hr, e2])
        unfold itemL
        rw [List.cons_append, hA, k1, k2, if_neg h1, List.head?_cons, if_neg (by decide), if_pos rfl, if_neg h4, if_neg h5, e1]
  rw [if_neg h3] at h
  have hA : afterSign l = l := by unfold afterSign; rw [if_neg (by rintro (h | h); exact h2 h; exact h3 h)]
  rw [hA] at h h1 hN
  by_cases h4 : (l.dropWhile nmB).head? = some 61
  · rw [if_pos h4] at h
    cases hv : valueL (l.dropWhile nmB).tail with
    | none => rw [hv] at h; cases h
    | some z =>
      obtain ⟨v, r1⟩ := z
      rw [hv] at h
      simp only at h
      by_cases h5 : hasB (keysOf a) (bsOf (l.takeWhile nmB)) = true
      · rw [if_pos h5] at h; cases h
      rw [if_neg h5] at h
      by_cases h6 : 32 ≤ a.prs.length
      · rw [if_pos h6] at h; cases h
      rw [if_neg h6] at h
      injection h with h
      injection h with e1 e2
      subst e2
      obtain ⟨p1, q1, q2, q3⟩ := valueL_pre _ _ _ hv
      have hD : l.dropWhile nmB = 61 :: (l.dropWhile nmB).tail := by
        cases hd : l.dropWhile nmB with
        | nil => rw [hd] at h4; simp at h4
        | cons c m => rw [hd] at h4; obtain rfl : c = 61 := by simpa using h4
                      rfl
      refine ⟨l.takeWhile nmB ++ 61 :: p1, ?_, by simp, fun r' hr => ?_⟩
      · rw [List.append_assoc, List.cons_append, ← q1, ← hD, List.takeWhile_append_dropWhile]
      · have hrr : (l.takeWhile nmB ++ 61 :: p1) ++ r' = l.takeWhile nmB ++ (61 :: (p1 ++ r')) := by simp
        obtain ⟨k1, k2⟩ := tw_swap nmB l (61 :: (p1 ++ r')) (by rw [h4]; rfl)
        have hh : (l.takeWhile nmB ++ (61 :: (p1 ++ r'))).head? = l.head? := by
          conv => rhs; rw [← List.takeWhile_append_dropWhile (p := nmB) (l := l)]
          exact head_app _ _ _ hN
        have hA' : afterSign (l.takeWhile nmB ++ (61 :: (p1 ++ r'))) = l.takeWhile nmB ++ (61 :: (p1 ++ r')) := by
          unfold afterSign; rw [hh, if_neg (by rintro (h | h); exact h2 h; exact h3 h)]
        unfold itemL
        rw [hrr, hA', k1, k2, hh, if_neg h1, if_neg h2, if_neg h3, List.head?_cons, if_pos rfl, List.tail_cons, q3 r' hr]
        simp only
        rw [if_neg h5, if_neg h6, e1]
  · rw [if_neg h4] at h; cases h

theorem parseG_pre : ∀ (f : Nat) (a a' : At) (sep : Bool) (l r : List UInt8), parseG f a sep l = some (a', r) →
    ∃ p, l = p ++ 125 :: r ∧ ∀ r' f', p.length + r'.length + 1 ≤ f' → parseG f' a sep (p ++ 125 :: r') = some (a', r')
  | 0, a, a', sep, l, r, h => by rw [parseG] at h; cases h
  | f + 1, a, a', sep, l, r, h => by
    rw [parseG] at h
    by_cases h1 : l.head? = some 125
    · rw [if_pos h1] at h
      injection h with h
      injection h with e1 e2
      subst e1 e2
      cases l with
      | nil => simp at h1
      | cons c l =>
        obtain rfl : c = 125 := by simpa using h1
        refine ⟨[], rfl, fun r' f' hf => ?_⟩
        obtain ⟨g, rfl⟩ : ∃ g, f' = g + 1 := ⟨f' - 1, by omega⟩
        rw [parseG, List.nil_append, List.head?_cons, if_pos rfl]
        rfl
    rw [if_neg h1] at h
    by_cases h2 : l = [] ∨ sep = false
    · rw [if_pos h2] at h; cases h
    rw [if_neg h2] at h
    cases hi : itemL a l with
    | none => rw [hi] at h; cases h
    | some z =>
      obtain ⟨a1, l1⟩ := z
      rw [hi] at h
      simp only at h
      obtain ⟨p1, q1, q2, q3⟩ := itemL_pre _ _ _ _ hi
      obtain ⟨p2, k1, k2⟩ := parseG_pre f a1 a' _ _ r h
      have hl1 : l1 = l1.takeWhile isSp ++ (p2 ++ 125 :: r) := by rw [← k1]; exact (List.takeWhile_append_dropWhile).symm
      have hh : ∀ r', (l1.takeWhile isSp ++ (p2 ++ 125 :: r')).head? = l1.head? := fun r' => by
        conv => rhs; rw [hl1]
        have e : ∀ x, l1.takeWhile isSp ++ (p2 ++ 125 :: x) = (l1.takeWhile isSp ++ p2 ++ [125]) ++ x := fun x => by simp
        rw [e, e]
        exact head_app _ _ _ (by simp)
      have hs : ∀ r', skipS (l1.takeWhile isSp ++ (p2 ++ 125 :: r')) = p2 ++ 125 :: r' := fun r' => by
        refine (tw_app isSp _ _ (tw_parts isSp l1).1 (fun c hc => (tw_parts isSp l1).2 c ?_)).2
        rw [← hc]
        show (skipS l1).head? = _
        rw [k1]
        have e : ∀ x, p2 ++ 125 :: x = (p2 ++ [125]) ++ x := fun x => by simp
        rw [e r', e r]
        exact head_app _ _ _ (by simp)
      refine ⟨p1 ++ l1.takeWhile isSp ++ p2, ?_, fun r' f' hf => ?_⟩
      · rw [q1, List.append_assoc, List.append_assoc, ← hl1]
      · obtain ⟨g, rfl⟩ : ∃ g, f' = g + 1 := ⟨f' - 1, by omega⟩
        have hp1 : 0 < p1.length := List.length_pos_iff.2 q2
        have e : p1 ++ l1.takeWhile isSp ++ p2 ++ 125 :: r' = p1 ++ (l1.takeWhile isSp ++ (p2 ++ 125 :: r')) := by simp
        have hh2 : (p1 ++ (l1.takeWhile isSp ++ (p2 ++ 125 :: r'))).head? = l.head? := by rw [q1]; exact head_app _ _ _ q2
        rw [e, parseG, hh2, if_neg h1, if_neg, q3 _ (hh r')]
        · simp only
          rw [hh r', hs r']
          refine k2 r' g ?_
          simp only [List.length_append] at hf
          omega
        · rintro (h3 | h3)
          · simp at h3
          · exact h2 (.inr h3)

/-- Spaces at the end are left out. -/
def trimE (l : List UInt8) : List UInt8 := (l.reverse.dropWhile isSp).reverse
theorem trimE_app (p r : List UInt8) (hr : ∀ c ∈ r, isSp c = true) (hp : ∀ c, p.getLast? = some c → isSp c = false) : trimE (p ++ r) = p := by
  unfold trimE
  rw [List.reverse_append, (tw_app isSp r.reverse p.reverse (fun c hc => hr c (by simpa using hc)) (fun c hc => hp c (by simpa using hc))).2, List.reverse_reverse]
theorem trimE_split (l : List UInt8) : ∃ r, l = trimE l ++ r ∧ ∀ c ∈ r, isSp c = true := by
  refine ⟨(l.reverse.takeWhile isSp).reverse, ?_, fun c hc => (tw_parts isSp l.reverse).1 c (by simpa using hc)⟩
  unfold trimE
  rw [← List.reverse_append, List.takeWhile_append_dropWhile, List.reverse_reverse]
theorem parseL_pre (l r : List UInt8) (a : At) (h : parseL l = some (a, r)) : ∃ p, l = p ++ 125 :: r ∧ ∀ r', parseL (p ++ 125 :: r') = some (a, r') := by
  unfold parseL at h
  by_cases h1 : l.head? = some 123
  · rw [if_pos h1] at h
    cases l with
    | nil => simp at h1
    | cons c l =>
      obtain rfl : c = 123 := by simpa using h1
      rw [List.tail_cons] at h
      obtain ⟨p2, k1, k2⟩ := parseG_pre _ _ _ _ _ _ h
      have hl : l = l.takeWhile isSp ++ (p2 ++ 125 :: r) := by rw [← k1]; exact (List.takeWhile_append_dropWhile).symm
      have hs : ∀ r', skipS (l.takeWhile isSp ++ (p2 ++ 125 :: r')) = p2 ++ 125 :: r' := fun r' => by
        refine (tw_app isSp _ _ (tw_parts isSp l).1 (fun c hc => (tw_parts isSp l).2 c ?_)).2
        rw [← hc]
        show (skipS l).head? = _
        rw [k1]
        have e : ∀ x, p2 ++ 125 :: x = (p2 ++ [125]) ++ x := fun x => by simp
        rw [e r', e r]
        exact head_app _ _ _ (by simp)
      refine ⟨123 :: (l.takeWhile isSp ++ p2), ?_, fun r' => ?_⟩
      · conv => lhs; rw [hl]
        simp
      · have e : 123 :: (l.takeWhile isSp ++ p2) ++ 125 :: r' = 123 :: (l.takeWhile isSp ++ (p2 ++ 125 :: r')) := by simp
        unfold parseL
        rw [e, List.head?_cons, if_pos rfl, List.tail_cons, hs r']
        refine k2 r' _ ?_
        simp
        omega
  · rw [if_neg h1] at h; cases h
/-- Behind the attributes only spaces: read before or after spaces at the end are cut. -/
def closeR (l : List UInt8) : Bool := match parseL l with
  | none => false
  | some (_, r) => r.all isSp
def closeP (l : List UInt8) : Bool := match parseL (trimE l) with
  | none => false
  | some (_, r) => r.isEmpty
theorem closeR_closeP (l : List UInt8) : closeR l = closeP l := by
  rw [Bool.eq_iff_iff]
  unfold closeR closeP
  constructor
  · intro h
    cases hp : parseL l with
    | none => rw [hp] at h; cases h
    | some z =>
      obtain ⟨a, r⟩ := z
      rw [hp] at h
      simp only at h
      obtain ⟨p, e1, e2⟩ := parseL_pre _ _ _ hp
      have ht : trimE l = p ++ [125] := by
        have e : l = (p ++ [125]) ++ r := by rw [e1]; simp
        rw [e]
        refine trimE_app _ _ (List.all_eq_true.1 h) (fun c hc => ?_)
        simp at hc
        subst hc
        decide
      rw [ht, e2 []]
      rfl
  · intro h
    cases hp : parseL (trimE l) with
    | none => rw [hp] at h; cases h
    | some z =>
      obtain ⟨a, r⟩ := z
      rw [hp] at h
      simp only at h
      obtain rfl : r = [] := by simpa using h
      obtain ⟨p, e1, e2⟩ := parseL_pre _ _ _ hp
      obtain ⟨sp, k1, k2⟩ := trimE_split l
      have e : l = p ++ 125 :: sp := by rw [k1, e1]; simp
      rw [e, e2 sp]
      exact List.all_eq_true.2 k2
/-- Does a line close a formula? -/
def endsL (l : List UInt8) : Bool :=
  decide ((l.takeWhile isSp).length ≤ 3) && decide ((skipS l).take 2 = [36, 36]) && ((skipS ((skipS l).drop 2)).isEmpty || closeR (skipS ((skipS l).drop 2)))
/-- The lines of a text that end in a line feed. -/
def linesG : List UInt8 → List UInt8 → List (List UInt8)
  | _, [] => []
  | acc, c :: l => if c = 10 then acc :: linesG [] l else linesG (acc ++ [c]) l
/-- Has a text a line that closes a formula? -/
def closesS (s : ByteArray) : Bool := (linesG [] s.data.toList).any endsL
end Go.Proofs.YtjobjicdfoklpaaGreatDoor
