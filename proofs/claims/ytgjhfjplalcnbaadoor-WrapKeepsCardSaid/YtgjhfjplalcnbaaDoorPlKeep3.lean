/- What the statement on kept words needs, plainly. -/
import Derived.Test.YtgjhfjplalcnbaaDoorPlKeep2
namespace Go.Proofs.YtgjhfjplalcnbaaDoor
open Go.Lib

def one1 : Nat → Nat := fun _ => 1
theorem one1_ge : ∀ i, 0 < i → 1 ≤ (fun _ : Nat => 1) i := fun _ _ => Nat.le_refl _
theorem gapJ_ge (k n : Nat) : ∀ i, 0 < i → 1 ≤ gapJ k n i := fun i _ => by
  unfold gapJ
  generalize k / n = q
  split <;> omega

/-- The spaces that are added are k in all. -/
theorem sumW_gap (k n : Nat) : ∀ (t : List ByteArray) (i : Nat), sumW (gapJ k n) (i + 1) t + 30 * min i (k % n) = sumW (fun _ => 1) (i + 1) t + 30 * (t.length * (k / n)) + 30 * min (i + t.length) (k % n)
  | [], i => by simp [sumW]
  | x :: t, i => by
    have ih := sumW_gap k n t (i + 1)
    rw [sumW, sumW, if_neg (by omega), if_neg (by omega)]
    have hg : gapJ k n (i + 1) = 1 + k / n + (min (i + 1) (k % n) - min i (k % n)) := by
      unfold gapJ; split <;> omega
    rw [hg, List.length_cons]
    have e1 : (t.length + 1) * (k / n) = t.length * (k / n) + k / n := Nat.succ_mul _ _
    rw [e1]
    generalize t.length * (k / n) = T at *
    have e2 : i + 1 + t.length = i + (t.length + 1) := by omega
    rw [e2] at ih
    omega
theorem wide_just (k : Nat) (l : List ByteArray) (h : 2 ≤ l.length) : wideS (jB (gapJ k (l.length - 1)) l) = wideS (jB (fun _ => 1) l) + 30 * k := by
  rw [wide_jB _ (gapJ_ge _ _), wide_jB _ one1_ge]
  cases l with
  | nil => simp at h
  | cons x t =>
    have hl : (x :: t).length - 1 = t.length := by simp
    rw [hl]
    have ht : 1 ≤ t.length := by simp at h; omega
    have hg := sumW_gap k t.length t 0
    rw [sumW, sumW, if_pos rfl, if_pos rfl]
    have hm := Nat.mod_lt k (show t.length > 0 by omega)
    have hdm : t.length * (k / t.length) + k % t.length = k := Nat.div_add_mod k t.length
    generalize t.length * (k / t.length) = Q at *
    simp only [Nat.zero_min, Nat.mul_zero, Nat.add_zero, Nat.zero_add] at hg ⊢
    rw [Nat.min_eq_right (by omega)] at hg
    omega
theorem just_fits (wd : Int) (l : List ByteArray) (h : 2 ≤ l.length) (hw : (wideS (jB (fun _ => 1) l) : Int) ≤ wd) :
    (wideS (jB (gapJ (addJ wd (wideS (jB (fun _ => 1) l))) (l.length - 1)) l) : Int) ≤ wd := by
  rw [wide_just _ l h]
  unfold addJ
  split
  · rename_i h1
    have : 30 * (((wd - (wideS (jB (fun _ => 1) l) : Int)) / 30).toNat : Int) ≤ wd - wideS (jB (fun _ => 1) l) := by
      rw [Int.toNat_of_nonneg (by omega)]
      omega
    push_cast
    omega
  · push_cast; omega

/-- The sizes of words that lie in a string. -/
def tot : List (List UInt8) → Nat
  | [] => 0
  | x :: t => x.length + 1 + tot t
theorem splitW_tot : ∀ (l cur : List UInt8), tot (splitW l cur) ≤ l.length + cur.length + 1
  | [], cur => by rw [splitW]; split <;> simp [tot]
  | c :: t, cur => by
    rw [splitW]
    split
    · split
      · rename_i h
        have := splitW_tot t []
        simp at this ⊢; omega
      · have := splitW_tot t []
        simp [tot] at this ⊢; omega
    · have := splitW_tot t (cur ++ [c])
      simp at this ⊢; omega
theorem jrec_tot : ∀ (l : List ByteArray) (i : Nat), 0 < i → (jrec (fun _ => 1) i l).length = tot (l.map (·.data.toList))
  | [], _, _ => rfl
  | x :: t, i, h => by
    rw [jrec, if_neg (by omega)]
    simp only [List.length_append, List.length_replicate, List.map_cons, tot, jrec_tot t (i + 1) (by omega)]
    omega
theorem jB_tot (l : List ByteArray) : (jB (fun _ => 1) l).size + 1 ≤ tot (l.map (·.data.toList)) + 1 ∧ (l ≠ [] → (jB (fun _ => 1) l).size + 1 = tot (l.map (·.data.toList))) := by
  have hs : (jB (fun _ => 1) l).size = (jrec (fun _ => 1) 0 l).length := by simp [jB, ByteArray.size]
  rw [hs]
  cases l with
  | nil => simp [jrec, tot]
  | cons x t =>
    have : (jrec (fun _ => 1) 0 (x :: t)).length + 1 = tot ((x :: t).map (·.data.toList)) := by
      rw [jrec, if_pos rfl]
      simp only [List.nil_append, List.length_append, jrec_tot t 1 (by omega), List.map_cons, tot]
      omega
    exact ⟨by omega, fun _ => this⟩
theorem tot_append (a b : List (List UInt8)) : tot (a ++ b) = tot a + tot b := by
  induction a with
  | nil => simp [tot]
  | cons x t ih => simp [tot, ih]; omega
theorem line_size (s : ByteArray) (a b : Nat) : (jB (fun _ => 1) (((words38 s).take a).drop b)).size ≤ s.size := by
  have h1 := splitW_tot s.data.toList []
  rw [← words_split] at h1
  have h2 : tot ((((words38 s).take a).drop b).map (·.data.toList)) ≤ tot ((words38 s).map (·.data.toList)) := by
    have e1 : (words38 s).map (·.data.toList) = ((words38 s).take a).map (·.data.toList) ++ ((words38 s).drop a).map (·.data.toList) := by rw [← List.map_append, List.take_append_drop]
    have e2 : ((words38 s).take a).map (·.data.toList) = (((words38 s).take a).take b).map (·.data.toList) ++ (((words38 s).take a).drop b).map (·.data.toList) := by rw [← List.map_append, List.take_append_drop]
    rw [e1, e2, tot_append, tot_append]
    omega
  have hsz : s.data.toList.length = s.size := Array.length_toList
  rw [hsz] at h1
  by_cases h : ((words38 s).take a).drop b = []
  · rw [h]; exact Nat.zero_le _
  · have := (jB_tot (((words38 s).take a).drop b)).2 h
    simp at h1
    omega

/-- The next first word is what the table says. -/
theorem firsts_next (n : Nat) (T : Nat → Dv) (hT : ∀ j, j < n → (j : Int) < (T j).nx) : ∀ (f i k : Nat) (x : Int), n ≤ i + f → (firsts n T f i)[k]? = some x →
    (firsts n T f i)[k + 1]? = some (T x.toNat).nx ∨ ((firsts n T f i).length = k + 1 ∧ (n : Int) ≤ (T x.toNat).nx)
  | 0, _, _, _, _, h => by simp [firsts] at h
  | f + 1, i, k, x, hn, h => by
    by_cases hi : i < n
    · rw [firsts, if_pos hi] at h ⊢
      have hti := hT i hi
      cases k with
      | zero =>
        simp at h
        subst h
        simp only [Int.toNat_natCast]
        by_cases hnx : (T i).nx.toNat < n
        · left
          obtain ⟨f', rfl⟩ : ∃ f', f = f' + 1 := ⟨f - 1, by omega⟩
          rw [firsts, if_pos hnx]
          simp; omega
        · right
          rw [firsts_end n T f _ hnx]
          refine ⟨rfl, by omega⟩
      | succ k =>
        simp at h
        rcases firsts_next n T hT f _ k x (by omega) h with h' | ⟨h1, h2⟩
        · left; simpa using h'
        · right; exact ⟨by simp [h1], h2⟩
    · rw [firsts_end n T _ i hi] at h; simp at h

/-- A line that is cut out of the words: its words, and its width. -/
structure LineOk (wd : Int) (sub : List ByteArray) : Prop where
  pos : 0 < sub.length
  good : ∀ x ∈ sub, Good x.data.toList
  size : (jB (fun _ => 1) sub).size ≤ 400
  fits : 1 < sub.length → (wideS (jB (fun _ => 1) sub) : Int) ≤ wd
theorem LineOk.words {wd : Int} {sub : List ByteArray} (h : LineOk wd sub) : words38 (jB (fun _ => 1) sub) = sub := words_jB _ one1_ge sub h.good
theorem LineOk.just {wd : Int} {sub : List ByteArray} (h : LineOk wd sub) : words38 (justS (jB (fun _ => 1) sub) wd wideS) = sub ∧ ((wideS (jB (fun _ => 1) sub) : Int) ≤ wd → (wideS (justS (jB (fun _ => 1) sub) wd wideS) : Int) ≤ wd) := by
  unfold justS
  rw [h.words]
  split
  · exact ⟨h.words, fun h => h⟩
  · exact ⟨words_jB _ (gapJ_ge _ _) sub h.good, fun hw => just_fits wd sub (by omega) hw⟩

/-- The width of a line of words is what the division reckons with. -/
theorem sumW_line (l : List ByteArray) (j : Nat) : ∀ (m : Nat), j + (m + 1) ≤ l.length → (sumW (fun _ => 1) 0 ((l.take (j + (m + 1))).drop j) : Int) = lineW (wsOf l) 30 j (j + (m + 1))
  | 0, h => by
    obtain ⟨x, hx⟩ : ∃ x, l[j]? = some x := ⟨_, List.getElem?_eq_getElem (by omega)⟩
    have e : (l.take (j + 1)).drop j = [x] := by
      rw [List.take_add_one, hx, List.drop_append_of_le_length (by simp; omega), List.drop_take, Nat.sub_self, List.take_zero]; rfl
    rw [show j + (0 + 1) = j + 1 from rfl, e, lineW_one]
    have hd : (wsOf l).getD j 0 = (wideS x : Int) := by
      unfold wsOf; rw [List.getD_eq_getElem?_getD, List.getElem?_map, hx]; rfl
    rw [hd]
    simp [sumW]
  | m + 1, h => by
    have ih := sumW_line l j m (by omega)
    obtain ⟨x, hx⟩ : ∃ x, l[j + (m + 1)]? = some x := ⟨_, List.getElem?_eq_getElem (by omega)⟩
    have e : (l.take (j + (m + 1) + 1)).drop j = (l.take (j + (m + 1))).drop j ++ [x] := by
      rw [List.take_add_one, hx, List.drop_append_of_le_length (by simp; omega)]; rfl
    have hd : (wsOf l).getD (j + (m + 1)) 0 = (wideS x : Int) := by
      unfold wsOf; rw [List.getD_eq_getElem?_getD, List.getElem?_map, hx]; rfl
    rw [show j + (m + 1 + 1) = j + (m + 1) + 1 from rfl, e, lineW_on _ _ _ _ (by omega), ← ih, hd]
    have hs : ∀ (a : List ByteArray) (i : Nat), sumW (fun _ => 1) i (a ++ [x]) = sumW (fun _ => 1) i a + ((if i + a.length = 0 then 0 else 30) + wideS x) := by
      intro a
      induction a with
      | nil => intro i; simp [sumW]
      | cons y t ih =>
        intro i
        rw [List.cons_append, sumW, sumW, ih (i + 1), List.length_cons, show i + 1 + t.length = i + (t.length + 1) from by omega]
        omega
    have hl : ((l.take (j + (m + 1))).drop j).length = m + 1 := by simp; omega
    rw [hs, hl, if_neg (by omega)]
    push_cast
    omega
end Go.Proofs.YtgjhfjplalcnbaaDoor
