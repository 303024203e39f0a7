/- Words joined with gaps, plainly. -/
import Derived.Test.YtgjhfjplalcnbaaDoorPlWords
import Derived.Lib.Join
namespace Go.Proofs.YtgjhfjplalcnbaaDoor

/-- Words, each but the first behind a gap of g i spaces; i: the index of the first one. -/
def jrec (g : Nat → Nat) : Nat → List ByteArray → List UInt8
  | _, [] => []
  | i, x :: t => (if i = 0 then [] else List.replicate (g i) 32) ++ x.data.toList ++ jrec g (i + 1) t
theorem jrec_snoc (g : Nat → Nat) (x : ByteArray) : ∀ (l : List ByteArray) (i : Nat), jrec g i (l ++ [x]) = jrec g i l ++ ((if i + l.length = 0 then [] else List.replicate (g (i + l.length)) 32) ++ x.data.toList)
  | [], i => by simp [jrec]
  | y :: t, i => by
    simp only [List.cons_append, jrec, jrec_snoc g x t (i + 1), List.length_cons]
    rw [show i + 1 + t.length = i + (t.length + 1) from by omega]
    simp
def jB (g : Nat → Nat) (l : List ByteArray) : ByteArray := ⟨(jrec g 0 l).toArray⟩
theorem ba_append (a b : List UInt8) : (⟨a.toArray⟩ : ByteArray) ++ ⟨b.toArray⟩ = ⟨(a ++ b).toArray⟩ := by
  apply ByteArray.ext
  rw [ByteArray.data_append]
  simp
theorem ba_self (x : ByteArray) : (⟨x.data.toList.toArray⟩ : ByteArray) = x := by
  apply ByteArray.ext; simp
theorem jB_snoc (g : Nat → Nat) (l : List ByteArray) (x : ByteArray) : jB g (l ++ [x]) = (jB g l ++ (⟨(if l.length = 0 then [] else List.replicate (g l.length) 32).toArray⟩ : ByteArray)) ++ x := by
  unfold jB
  rw [ba_append]
  conv => rhs; rw [← ba_self x]
  rw [ba_append, jrec_snoc]
  simp
theorem jB_len_le (g : Nat → Nat) : ∀ (m l : List ByteArray), (jB g l).size ≤ (jB g (l ++ m)).size
  | [], l => by simp
  | x :: m, l => by
    have h := jB_len_le g m (l ++ [x])
    rw [List.append_assoc] at h
    refine Nat.le_trans ?_ h
    rw [jB_snoc]
    simp only [ByteArray.size_append]
    omega
theorem jrec_congr {g g' : Nat → Nat} : ∀ (l : List ByteArray) (i : Nat), (∀ j, i ≤ j → 0 < j → g j = g' j) → jrec g i l = jrec g' i l
  | [], _, _ => rfl
  | x :: t, i, h => by
    rw [jrec, jrec, jrec_congr t (i + 1) (fun j hj h0 => h j (by omega) h0)]
    by_cases hi : i = 0
    · rw [if_pos hi, if_pos hi]
    · rw [if_neg hi, if_neg hi, h i (Nat.le_refl _) (by omega)]
theorem jB_congr {g g' : Nat → Nat} (l : List ByteArray) (h : ∀ j, 0 < j → g j = g' j) : jB g l = jB g' l := by
  unfold jB; rw [jrec_congr l 0 (fun j _ h0 => h j h0)]
theorem tail_jrec : ∀ (l : List ByteArray) (i : Nat), 0 < i → Lib.joinTail [32] (l.map (·.data.toList)) = jrec (fun _ => 1) i l
  | [], _, _ => rfl
  | y :: t, i, h => by
    have ih := tail_jrec t (i + 1) (by omega)
    rw [jrec, if_neg (by omega), ← ih]
    simp [Lib.joinTail]
theorem join_jB (l : List ByteArray) : (⟨(Lib.join (l.map (·.data.toList)) [32]).toArray⟩ : ByteArray) = jB (fun _ => 1) l := by
  cases l with
  | nil => rfl
  | cons x t =>
    unfold jB
    rw [List.map_cons, Lib.join_cons, tail_jrec t 1 (by omega), jrec]
    simp
/-- The gaps of a line that is justified with k spaces more. -/
def gapJ (k n : Nat) (i : Nat) : Nat := if i ≤ k % n then 1 + k / n + 1 else 1 + k / n
theorem gapJ_zero (n i : Nat) (hi : 0 < i) : gapJ 0 n i = 1 := by
  unfold gapJ; rw [Nat.zero_mod, Nat.zero_div, if_neg (by omega)]
/-- How many spaces are added. -/
def addJ (wd : Int) (wide : Nat) : Nat := if (wide : Int) < wd then ((wd - wide) / 30).toNat else 0
def justS (s : ByteArray) (wd : Int) (wideOf : ByteArray → Nat) : ByteArray :=
  if (words38 s).length < 2 then jB (fun _ => 1) (words38 s) else jB (gapJ (addJ wd (wideOf (jB (fun _ => 1) (words38 s)))) ((words38 s).length - 1)) (words38 s)

theorem rw38_sizes (s : ByteArray) : ∀ (f i fr : Nat) (acc : List ByteArray), (∀ x ∈ acc, x.size ≤ s.size) → ∀ x ∈ (rw38 s f i fr acc).1, x.size ≤ s.size
  | 0, _, _, acc, h => by simpa [rw38] using h
  | f + 1, i, fr, acc, h => by
    have hx : ∀ x ∈ (if fr < i then acc ++ [s.extract fr i] else acc), x.size ≤ s.size := by
      intro x hx
      split at hx
      · rcases List.mem_append.1 hx with hx | hx
        · exact h x hx
        · simp at hx; subst hx; simp [ByteArray.size_extract]; omega
      · exact h x hx
    rw [rw38]
    split
    · split
      · exact rw38_sizes s f _ _ _ hx
      · exact rw38_sizes s f _ _ _ h
    · exact h
theorem words_size (s : ByteArray) : ∀ x ∈ words38 s, x.size ≤ s.size := by
  intro x hx
  unfold words38 wEnd at hx
  split at hx
  · rcases List.mem_append.1 hx with hx | hx
    · exact rw38_sizes s _ _ _ _ (by simp) x hx
    · simp at hx; subst hx; simp [ByteArray.size_extract]
  · exact rw38_sizes s _ _ _ _ (by simp) x hx
theorem words_len (s : ByteArray) : (words38 s).length ≤ s.size + 1 := by
  have := rw38_len s s.size 0 0 []
  unfold words38 wEnd
  split
  · simp at this ⊢; omega
  · simp at this ⊢; omega
theorem jB_size (g : Nat → Nat) (M S : Nat) (hg : ∀ i, g i ≤ M) : ∀ (l : List ByteArray) (i : Nat), (∀ x ∈ l, x.size ≤ S) → (jrec g i l).length ≤ l.length * (M + S)
  | [], _, _ => by simp [jrec]
  | x :: t, i, h => by
    have ih := jB_size g M S hg t (i + 1) (fun y hy => h y (List.mem_cons_of_mem _ hy))
    have hx := h x List.mem_cons_self
    have hx2 : x.data.toList.length = x.size := Array.length_toList
    have hgi := hg i
    have : (if i = 0 then ([] : List UInt8) else List.replicate (g i) 32).length ≤ M := by split <;> simp; omega
    rw [jrec]
    simp only [List.length_append, List.length_cons, hx2, Nat.succ_mul]
    omega
end Go.Proofs.YtgjhfjplalcnbaaDoor
