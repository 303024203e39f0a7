/- The words and the width of words that were joined, plainly. -/
import Derived.Test.YtgjhfjplalcnbaaDoorPlKeep
namespace Go.Proofs.YtgjhfjplalcnbaaDoor
open Go.Lib

theorem words_split (s : ByteArray) : (words38 s).map (·.data.toList) = splitW s.data.toList [] := by
  have h := rw_split s s.size 0 0 [] (Nat.le_refl _) (Nat.zero_le _) (by omega)
  simpa [words38] using h
/-- A word: not empty, without white space. -/
def Good (x : List UInt8) : Prop := x ≠ [] ∧ ∀ c ∈ x, spB c = false
theorem splitW_good : ∀ (l cur : List UInt8), (∀ c ∈ cur, spB c = false) → ∀ x ∈ splitW l cur, Good x
  | [], cur, h => by
    intro x hx
    rw [splitW] at hx
    split at hx
    · simp at hx
    · rename_i hc
      simp at hx; subst hx; exact ⟨hc, h⟩
  | c :: t, cur, h => by
    intro x hx
    rw [splitW] at hx
    split at hx
    · split at hx
      · exact splitW_good t [] (by simp) x hx
      · rename_i hc
        rcases List.mem_cons.1 hx with rfl | hx
        · exact ⟨hc, h⟩
        · exact splitW_good t [] (by simp) x hx
    · rename_i hc
      refine splitW_good t (cur ++ [c]) (fun d hd => ?_) x hx
      rcases List.mem_append.1 hd with hd | hd
      · exact h d hd
      · simp at hd; subst hd; simpa using hc
theorem words_good (s : ByteArray) : ∀ x ∈ words38 s, Good x.data.toList := by
  intro x hx
  refine splitW_good s.data.toList [] (by simp) _ ?_
  rw [← words_split]
  exact List.mem_map_of_mem hx
theorem spB_32 : spB 32 = true := by decide
theorem splitW_sp : ∀ (n : Nat) (rest : List UInt8), splitW (List.replicate n 32 ++ rest) [] = splitW rest []
  | 0, rest => by simp
  | n + 1, rest => by
    rw [List.replicate_succ, List.cons_append, splitW, if_pos spB_32, if_pos rfl]
    exact splitW_sp n rest
theorem splitW_gap (n : Nat) (rest cur : List UInt8) (h : cur ≠ []) : splitW (List.replicate (n + 1) 32 ++ rest) cur = cur :: splitW rest [] := by
  rw [List.replicate_succ, List.cons_append, splitW, if_pos spB_32, if_neg h, splitW_sp]
theorem splitW_jrec (g : Nat → Nat) (hg : ∀ i, 0 < i → 1 ≤ g i) : ∀ (l : List ByteArray) (i : Nat) (cur : List UInt8), 0 < i → (∀ x ∈ l, Good x.data.toList) → Good cur → splitW (jrec g i l) cur = cur :: l.map (·.data.toList)
  | [], i, cur, _, _, hc => by rw [jrec, splitW, if_neg hc.1]; rfl
  | x :: t, i, cur, hi, hl, hc => by
    obtain ⟨m, hm⟩ : ∃ m, g i = m + 1 := ⟨g i - 1, by have := hg i hi; omega⟩
    have hx := hl x List.mem_cons_self
    rw [jrec, if_neg (by omega), hm, List.append_assoc, splitW_gap _ _ _ hc.1, splitW_word _ _ _ hx.2, List.nil_append,
      splitW_jrec g hg t (i + 1) _ (by omega) (fun y hy => hl y (List.mem_cons_of_mem _ hy)) hx]
    rfl
theorem splitW_jB (g : Nat → Nat) (hg : ∀ i, 0 < i → 1 ≤ g i) (l : List ByteArray) (h : ∀ x ∈ l, Good x.data.toList) : splitW (jrec g 0 l) [] = l.map (·.data.toList) := by
  cases l with
  | nil => rfl
  | cons x t =>
    have hx := h x List.mem_cons_self
    rw [jrec, if_pos rfl, List.nil_append, splitW_word _ _ _ hx.2, List.nil_append, splitW_jrec g hg t 1 _ (by omega) (fun y hy => h y (List.mem_cons_of_mem _ hy)) hx]
    rfl
theorem bytes_inj : ∀ (l m : List ByteArray), l.map (·.data.toList) = m.map (·.data.toList) → l = m
  | [], [], _ => rfl
  | [], _ :: _, h => by simp at h
  | _ :: _, [], h => by simp at h
  | x :: l, y :: m, h => by
    simp only [List.map_cons, List.cons.injEq] at h
    have e : x = y := ByteArray.ext (Array.toList_inj.1 h.1)
    rw [e, bytes_inj l m h.2]
theorem words_jB (g : Nat → Nat) (hg : ∀ i, 0 < i → 1 ≤ g i) (l : List ByteArray) (h : ∀ x ∈ l, Good x.data.toList) : words38 (jB g l) = l := by
  apply bytes_inj
  rw [words_split]
  show splitW ((jrec g 0 l).toArray.toList) [] = _
  rw [List.toList_toArray]
  exact splitW_jB g hg l h
theorem words_pre (n : Nat) (x : ByteArray) : words38 ((⟨(List.replicate n 32).toArray⟩ : ByteArray) ++ x) = words38 x := by
  apply bytes_inj
  rw [words_split, words_split, ByteArray.data_append, Array.toList_append]
  show splitW ((List.replicate n 32).toArray.toList ++ _) [] = _
  rw [List.toList_toArray]
  exact splitW_sp n _

/-! Widths. -/
/-- The width of a list of bytes. -/
def wl : Nat → List UInt8 → Nat
  | 0, _ => 0
  | f + 1, l => if l = [] then 0 else widthC (decodeL l).1 + wl f (l.drop (decodeL l).2)
theorem decL_N (l : List UInt8) : decodeL l = decodeN l.length (l.getD 0 0).toNat (l.getD 1 0).toNat (l.getD 2 0).toNat (l.getD 3 0).toNat := by
  unfold decodeL
  rw [decode_N]
  simp
theorem dec_L (s : ByteArray) (i : Nat) : Utf8.decode s i = decodeL (s.data.toList.drop i) := by
  rw [decL_N, decode_N]
  simp only [List.length_drop, List.getD_eq_getElem?_getD, List.getElem?_drop, Nat.add_zero]
theorem decL_pos (l : List UInt8) : 1 ≤ (decodeL l).2 := width_pos _ 0
theorem decL_le (l : List UInt8) (h : l ≠ []) : (decodeL l).2 ≤ l.length := by
  have h0 : 0 < l.length := List.length_pos_iff.2 h
  have := dec_le ⟨l.toArray⟩ 0 (by simpa [ByteArray.size] using h0)
  simpa [decodeL, ByteArray.size] using this
theorem wl_nil (f : Nat) : wl f [] = 0 := by cases f <;> simp [wl]
theorem wl_fuel : ∀ (f f' : Nat) (l : List UInt8), l.length ≤ f → l.length ≤ f' → wl f l = wl f' l
  | 0, f', l, h, _ => by
    have : l = [] := List.length_eq_zero_iff.1 (by omega)
    subst this; rw [wl_nil, wl_nil]
  | f + 1, f', l, h, h' => by
    by_cases hl : l = []
    · subst hl; rw [wl_nil, wl_nil]
    · have h0 : 0 < l.length := List.length_pos_iff.2 hl
      obtain ⟨f'', rfl⟩ : ∃ f'', f' = f'' + 1 := ⟨f' - 1, by omega⟩
      have hp := decL_pos l
      rw [wl, wl, if_neg hl, if_neg hl, wl_fuel f f'' _ (by simp; omega) (by simp; omega)]
theorem wideFrom_wl (s : ByteArray) : ∀ (f i : Nat), wideFrom s f i = wl f (s.data.toList.drop i)
  | 0, _ => rfl
  | f + 1, i => by
    have hsz : s.data.toList.length = s.size := Array.length_toList
    rw [wideFrom, wl]
    by_cases h : i < s.size
    · rw [if_pos h, if_neg (by rw [List.drop_eq_nil_iff]; omega), dec_L, wideFrom_wl s f, List.drop_drop]
    · rw [if_neg h, if_pos (by rw [List.drop_eq_nil_iff]; omega)]
theorem wideS_wl (s : ByteArray) : wideS s = wl s.data.toList.length s.data.toList := by
  unfold wideS
  rw [wideFrom_wl, List.drop_zero]
  rw [show s.data.toList.length = s.size from Array.length_toList]

/-- A code point is read in front of an ASCII byte as at the end. -/
theorem decL_ascii (a b : List UInt8) (c : UInt8) (ha : a ≠ []) (hc : c.toNat < 128) : decodeL (a ++ c :: b) = decodeL a := by
  rw [decL_N, decL_N]
  have h0 : 0 < a.length := List.length_pos_iff.2 ha
  have hk : ∀ k, (k < a.length → (a ++ c :: b).getD k 0 = a.getD k 0) ∧ (k = a.length → (a ++ c :: b).getD k 0 = c) := by
    intro k
    refine ⟨fun hk => ?_, fun hk => ?_⟩
    · rw [List.getD_eq_getElem?_getD, List.getD_eq_getElem?_getD, List.getElem?_append_left hk]
    · rw [List.getD_eq_getElem?_getD, hk, List.getElem?_append_right (Nat.le_refl _)]; simp
  have e0 := (hk 0).1 h0
  rw [e0]
  rw [List.length_append, List.length_cons]
  have k1 := hk 1
  have k2 := hk 2
  have k3 := hk 3
  generalize (a ++ c :: b).getD 1 0 = x1 at *
  generalize (a ++ c :: b).getD 2 0 = x2 at *
  generalize (a ++ c :: b).getD 3 0 = x3 at *
  generalize a.getD 0 0 = a0 at *
  generalize a.getD 1 0 = a1 at *
  generalize a.getD 2 0 = a2 at *
  generalize a.getD 3 0 = a3 at *
  generalize a.length = n at *
  generalize b.length = m at *
  clear hk e0 ha
  have : n = 1 ∨ n = 2 ∨ n = 3 ∨ 4 ≤ n := by omega
  rcases this with rfl | rfl | rfl | hn
  · rw [k1.2 rfl]
    unfold decodeN
    have n1 : ¬ (c.toNat / 64 = 2) := by omega
    simp [n1]
  · rw [k1.1 (by omega), k2.2 rfl]
    unfold decodeN
    have n1 : ¬ (c.toNat / 64 = 2) := by omega
    have r1 : 1 < 2 + (m + 1) := by omega
    simp [n1, r1]
  · rw [k1.1 (by omega), k2.1 (by omega), k3.2 rfl]
    unfold decodeN
    have n1 : ¬ (c.toNat / 64 = 2) := by omega
    have r1 : 1 < 3 + (m + 1) := by omega
    have r2 : 2 < 3 + (m + 1) := by omega
    simp [n1, r1, r2]
  · rw [k1.1 (by omega), k2.1 (by omega), k3.1 (by omega)]
    unfold decodeN
    have q1 : 1 < n := by omega
    have q2 : 2 < n := by omega
    have q3 : 3 < n := by omega
    have r1 : 1 < n + (m + 1) := by omega
    have r2 : 2 < n + (m + 1) := by omega
    have r3 : 3 < n + (m + 1) := by omega
    simp only [q1, q2, q3, r1, r2, r3]
theorem decL_one (c : UInt8) (b : List UInt8) (hc : c.toNat < 128) : decodeL (c :: b) = (c.toNat, 1) := by
  rw [decL_N]
  unfold decodeN
  simp [hc]
theorem wl_ascii (c : UInt8) (hc : c.toNat < 128) (b : List UInt8) : ∀ (f : Nat) (a : List UInt8) (F : Nat), a.length ≤ f → a.length + 1 + b.length ≤ F → wl F (a ++ c :: b) = wl a.length a + widthC c.toNat + wl b.length b
  | f, [], F, _, hF => by
    obtain ⟨F', rfl⟩ : ∃ F', F = F' + 1 := ⟨F - 1, by omega⟩
    rw [List.nil_append, wl, if_neg (by simp), decL_one c b hc, wl_nil]
    simp only [List.drop_succ_cons, List.drop_zero, Nat.zero_add]
    rw [wl_fuel F' b.length b (by simp at hF; omega) (Nat.le_refl _)]
  | f, x :: a, F, hf, hF => by
    obtain ⟨F', rfl⟩ : ∃ F', F = F' + 1 := ⟨F - 1, by omega⟩
    obtain ⟨f', rfl⟩ : ∃ f', f = f' + 1 := ⟨f - 1, by simp at hf; omega⟩
    have hd := decL_ascii (x :: a) b c (by simp) hc
    have hp := decL_pos (x :: a)
    have hle := decL_le (x :: a) (by simp)
    rw [wl, if_neg (by simp), hd, List.drop_append_of_le_length hle]
    have hl : ((x :: a).drop (decodeL (x :: a)).2).length = (x :: a).length - (decodeL (x :: a)).2 := List.length_drop
    rw [wl_ascii c hc b f' _ F' (by rw [hl]; simp at hf ⊢; omega) (by rw [hl]; simp at hF ⊢; omega)]
    have hw : wl (x :: a).length (x :: a) = widthC (decodeL (x :: a)).1 + wl ((x :: a).drop (decodeL (x :: a)).2).length ((x :: a).drop (decodeL (x :: a)).2) := by
      rw [List.length_cons, wl, if_neg (by simp)]
      rw [wl_fuel a.length _ _ (by rw [hl]; simp; omega) (Nat.le_refl _)]
    rw [hw]
    omega

/-- The width of n spaces in front of bytes. -/
theorem wl_sp : ∀ (n : Nat) (b : List UInt8) (F : Nat), n + b.length ≤ F → wl F (List.replicate n 32 ++ b) = n * 30 + wl b.length b
  | 0, b, F, h => by rw [List.replicate_zero, List.nil_append, wl_fuel F b.length b (by omega) (Nat.le_refl _)]; omega
  | n + 1, b, F, h => by
    have h1 := wl_ascii 32 (by decide) (List.replicate n 32 ++ b) 0 [] F (by simp) (by simp; omega)
    rw [List.nil_append] at h1
    rw [List.replicate_succ, List.cons_append, h1, wl_nil, wl_sp n b _ (by simp)]
    have : widthC (32 : UInt8).toNat = 30 := by decide
    rw [this, Nat.succ_mul]
    omega
/-- The width of a word, a gap of at least one space, and what follows. -/
theorem wl_gap (a b : List UInt8) (n F : Nat) (h : a.length + (n + 1) + b.length ≤ F) : wl F (a ++ (List.replicate (n + 1) 32 ++ b)) = wl a.length a + (n + 1) * 30 + wl b.length b := by
  rw [List.replicate_succ, List.cons_append]
  rw [wl_ascii 32 (by decide) (List.replicate n 32 ++ b) a.length a F (Nat.le_refl _) (by simp; omega), wl_sp n b _ (by simp)]
  have : widthC (32 : UInt8).toNat = 30 := by decide
  rw [this, Nat.succ_mul]
  omega
/-- The widths of words with gaps. -/
def sumW (g : Nat → Nat) : Nat → List ByteArray → Nat
  | _, [] => 0
  | i, x :: t => (if i = 0 then 0 else g i * 30) + wideS x + sumW g (i + 1) t
theorem wl_jrec (g : Nat → Nat) (hg : ∀ i, 0 < i → 1 ≤ g i) : ∀ (l : List ByteArray) (x : ByteArray) (i : Nat) (F : Nat), (x.data.toList ++ jrec g (i + 1) l).length ≤ F → wl F (x.data.toList ++ jrec g (i + 1) l) = wideS x + sumW g (i + 1) l
  | [], x, i, F, h => by
    rw [jrec, List.append_nil] at *
    rw [wideS_wl, sumW, wl_fuel F _ _ h (Nat.le_refl _)]; omega
  | y :: t, x, i, F, h => by
    obtain ⟨m, hm⟩ : ∃ m, g (i + 1) = m + 1 := ⟨g (i + 1) - 1, by have := hg (i + 1) (by omega); omega⟩
    rw [jrec, if_neg (by omega), hm, List.append_assoc] at h ⊢
    rw [wl_gap _ _ m F (by simp at h ⊢; omega), wl_jrec g hg t y (i + 1) _ (Nat.le_refl _), ← wideS_wl, sumW, if_neg (by omega), hm]
    omega
theorem wide_jB (g : Nat → Nat) (hg : ∀ i, 0 < i → 1 ≤ g i) (l : List ByteArray) : wideS (jB g l) = sumW g 0 l := by
  cases l with
  | nil => rfl
  | cons x t =>
    rw [wideS_wl]
    show wl ((jrec g 0 (x :: t)).toArray.toList).length ((jrec g 0 (x :: t)).toArray.toList) = _
    rw [List.toList_toArray, jrec, if_pos rfl, List.nil_append, wl_jrec g hg t x 0 _ (Nat.le_refl _), sumW, if_pos rfl]
    omega
end Go.Proofs.YtgjhfjplalcnbaaDoor
