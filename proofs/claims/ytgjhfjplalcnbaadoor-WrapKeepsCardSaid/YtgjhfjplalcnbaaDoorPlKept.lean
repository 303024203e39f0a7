/- What WrapKeeps needs of each line, gathered. -/
import Derived.Test.YtgjhfjplalcnbaaDoorPlKeep4
import Derived.Test.YtgjhfjplalcnbaaDoorJustify
import Derived.Test.YtgjhfjplalcnbaaDoorCenter
namespace Go.Proofs.YtgjhfjplalcnbaaDoor

/-- What the walk of WrapKeeps asks of a line. -/
structure Kept (wd : Int) (x : ByteArray) : Prop where
  size : x.size ≤ 400
  pos : 0 < (words38 x).length
  fits : 1 < (words38 x).length → (wideS x : Int) ≤ wd
  jw : words38 (justS x wd wideS) = words38 x
  jf : (wideS x : Int) ≤ wd → (wideS (justS x wd wideS) : Int) ≤ wd
  js : (justS x wd wideS).size ≤ 1048576
  cw : words38 (centerS x wd) = words38 x
  cs : (centerS x wd).size ≤ 1048576

theorem center_words (x : ByteArray) (wd : Int) : words38 (centerS x wd) = words38 x := by
  unfold centerS
  split
  · rfl
  · exact words_pre _ x

theorem kept_line (wd : Int) (hd : wd ≤ 40000) (sub : List ByteArray) (h : LineOk wd sub) : Kept wd (jB (fun _ => 1) sub) where
  size := h.size
  pos := by rw [h.words]; exact h.pos
  fits := by rw [h.words]; exact h.fits
  jw := by rw [h.words]; exact h.just.1
  jf := h.just.2
  js := by
    have h1 := h.size
    have hw := h.words
    generalize hx : jB (fun _ => 1) sub = x at *
    unfold justS
    split
    · have := jB_size_le (fun _ => 1) 1 (fun _ => Nat.le_refl _) x h1
      show (jB _ _).size ≤ _
      omega
    · have := jB_size_le (gapJ (addJ wd (wideS (jB (fun _ => 1) (words38 x)))) ((words38 x).length - 1)) 1402 (gapJ_le _ _ 1400 (addJ_le wd _ hd)) x h1
      show (jB _ _).size ≤ _
      omega
  cw := center_words _ _
  cs := by
    unfold centerS
    have h1 := h.size
    split
    · omega
    · rw [ByteArray.size_append, spacesB_size]
      omega

theorem kept_all (s : ByteArray) (wd : Int) (hs : s.size ≤ 400) (hd : wd ≤ 40000) : ∀ x ∈ cutL (words38 s) (brFirst (wsOf (words38 s)) 30 wd), Kept wd x := by
  intro x hx
  obtain ⟨i, hi, rfl⟩ := List.mem_iff_getElem.1 hx
  rw [cutL_len] at hi
  have h := cutL_get (words38 s) (brFirst (wsOf (words38 s)) 30 wd) i hi
  have h2 := (List.getElem?_eq_some_iff.1 h).2
  rw [h2]
  exact kept_line wd hd _ (line_ok s wd hs (by omega) i hi)

theorem kept_len (s : ByteArray) (wd : Int) (hs : s.size ≤ 400) (hd : wd ≤ 40000) : (cutL (words38 s) (brFirst (wsOf (words38 s)) 30 wd)).flatMap words38 = words38 s := by
  have hF := fok_br (words38 s) 30 wd (by omega) (by omega : wd ≤ 1048576)
  have e : (cutL (words38 s) (brFirst (wsOf (words38 s)) 30 wd)).flatMap words38 = (List.range (brFirst (wsOf (words38 s)) 30 wd).length).flatMap (subAt (words38 s) (brFirst (wsOf (words38 s)) 30 wd)) := by
    have e1 : cutL (words38 s) (brFirst (wsOf (words38 s)) 30 wd) = (List.range (brFirst (wsOf (words38 s)) 30 wd).length).map (fun i => jB (fun _ => 1) (subAt (words38 s) (brFirst (wsOf (words38 s)) 30 wd) i)) := by
      apply List.ext_getElem?
      intro i
      by_cases hi : i < (brFirst (wsOf (words38 s)) 30 wd).length
      · rw [cutL_get _ _ i hi]; simp [hi]
      · rw [List.getElem?_eq_none (by rw [cutL_len]; omega), List.getElem?_eq_none (by simp; omega)]
    rw [e1, List.flatMap_map]
    have aux : ∀ (L : List Nat) (f g : Nat → List ByteArray), (∀ i ∈ L, f i = g i) → L.flatMap f = L.flatMap g := by
      intro L f g h
      induction L with
      | nil => rfl
      | cons a t ih => rw [List.flatMap_cons, List.flatMap_cons, h a (by simp), ih (fun i hi => h i (by simp [hi]))]
    apply aux
    intro i hi
    exact (line_ok s wd hs (by omega) i (by simpa using hi)).words
  rw [e]
  by_cases hl : 0 < (words38 s).length
  · exact subs_all _ _ hF hl
  · have h0 : words38 s = [] := List.length_eq_zero_iff.1 (by omega)
    have hz : (brFirst (wsOf (words38 s)) 30 wd).length = 0 := by
      by_cases hz : 0 < (brFirst (wsOf (words38 s)) 30 wd).length
      · have := hF.lt 0 hz; omega
      · omega
    rw [hz, h0]; rfl
end Go.Proofs.YtgjhfjplalcnbaaDoor
