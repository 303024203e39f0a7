/- Every line of the best division is in order, and the lines have all words, plainly. -/
import Derived.Test.YtgjhfjplalcnbaaDoorPlKeep3
namespace Go.Proofs.YtgjhfjplalcnbaaDoor
open Go.Lib

def subAt (l : List ByteArray) (F : List Int) (i : Nat) : List ByteArray := (l.take (endOf l F i)).drop (begOf F i)

theorem line_ok (s : ByteArray) (wd : Int) (hs : s.size ≤ 400) (hd1 : wd ≤ 1048576) (i : Nat) (hi : i < (brFirst (wsOf (words38 s)) 30 wd).length) :
    LineOk wd (subAt (words38 s) (brFirst (wsOf (words38 s)) 30 wd) i) := by
  have hgood := words_good s
  have hsize := fun a b => Nat.le_trans (line_size s a b) hs
  generalize words38 s = l at *
  have hok := fok_br l 30 wd (by omega) hd1
  have hlt := hok.lt i hi
  have hws : ∀ x ∈ wsOf l, (0 : Int) ≤ x := by
    intro x hx
    simp [wsOf] at hx
    obtain ⟨a, _, rfl⟩ := hx
    omega
  have hT := tab_ok (wsOf l) 30 wd (wsOf l).length hd1 (by omega) hws (wsOf l).length (Nat.le_refl _)
  have hnx : ∀ j, j < (wsOf l).length → (j : Int) < (brT (wsOf l) 30 wd j).nx := fun j hj => (hT.nx j (by omega) hj).1
  have hll := wsOf_len l
  have hsl : (subAt l (brFirst (wsOf l) 30 wd) i).length = endOf l (brFirst (wsOf l) 30 wd) i - begOf (brFirst (wsOf l) 30 wd) i := by
    unfold subAt; simp; omega
  refine ⟨by omega, fun x hx => hgood x (List.mem_of_mem_take (List.mem_of_mem_drop hx)), hsize _ _, fun h1 => ?_⟩
  obtain ⟨x, hx⟩ : ∃ x, (brFirst (wsOf l) 30 wd)[i]? = some x := ⟨_, List.getElem?_eq_getElem hi⟩
  have hge := hok.ge i hi
  have hxd : (brFirst (wsOf l) 30 wd).getD i 0 = x := by rw [List.getD_eq_getElem?_getD, hx]; rfl
  rw [hxd] at hge
  have hbeg : begOf (brFirst (wsOf l) 30 wd) i = x.toNat := by unfold begOf; rw [hxd]
  have hnext := firsts_next (wsOf l).length (brT (wsOf l) 30 wd) hnx (wsOf l).length 0 i x (by omega) hx
  obtain ⟨u, u1, u2, u3, u4⟩ := br_is (wsOf l) 30 wd x.toNat (by omega)
  have hun : (brT (wsOf l) 30 wd x.toNat).nx = (u : Int) := by rw [u4]; rfl
  have hend : endOf l (brFirst (wsOf l) 30 wd) i = u := by
    rw [hun] at hnext
    rcases hnext with h | ⟨h, h'⟩
    · have hi1 : i + 1 < (brFirst (wsOf l) 30 wd).length := (List.getElem?_eq_some_iff.1 h).1
      unfold endOf
      rw [if_pos hi1, List.getD_eq_getElem?_getD]
      show (((brFirst (wsOf l) 30 wd)[i + 1]?).getD 0).toNat = u
      have h2 : (brFirst (wsOf l) 30 wd)[i + 1]? = some (u : Int) := h
      rw [h2]; simp
    · have h2 : (brFirst (wsOf l) 30 wd).length = i + 1 := h
      unfold endOf
      rw [if_neg (by omega)]
      omega
  rw [hbeg, hend] at hsl
  rw [wide_jB _ one1_ge]
  unfold subAt
  rw [hbeg, hend]
  obtain ⟨m, hm⟩ : ∃ m, u = x.toNat + (m + 1) := ⟨u - x.toNat - 1, by omega⟩
  have := sumW_line l x.toNat m (by omega)
  rw [← hm] at this
  rw [this]
  omega

/-- The lines, one after the other, have all words. -/
theorem subs_to (l : List ByteArray) (F : List Int) (h : FOk l F) : ∀ k, k ≤ F.length → 0 < k → ((List.range k).flatMap (subAt l F)) = l.take (endOf l F (k - 1))
  | 0, _, h0 => absurd h0 (by omega)
  | 1, hk, _ => by
    have hb : begOf F 0 = 0 := by
      have h1 := h.len
      have hz := h.z (by omega)
      have : F.getD 0 0 = F.getD 0 1 := by
        rw [List.getD_eq_getElem?_getD, List.getD_eq_getElem?_getD, List.getElem?_eq_getElem (by omega)]; rfl
      unfold begOf
      rw [this, hz]; rfl
    simp [subAt, hb]
  | k + 2, hk, _ => by
    have ih := subs_to l F h (k + 1) (by omega) (by omega)
    have hlt := h.lt (k + 1) (by omega)
    have hbe : begOf F (k + 1) = endOf l F k := by
      unfold begOf endOf; rw [if_pos (by omega)]
    rw [List.range_succ, List.flatMap_append, ih]
    simp only [Nat.add_one_sub_one, List.flatMap_cons, List.flatMap_nil, List.append_nil]
    show l.take (endOf l F k) ++ subAt l F (k + 1) = l.take (endOf l F (k + 1))
    unfold subAt
    rw [hbe] at hlt ⊢
    have : l.take (endOf l F k) = (l.take (endOf l F (k + 1))).take (endOf l F k) := by
      rw [List.take_take, Nat.min_eq_left (by omega)]
    rw [this, List.take_append_drop]
theorem subs_all (l : List ByteArray) (F : List Int) (h : FOk l F) (hl : 0 < l.length) : ((List.range F.length).flatMap (subAt l F)) = l := by
  have hFp : 0 < F.length := by
    have hz := h.z hl
    cases F with
    | nil => simp at hz
    | cons _ _ => simp
  rw [subs_to l F h F.length (Nat.le_refl _) hFp]
  unfold endOf
  rw [if_neg (by omega), List.take_length]
theorem cutL_get (l : List ByteArray) (F : List Int) (i : Nat) (h : i < F.length) : (cutL l F)[i]? = some (jB (fun _ => 1) (subAt l F i)) := by
  unfold cutL
  rw [List.getElem?_map, List.getElem?_range h]; rfl
theorem cutL_len (l : List ByteArray) (F : List Int) : (cutL l F).length = F.length := by simp [cutL]
end Go.Proofs.YtgjhfjplalcnbaaDoor
