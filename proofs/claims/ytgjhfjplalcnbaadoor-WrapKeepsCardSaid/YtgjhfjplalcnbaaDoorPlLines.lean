/- The lines of a string, plainly: what is cut at the first words of the best division. -/
import Derived.Test.YtgjhfjplalcnbaaDoorPlJoin
import Derived.Test.YtgjhfjplalcnbaaDoorPlFont
import Derived.Test.YtgjhfjplalcnbaaDoorPlBest
namespace Go.Proofs.YtgjhfjplalcnbaaDoor

/-- The widths of words. -/
def wsOf (l : List ByteArray) : List Int := l.map fun x => (wideS x : Int)
theorem wsOf_len (l : List ByteArray) : (wsOf l).length = l.length := by simp [wsOf]
/-- Where the line that begins at the i-th first word ends. -/
def endOf (l : List ByteArray) (F : List Int) (i : Nat) : Nat := if i + 1 < F.length then (F.getD (i + 1) 0).toNat else l.length
def begOf (F : List Int) (i : Nat) : Nat := (F.getD i 0).toNat
def lineAt (l : List ByteArray) (F : List Int) (i : Nat) : ByteArray := jB (fun _ => 1) ((l.take (endOf l F i)).drop (begOf F i))
def cutL (l : List ByteArray) (F : List Int) : List ByteArray := (List.range F.length).map (lineAt l F)
def cutTo (l : List ByteArray) (F : List Int) (k : Nat) : List ByteArray := (List.range k).map (lineAt l F)
theorem cutTo_succ (l : List ByteArray) (F : List Int) (k : Nat) : cutTo l F (k + 1) = cutTo l F k ++ [lineAt l F k] := by
  unfold cutTo; rw [List.range_succ, List.map_append]; rfl
theorem cutTo_len (l : List ByteArray) (F : List Int) (k : Nat) : (cutTo l F k).length = k := by simp [cutTo]

/-- What is needed of the first words. -/
structure FOk (l : List ByteArray) (F : List Int) : Prop where
  len : F.length ≤ l.length
  ge : ∀ i, i < F.length → 0 ≤ F.getD i 0 ∧ F.getD i 0 < l.length
  inc : ∀ i, i + 1 < F.length → F.getD i 0 < F.getD (i + 1) 0
  z : 0 < l.length → F.getD 0 1 = 0
theorem FOk.lt {l : List ByteArray} {F : List Int} (h : FOk l F) (i : Nat) (hi : i < F.length) : begOf F i < endOf l F i ∧ endOf l F i ≤ l.length := by
  have h1 := h.ge i hi
  unfold begOf endOf
  split
  · rename_i h2
    have h3 := h.ge (i + 1) h2
    have h4 := h.inc i h2
    omega
  · omega

theorem fok_br (l : List ByteArray) (sp wd : Int) (hs : 0 ≤ sp) (hd : wd ≤ 1048576) : FOk l (brFirst (wsOf l) sp wd) := by
  have hws : ∀ x ∈ wsOf l, (0 : Int) ≤ x := by
    intro x hx
    simp [wsOf] at hx
    obtain ⟨a, _, rfl⟩ := hx
    omega
  have hT := tab_ok (wsOf l) sp wd (wsOf l).length hd hs hws (wsOf l).length (Nat.le_refl _)
  have hnx : ∀ j, j < (wsOf l).length → (j : Int) < (brT (wsOf l) sp wd j).nx := fun j hj => (hT.nx j (by omega) hj).1
  have hl := wsOf_len l
  have hget : ∀ i, i < (brFirst (wsOf l) sp wd).length → ∃ x, (brFirst (wsOf l) sp wd)[i]? = some x ∧ (brFirst (wsOf l) sp wd).getD i 0 = x := fun i hi => by
    refine ⟨_, List.getElem?_eq_getElem hi, ?_⟩
    rw [List.getD_eq_getElem?_getD, List.getElem?_eq_getElem hi]; rfl
  refine ⟨?_, ?_, ?_, ?_⟩
  · rw [← hl]; exact firsts_len _ _ _ _
  · intro i hi
    obtain ⟨x, hx, e⟩ := hget i hi
    rw [e]
    have := firsts_ge _ _ hnx _ _ x (List.mem_of_getElem? hx)
    omega
  · intro i hi
    obtain ⟨x, hx, e⟩ := hget i (by omega)
    obtain ⟨y, hy, e'⟩ := hget (i + 1) hi
    rw [e, e']
    exact firsts_sorted _ _ hnx _ _ i x y hx hy
  · intro h0
    unfold brFirst
    obtain ⟨m, hm⟩ : ∃ m, (wsOf l).length = m + 1 := ⟨(wsOf l).length - 1, by omega⟩
    have := firsts_on (wsOf l).length (brT (wsOf l) sp wd) m 0 (by omega)
    rw [← hm] at this
    rw [this]; rfl
theorem wsOf_ok (l : List ByteArray) (S : Nat) (hS : S ≤ 10000) (h : ∀ x ∈ l, x.size ≤ S) : ∀ x ∈ wsOf l, (0 : Int) ≤ x ∧ x ≤ 1048576 := by
  intro x hx
  simp [wsOf] at hx
  obtain ⟨a, ha, rfl⟩ := hx
  have := wideS_le a
  have := h a ha
  omega
theorem sub_sizes (l : List ByteArray) (S : Nat) (h : ∀ x ∈ l, x.size ≤ S) (a b : Nat) : (jB (fun _ => 1) ((l.take a).drop b)).size ≤ l.length * (1 + S) := by
  have h1 := jB_size (fun _ => 1) 1 S (fun _ => Nat.le_refl _) ((l.take a).drop b) 0 (fun x hx => h x (List.mem_of_mem_take (List.mem_of_mem_drop hx)))
  have h2 : (jB (fun _ => 1) ((l.take a).drop b)).size = (jrec (fun _ => 1) 0 ((l.take a).drop b)).length := by simp [jB, ByteArray.size]
  rw [h2]
  exact Nat.le_trans h1 (Nat.mul_le_mul_right _ (by simp; omega))
end Go.Proofs.YtgjhfjplalcnbaaDoor
