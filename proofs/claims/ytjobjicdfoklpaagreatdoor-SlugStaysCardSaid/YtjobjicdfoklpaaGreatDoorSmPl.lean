/- Plain part: the identifiers of a document, in the reference's order and in the program's. Plain part: what a small document's parts are bounded by, for layer 21. -/
import Derived.Test.YtjobjicdfoklpaaGreatDoorAnchW
import Derived.Test.YtjobjicdfoklpaaGreatDoorBd
import Derived.Test.YtjobjicdfoklpaaGreatDoorInlines
import Derived.Test.YtjobjicdfoklpaaGreatDoorSmPlA
import Derived.Test.YtjobjicdfoklpaaGreatDoorAnch
namespace Go.Proofs.YtjobjicdfoklpaaGreatDoor
set_option linter.unusedVariables false
set_option linter.unusedSimpArgs false

def idL (a : At) : List ByteArray := if a.id.data.toList = [] then [] else [a.id]
mutual
def Blk.ids : Blk → List ByteArray
  | .mk _ _ _ _ _ _ a li ks => idL a ++ usedI (Inl.deepL li) ++ Blk.idsL ks
def Blk.idsL : List Blk → List ByteArray
  | [] => []
  | x :: l => x.ids ++ Blk.idsL l
end
theorem Blk.idsL_app (l m : List Blk) : Blk.idsL (l ++ m) = Blk.idsL l ++ Blk.idsL m := by
  induction l with
  | nil => rw [Blk.idsL]; rfl
  | cons x l ih => rw [List.cons_append, Blk.idsL, Blk.idsL, ih, List.append_assoc]
theorem Blk.idsL_snoc (l : List Blk) (k : Nat) (x : Blk) (h : l[k]? = some x) : Blk.idsL (l.take (k + 1)) = Blk.idsL (l.take k) ++ x.ids := by
  rw [List.take_add_one, h, Blk.idsL_app]
  simp [Blk.idsL]
theorem usedI_app (l m : List Inl) : usedI (l ++ m) = usedI l ++ usedI m := by unfold usedI; rw [List.filterMap_append]
theorem usedB_app (l m : List Blk) : usedB (l ++ m) = usedB l ++ usedB m := by unfold usedB; rw [List.filterMap_append]
theorem usedB_cons (k lv : Int) (i t d ti : ByteArray) (a : At) (li : List Inl) (ks m : List Blk) : usedB (.mk k lv i t d ti a li ks :: m) = idL a ++ usedB m := by
  unfold usedB idL
  rw [List.filterMap_cons, Blk.id1]
  by_cases h : a.id.data.toList = []
  · rw [if_pos h, if_pos h]; rfl
  · rw [if_neg h, if_neg h]; rfl
mutual
theorem Blk.ids_mem (x : ByteArray) : ∀ (b : Blk), x ∈ b.ids ↔ x ∈ usedB b.each ∨ x ∈ usedI b.inls
  | .mk _ _ _ _ _ _ a li ks => by
    rw [Blk.ids, Blk.each, Blk.inls, usedB_cons, usedI_app]
    have := Blk.idsL_mem x ks
    simp only [List.mem_append, this]
    constructor
    · rintro ((h | h) | h | h) <;> simp [h]
    · rintro ((h | h) | h | h) <;> simp [h]
theorem Blk.idsL_mem (x : ByteArray) : ∀ (l : List Blk), x ∈ Blk.idsL l ↔ x ∈ usedB (Blk.eachL l) ∨ x ∈ usedI (Blk.inlsL l)
  | [] => by rw [Blk.idsL, Blk.eachL, Blk.inlsL]; simp [usedB, usedI]
  | b :: l => by
    rw [Blk.idsL, Blk.eachL, Blk.inlsL, usedB_app, usedI_app]
    have h1 := Blk.ids_mem x b
    have h2 := Blk.idsL_mem x l
    simp only [List.mem_append, h1, h2]
    constructor
    · rintro ((h | h) | h | h) <;> simp [h]
    · rintro ((h | h) | h | h) <;> simp [h]
end
theorem allA_ids (texts : List ByteArray) (l : List Blk) : allA texts (Blk.idsL l) = allA texts (usedB (Blk.eachL l) ++ usedI (Blk.inlsL l)) :=
  allG_congr _ _ _ fun x => by rw [List.mem_append]; exact Blk.idsL_mem x l
theorem idL_len (a : At) : (idL a).length ≤ 1 := by unfold idL; split <;> simp
theorem usedI_le (l : List Inl) : (usedI l).length ≤ l.length := List.length_filterMap_le _ _
mutual
theorem Blk.ids_len : ∀ (b : Blk), b.ids.length ≤ b.sz + b.inls.length
  | .mk _ _ _ _ _ _ a li ks => by
    rw [Blk.ids, Blk.sz, Blk.inls]
    have h1 := idL_len a
    have h2 := usedI_le (Inl.deepL li)
    have h3 := Blk.idsL_len ks
    simp only [List.length_append]
    omega
theorem Blk.idsL_len : ∀ (l : List Blk), (Blk.idsL l).length ≤ Blk.szL l + (Blk.inlsL l).length
  | [] => by rw [Blk.idsL]; simp
  | b :: l => by
    rw [Blk.idsL, Blk.szL, Blk.inlsL]
    have h1 := Blk.ids_len b
    have h2 := Blk.idsL_len l
    simp only [List.length_append]
    omega
end
theorem Blk.inlsL_get : ∀ (l : List Blk) (k : Nat) (x : Blk), l[k]? = some x → x.inls.length ≤ (Blk.inlsL l).length
  | [], _, _, h => by simp at h
  | y :: l, 0, x, h => by simp at h; subst h; rw [Blk.inlsL, List.length_append]; omega
  | y :: l, k + 1, x, h => by
    have := Blk.inlsL_get l k x (by simpa using h)
    rw [Blk.inlsL, List.length_append]; omega
theorem Blk.idsL_takeLen (l : List Blk) (k : Nat) : (Blk.idsL (l.take k)).length ≤ Blk.szL l + (Blk.inlsL l).length := by
  have h := Blk.idsL_len l
  have e := Blk.idsL_app (l.take k) (l.drop k)
  rw [List.take_append_drop] at e
  have := congrArg List.length e
  rw [List.length_append] at this
  omega
end Go.Proofs.YtjobjicdfoklpaaGreatDoor

namespace Go.Proofs.YtjobjicdfoklpaaGreatDoor
set_option linter.unusedVariables false
set_option linter.unusedSimpArgs false

theorem Blk.small_pl (b : Blk) (hs : b.small) : b.plLen ≤ 100000000 := by
  cases b with
  | mk k lv i t d ti a li ks =>
    unfold Blk.small at hs
    have h1 := Inl.plainL_sm li hs.2.2.2.2.2.1
    have h2 := hs.2.2.2.2.2.2.1
    show (Inl.plainL li).length ≤ 100000000
    omega
theorem Blk.small_id (b : Blk) (hs : b.small) (x : ByteArray) (hx : b.id1 = some x) : x.size ≤ 600 := by
  cases b with
  | mk k lv i t d ti a li ks =>
    unfold Blk.small At.short at hs
    unfold Blk.id1 at hx; dsimp only at hx
    by_cases h0 : a.id.data.toList = []
    · rw [if_pos h0] at hx; cases hx
    · rw [if_neg h0] at hx; obtain rfl := Option.some.inj hx; exact hs.2.2.2.2.1.2.2.1
theorem Inl.small_id (b : Inl) (hs : b.small) (x : ByteArray) (hx : b.id1 = some x) : x.size ≤ 600 := by
  cases b with
  | mk k t d ti a ar ci ks =>
    unfold Inl.small At.short at hs
    unfold Inl.id1 at hx; dsimp only at hx
    by_cases h0 : a.id.data.toList = []
    · rw [if_pos h0] at hx; cases hx
    · rw [if_neg h0] at hx; obtain rfl := Option.some.inj hx; exact hs.2.2.2.1.2.2.1
theorem Blk.small_tx (b : Blk) (hs : b.plLen ≤ 100000000) (x : ByteArray) (hx : b.tx1 = some x) : x.size ≤ 100000000 := by
  cases b with
  | mk k lv i t d ti a li ks =>
    have hs : (Inl.plainL li).length ≤ 100000000 := hs
    unfold Blk.tx1 at hx; dsimp only at hx
    by_cases h0 : a.id.data.toList = []
    · rw [if_pos h0] at hx
      by_cases h1 : k = 2
      · rw [if_pos h1] at hx; obtain rfl := Option.some.inj hx; simpa [ByteArray.size] using hs
      · rw [if_neg h1] at hx; cases hx
    · rw [if_neg h0] at hx; cases hx
/-- What the contracts of layer 21 ask of a document. -/
theorem sm_bounds {me : List Pr} {l : List Blk} (h : DocSm me l) : Blk.bdL l ∧ me.length ≤ 1000000 ∧ Blk.szL l ≤ 50000 ∧ (Blk.inlsL l).length ≤ 50000 ∧ (∀ b ∈ Blk.eachL l, b.plLen ≤ 100000000) ∧
    (∀ x ∈ usedB (Blk.eachL l) ++ usedI (Blk.inlsL l), x.size ≤ 100000000) ∧ (∀ x ∈ textB (Blk.eachL l), x.size ≤ 100000000) := by
  have h1 := h.meta_
  have h2 := h.all
  have h3 := Blk.allL_sz l
  have hpl : ∀ b ∈ Blk.eachL l, b.plLen ≤ 100000000 := fun b hb => Blk.small_pl b (Blk.eachL_small l h.blks b hb)
  refine ⟨Blk.bdL_sm l h.blks, by omega, by omega, by omega, hpl, ?_, ?_⟩
  · intro x hx
    rcases List.mem_append.1 hx with hx | hx
    · obtain ⟨b, hb, hbx⟩ := List.mem_filterMap.1 hx
      exact Nat.le_trans (Blk.small_id b (Blk.eachL_small l h.blks b hb) x hbx) (by omega)
    · obtain ⟨b, hb, hbx⟩ := List.mem_filterMap.1 hx
      exact Nat.le_trans (Inl.small_id b (Blk.inlsL_small l h.blks b hb) x hbx) (by omega)
  · intro x hx
    obtain ⟨b, hb, hbx⟩ := List.mem_filterMap.1 hx
    exact Blk.small_tx b (hpl b hb) x hbx
end Go.Proofs.YtjobjicdfoklpaaGreatDoor
