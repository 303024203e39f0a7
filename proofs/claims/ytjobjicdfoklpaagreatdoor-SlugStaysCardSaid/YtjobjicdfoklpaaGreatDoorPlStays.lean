/- Plain part: a document whose headings got identifiers: none lacks one, those that there were stay, naming again changes nothing, and a document without errors stays one. -/
import Derived.Test.YtjobjicdfoklpaaGreatDoorTake
import Derived.Test.YtjobjicdfoklpaaGreatDoorAnchW
import Derived.Test.YtjobjicdfoklpaaGreatDoorPlSlug
import Derived.Test.YtjobjicdfoklpaaGreatDoorChW
namespace Go.Proofs.YtjobjicdfoklpaaGreatDoor
open Go.RowKit
set_option linter.unusedVariables false
set_option linter.unusedSimpArgs false

mutual
theorem Blk.name_drop : ∀ (x : Blk) (A : List ByteArray), (x.name A).2 = A.drop x.bare
  | .mk k lv i t d ti a li ks, A => by
    rw [Blk.name, Blk.bare]
    split
    · rw [Blk.nameL_drop ks A.tail, ← List.drop_one, List.drop_drop, Nat.add_comm]
    · rw [Blk.nameL_drop ks A, Nat.zero_add]
theorem Blk.nameL_drop : ∀ (l : List Blk) (A : List ByteArray), (Blk.nameL l A).2 = A.drop (Blk.bareL l)
  | [], A => by rw [Blk.nameL, Blk.bareL]; rfl
  | x :: l, A => by
    rw [Blk.nameL, Blk.bareL]
    show (Blk.nameL l (x.name A).2).2 = _
    rw [Blk.nameL_drop l, Blk.name_drop x, List.drop_drop]
end
theorem drop_all {p : ByteArray → Prop} {A : List ByteArray} (n : Nat) (h : ∀ a ∈ A, p a) : ∀ a ∈ A.drop n, p a := fun a ha => h a (List.mem_of_mem_drop ha)
theorem head_all {p : ByteArray → Prop} {A : List ByteArray} {d : ByteArray} (h : ∀ a ∈ A, p a) (hA : 1 ≤ A.length) : p (A.headD d) := by
  cases A with
  | nil => simp at hA
  | cons a A => exact h a (by simp)
def nonE (a : ByteArray) : Prop := a.data.toList ≠ []
mutual
theorem Blk.name_bare : ∀ (x : Blk) (A : List ByteArray), x.bare ≤ A.length → (∀ a ∈ A, nonE a) → (x.name A).1.bare = 0
  | .mk k lv i t d ti a li ks, A, h, hA => by
    rw [Blk.bare] at h
    rw [Blk.name]
    by_cases hc : k = 2 ∧ a.id.data.toList = []
    · rw [if_pos hc] at h ⊢
      show Blk.bare (.mk k lv i t d ti { a with id := A.headD a.id } li (Blk.nameL ks A.tail).1) = 0
      have h1 : nonE (A.headD a.id) := head_all hA (by omega)
      rw [Blk.bare, if_neg (fun e => h1 e.2), Blk.nameL_bare ks A.tail (by rw [List.length_tail]; omega) (fun b hb => hA b (List.mem_of_mem_tail hb))]
    · rw [if_neg hc] at h ⊢
      show Blk.bare (.mk k lv i t d ti a li (Blk.nameL ks A).1) = 0
      rw [Blk.bare, if_neg hc, Blk.nameL_bare ks A (by omega) hA]
theorem Blk.nameL_bare : ∀ (l : List Blk) (A : List ByteArray), Blk.bareL l ≤ A.length → (∀ a ∈ A, nonE a) → Blk.bareL (Blk.nameL l A).1 = 0
  | [], A, h, hA => by rw [Blk.nameL, Blk.bareL]
  | x :: l, A, h, hA => by
    rw [Blk.bareL] at h
    rw [Blk.nameL]
    show Blk.bareL ((x.name A).1 :: (Blk.nameL l (x.name A).2).1) = 0
    rw [Blk.bareL, Blk.name_bare x A (by omega) hA, Blk.name_drop, Blk.nameL_bare l _ (by rw [List.length_drop]; omega) (drop_all _ hA)]
end
mutual
theorem Blk.name_self : ∀ (x : Blk) (A : List ByteArray), x.bare = 0 → (x.name A).1 = x
  | .mk k lv i t d ti a li ks, A, h => by
    rw [Blk.bare] at h
    rw [Blk.name]
    by_cases hc : k = 2 ∧ a.id.data.toList = []
    · rw [if_pos hc] at h; omega
    · rw [if_neg hc] at h ⊢
      show Blk.mk k lv i t d ti a li (Blk.nameL ks A).1 = _
      rw [Blk.nameL_self ks A (by omega)]
theorem Blk.nameL_self : ∀ (l : List Blk) (A : List ByteArray), Blk.bareL l = 0 → (Blk.nameL l A).1 = l
  | [], A, h => by rw [Blk.nameL]
  | x :: l, A, h => by
    rw [Blk.bareL] at h
    rw [Blk.nameL]
    show (x.name A).1 :: (Blk.nameL l (x.name A).2).1 = _
    rw [Blk.name_self x A (by omega), Blk.nameL_self l _ (by omega)]
end
/-- What a block's kind and identifier are. -/
def Blk.kd : Blk → Int
  | .mk k _ _ _ _ _ _ _ _ => k
def Blk.idB : Blk → ByteArray
  | .mk _ _ _ _ _ _ a _ _ => a.id
/-- The same kind, and an identifier that there was stays. -/
def Blk.kept (x y : Blk) : Prop := y.kd = x.kd ∧ (nonE x.idB → y.idB = x.idB)
inductive KeptL : List Blk → List Blk → Prop
  | nil : KeptL [] []
  | cons {x y : Blk} {l m : List Blk} : x.kept y → KeptL l m → KeptL (x :: l) (y :: m)
theorem KeptL.app {l m l' m' : List Blk} (h : KeptL l m) (h' : KeptL l' m') : KeptL (l ++ l') (m ++ m') := by
  induction h with
  | nil => exact h'
  | cons hx _ ih => exact .cons hx ih
theorem KeptL.len {l m : List Blk} (h : KeptL l m) : l.length = m.length := by
  induction h with
  | nil => rfl
  | cons _ _ ih => rw [List.length_cons, List.length_cons, ih]
theorem KeptL.get {l m : List Blk} (h : KeptL l m) : ∀ {k : Nat} {x y : Blk}, l[k]? = some x → m[k]? = some y → x.kept y := by
  induction h with
  | nil => intro k x y hx; simp at hx
  | cons hx _ ih =>
    intro k x y h1 h2
    cases k with
    | zero => simp at h1 h2; subst h1 h2; exact hx
    | succ k => exact ih (by simpa using h1) (by simpa using h2)
mutual
theorem Blk.name_kept : ∀ (x : Blk) (A : List ByteArray), KeptL x.each (x.name A).1.each
  | .mk k lv i t d ti a li ks, A => by
    rw [Blk.name, Blk.each]
    by_cases hc : k = 2 ∧ a.id.data.toList = []
    · rw [if_pos hc]
      show KeptL _ (Blk.each (.mk k lv i t d ti { a with id := A.headD a.id } li (Blk.nameL ks A.tail).1))
      rw [Blk.each]
      exact .cons ⟨rfl, fun e => absurd hc.2 e⟩ (Blk.nameL_kept ks _)
    · rw [if_neg hc]
      show KeptL _ (Blk.each (.mk k lv i t d ti a li (Blk.nameL ks A).1))
      rw [Blk.each]
      exact .cons ⟨rfl, fun _ => rfl⟩ (Blk.nameL_kept ks _)
theorem Blk.nameL_kept : ∀ (l : List Blk) (A : List ByteArray), KeptL (Blk.eachL l) (Blk.eachL (Blk.nameL l A).1)
  | [], A => by rw [Blk.nameL, Blk.eachL]; exact .nil
  | x :: l, A => by
    rw [Blk.nameL, Blk.eachL]
    show KeptL _ (Blk.eachL ((x.name A).1 :: (Blk.nameL l (x.name A).2).1))
    rw [Blk.eachL]
    exact (Blk.name_kept x A).app (Blk.nameL_kept l _)
end
mutual
theorem Blk.bare_each : ∀ (x : Blk), x.bare = 0 → ∀ y ∈ x.each, y.kd = 2 → nonE y.idB
  | .mk k lv i t d ti a li ks, h, y, hy, hk => by
    rw [Blk.bare] at h
    rw [Blk.each] at hy
    rcases List.mem_cons.1 hy with rfl | hy
    · intro e
      have hc : k = 2 ∧ a.id.data.toList = [] := ⟨hk, e⟩
      rw [if_pos hc] at h; omega
    · exact Blk.bareL_each ks (by omega) y hy hk
theorem Blk.bareL_each : ∀ (l : List Blk), Blk.bareL l = 0 → ∀ y ∈ Blk.eachL l, y.kd = 2 → nonE y.idB
  | [], h, y, hy, hk => by rw [Blk.eachL] at hy; cases hy
  | x :: l, h, y, hy, hk => by
    rw [Blk.bareL] at h
    rw [Blk.eachL] at hy
    rcases List.mem_append.1 hy with hy | hy
    · exact Blk.bare_each x (by omega) y hy hk
    · exact Blk.bareL_each l (by omega) y hy hk
end
theorem err_id (a : At) (x : ByteArray) (h : a.err = 0) (hx : nameOk x = true) : At.err { a with id := x } = 0 := by
  unfold At.err at h ⊢
  rw [if_neg (by rw [hx]; simp)]
  by_cases h1 : emptyS a.id = false ∧ nameOk a.id = false
  · rw [if_pos h1] at h; cases h
  · rw [if_neg h1] at h; exact h
theorem Blk.nameL_len' : ∀ (l : List Blk) (A : List ByteArray), (Blk.nameL l A).1.length = l.length
  | [], A => by rw [Blk.nameL]
  | x :: l, A => by rw [Blk.nameL]; show ((x.name A).1 :: _).length = _; rw [List.length_cons, Blk.nameL_len' l, List.length_cons]
theorem Blk.name_kidN : ∀ (x : Blk) (A : List ByteArray), (x.name A).1.kidN = x.kidN
  | .mk k lv i t d ti a li ks, A => by
    rw [Blk.name]
    split
    · show (Blk.nameL ks A.tail).1.length = ks.length; exact Blk.nameL_len' ks _
    · show (Blk.nameL ks A).1.length = ks.length; exact Blk.nameL_len' ks _
theorem any_kidN (n : Nat) : ∀ (l : List Blk) (A : List ByteArray), ((Blk.nameL l A).1.any fun b => !decide (b.kidN = n)) = l.any fun b => !decide (b.kidN = n)
  | [], A => by rw [Blk.nameL]
  | x :: l, A => by
    rw [Blk.nameL]
    show (((x.name A).1 :: (Blk.nameL l (x.name A).2).1).any _) = _
    rw [List.any_cons, List.any_cons, Blk.name_kidN, any_kidN n l]
theorem empty_len {α β : Type} {l : List α} {m : List β} (h : l.length = m.length) : l.isEmpty = m.isEmpty := by
  cases l <;> cases m <;> simp at h ⊢
theorem tableErr_name (i : ByteArray) (ks : List Blk) (A : List ByteArray) : tableErr i (Blk.nameL ks A).1 = tableErr i ks := by
  unfold tableErr
  rw [any_kidN, empty_len (Blk.nameL_len' ks A)]
theorem itsErr_kids (cl : ByteArray → Bool) (k lv : Int) (i t d ti : ByteArray) (a : At) (li : List Inl) (ks : List Blk) (A : List ByteArray) : itsErr cl k lv i t d ti a li (Blk.nameL ks A).1 = itsErr cl k lv i t d ti a li ks := by
  unfold itsErr
  rw [tableErr_name, empty_len (Blk.nameL_len' ks A)]
theorem blFields_kids (k lv : Int) (i t d ti : ByteArray) (a : At) (li : List Inl) (ks : List Blk) (A : List ByteArray) : blFields k lv i t d ti a li (Blk.nameL ks A).1 = blFields k lv i t d ti a li ks := by
  unfold blFields
  rw [empty_len (Blk.nameL_len' ks A)]
mutual
theorem Blk.err_name (cl : ByteArray → Bool) : ∀ (x : Blk) (A : List ByteArray) (par : Int) (dp : Nat), x.bare ≤ A.length → (∀ a ∈ A, nameOk a = true) → x.err cl par dp = 0 → (x.name A).1.err cl par dp = 0
  | .mk k lv i t d ti a li ks, A, par, dp, hb, hA, h => by
    rw [Blk.bare] at hb
    rw [Blk.err] at h
    by_cases h15 : 15 < dp
    · rw [if_pos h15] at h; cases h
    rw [if_neg h15] at h
    by_cases hf : blFields k lv i t d ti a li ks = false ∨ placeB k par = false
    · rw [if_pos hf] at h; cases h
    rw [if_neg hf] at h
    by_cases hi : itsErr cl k lv i t d ti a li ks ≠ 0
    · rw [if_pos hi] at h; exact absurd h hi
    rw [if_neg hi] at h
    rw [Blk.name]
    by_cases hc : k = 2 ∧ a.id.data.toList = []
    · rw [if_pos hc] at hb ⊢
      show Blk.err cl par dp (.mk k lv i t d ti { a with id := A.headD a.id } li (Blk.nameL ks A.tail).1) = 0
      obtain ⟨rfl, -⟩ := hc
      have hN : nameOk (A.headD a.id) = true := head_all hA (by omega)
      have hi0 : itsErr cl 2 lv i t d ti a li ks = 0 := by simpa using hi
      have h1 : blFields 2 lv i t d ti { a with id := A.headD a.id } li (Blk.nameL ks A.tail).1 = blFields 2 lv i t d ti a li ks := by
        rw [blFields_kids]
        unfold blFields
        simp
      have h2 : itsErr cl 2 lv i t d ti { a with id := A.headD a.id } li (Blk.nameL ks A.tail).1 = 0 := by
        rw [itsErr_kids]
        unfold itsErr at hi0 ⊢
        rw [if_neg (by decide), if_pos rfl] at hi0 ⊢
        by_cases g1 : lv < 1 ∨ 6 < lv
        · rw [if_pos g1] at hi0; cases hi0
        rw [if_neg g1] at hi0 ⊢
        by_cases g2 : a.err ≠ 0
        · rw [if_pos g2] at hi0; exact absurd hi0 g2
        rw [if_neg g2] at hi0
        have g2 : a.err = 0 := by simpa using g2
        rw [err_id a _ g2 hN, if_neg (by simp)]
        exact hi0
      rw [Blk.err, if_neg h15, h1, if_neg hf, h2, if_neg (by simp)]
      exact Blk.errL_name cl ks A.tail 2 (dp + 1) (by rw [List.length_tail]; omega) (fun b hb => hA b (List.mem_of_mem_tail hb)) h
    · rw [if_neg hc] at hb ⊢
      show Blk.err cl par dp (.mk k lv i t d ti a li (Blk.nameL ks A).1) = 0
      rw [Blk.err, if_neg h15, blFields_kids, if_neg hf, itsErr_kids, if_neg hi]
      exact Blk.errL_name cl ks A k (dp + 1) (by omega) hA h
theorem Blk.errL_name (cl : ByteArray → Bool) : ∀ (l : List Blk) (A : List ByteArray) (par : Int) (dp : Nat), Blk.bareL l ≤ A.length → (∀ a ∈ A, nameOk a = true) → Blk.errL cl par dp l = 0 → Blk.errL cl par dp (Blk.nameL l A).1 = 0
  | [], A, par, dp, hb, hA, h => by rw [Blk.nameL]; exact h
  | x :: l, A, par, dp, hb, hA, h => by
    rw [Blk.bareL] at hb
    rw [Blk.errL] at h
    by_cases hx : x.err cl par dp ≠ 0
    · rw [if_pos hx] at h; exact absurd h hx
    rw [if_neg hx] at h
    have hx : x.err cl par dp = 0 := by simpa using hx
    rw [Blk.nameL]
    show Blk.errL cl par dp ((x.name A).1 :: (Blk.nameL l (x.name A).2).1) = 0
    rw [Blk.errL, Blk.err_name cl x A par dp (by omega) hA hx, if_neg (by simp), Blk.name_drop]
    exact Blk.errL_name cl l _ par dp (by rw [List.length_drop]; omega) (drop_all _ hA) h
end
mutual
theorem Blk.all_name : ∀ (x : Blk) (A : List ByteArray), (x.name A).1.all = x.all
  | .mk k lv i t d ti a li ks, A => by
    rw [Blk.name, Blk.all]
    split
    · show Blk.all (.mk k lv i t d ti { a with id := A.headD a.id } li (Blk.nameL ks A.tail).1) = _
      rw [Blk.all, Blk.allL_name ks]
    · show Blk.all (.mk k lv i t d ti a li (Blk.nameL ks A).1) = _
      rw [Blk.all, Blk.allL_name ks]
theorem Blk.allL_name : ∀ (l : List Blk) (A : List ByteArray), Blk.allL (Blk.nameL l A).1 = Blk.allL l
  | [], A => by rw [Blk.nameL]
  | x :: l, A => by
    rw [Blk.nameL]
    show Blk.allL ((x.name A).1 :: (Blk.nameL l (x.name A).2).1) = _
    rw [Blk.allL, Blk.allL, Blk.all_name x, Blk.allL_name l]
end
theorem docErr_name (cl : ByteArray → Bool) (me : List Pr) (l : List Blk) (A : List ByteArray) (hb : Blk.bareL l ≤ A.length) (hA : ∀ a ∈ A, nameOk a = true) (h : docErr cl me l = 0) : docErr cl me (Blk.nameL l A).1 = 0 := by
  unfold docErr at h ⊢
  rw [Blk.allL_name]
  by_cases h1 : 32768 < Blk.allL l ∨ 64 < me.length
  · rw [if_pos h1] at h; cases h
  rw [if_neg h1] at h ⊢
  by_cases h2 : metErr [] me ≠ 0
  · rw [if_pos h2] at h; exact absurd h h2
  rw [if_neg h2] at h ⊢
  exact Blk.errL_name cl l A 0 0 hb hA h
end Go.Proofs.YtjobjicdfoklpaaGreatDoor
