/- Plain part: the numbers of a document: sections, figures, tables, equations, notes. Plain part: entries, and the list of entries, as the program and as the reference make it. -/
import Derived.Test.YtlbioncagkkkoaaGreatDoorKEach
import Derived.Test.YtlbioncagkkkoaaGreatDoorKSmall
import Derived.Test.YtlbioncagkkkoaaGreatDoorKSizeD
import Derived.Lib.ItoaNum
namespace Go.Proofs.YtlbioncagkkkoaaGreatDoor
set_option linter.unusedVariables false
set_option linter.unusedSimpArgs false

/-- A number: identifier, kind, value, line. -/
structure Nm where
  id : ByteArray
  kind : ByteArray
  val : ByteArray
  line : List Inl
def Nm.d (n : Nm) : D := .st [.str n.id, .str n.kind, .str n.val, inlsD n.line]
def nmsD (l : List Nm) : D := .sl 4 (l.map Nm.d)
def secS : ByteArray := ⟨#[115, 101, 99, 116, 105, 111, 110]⟩
def figS : ByteArray := ⟨#[102, 105, 103, 117, 114, 101]⟩
def tabS : ByteArray := ⟨#[116, 97, 98, 108, 101]⟩
def equS : ByteArray := ⟨#[101, 113, 117, 97, 116, 105, 111, 110]⟩
def notS : ByteArray := ⟨#[110, 111, 116, 101]⟩
def decS (n : Nat) : ByteArray := ⟨(Lib.decDigits n).toArray⟩
/-- The level of a section. -/
def lvlOf (lv : Int) : Nat := if lv < 1 then 1 else if 6 < lv then 6 else lv.toNat
/-- The counters behind a section of the level k. -/
def cntUp (c : List Nat) (k : Nat) : List Nat := (List.range 6).map fun i => if i + 1 < k then max (c.getD i 0) 1 else if i + 1 = k then c.getD i 0 + 1 else 0
def dotL : List (List UInt8) → List UInt8
  | [] => []
  | [x] => x
  | x :: y :: l => x ++ 46 :: dotL (y :: l)
/-- The value of counters up to the level k. -/
def valS (c : List Nat) (k : Nat) : ByteArray := ⟨(dotL ((c.take k).map Lib.decDigits)).toArray⟩
def Blk.lineOf : Blk → List Inl
  | .mk _ _ _ _ _ _ _ li _ => li
def Blk.kindOf : Blk → Int
  | .mk k _ _ _ _ _ _ _ _ => k
/-- The line of the first paragraph behind the first block. -/
def capL (l : List Blk) : List Inl := match (l.drop 1).find? (fun b => decide (b.kindOf = 1)) with
  | some b => b.lineOf
  | none => []
/-- What has been counted. -/
structure Ns where
  c : List Nat
  f : Nat
  t : Nat
  e : Nat
  out : List Nm
def numOne (free : Bool) (s : Ns) (k lv : Int) (i : ByteArray) (a : At) (li : List Inl) (ks : List Blk) : Ns :=
  if k = 2 ∧ free = true then { s with c := cntUp s.c (lvlOf lv), out := s.out ++ [⟨a.id, secS, valS (cntUp s.c (lvlOf lv)) (lvlOf lv), li⟩] }
  else if k = 13 ∧ i = figS then { s with f := s.f + 1, out := s.out ++ [⟨a.id, figS, decS (s.f + 1), capL ks⟩] }
  else if k = 13 ∧ i = tabS then { s with t := s.t + 1, out := s.out ++ [⟨a.id, tabS, decS (s.t + 1), capL ks⟩] }
  else if k = 4 ∧ a.id.data.toList ≠ [] then { s with e := s.e + 1, out := s.out ++ [⟨a.id, equS, decS (s.e + 1), []⟩] }
  else s
mutual
/-- The numbers of a block and of those in it; free: do only directives contain it? -/
def Blk.num (free : Bool) (s : Ns) : Blk → Ns
  | .mk k lv i t d ti a li ks => Blk.numL (free && decide (k = 13)) (numOne free s k lv i a li ks) ks
def Blk.numL (free : Bool) (s : Ns) : List Blk → Ns
  | [] => s
  | x :: l => Blk.numL free (x.num free s) l
end
def ns0 : Ns := ⟨List.replicate 6 0, 0, 0, 0, []⟩
/-- The names of the notes, in the order of their first references. -/
def noteG (defs : List ByteArray) (out : List ByteArray) : List Inl → List ByteArray
  | [] => out
  | x :: l => noteG defs (if x.kd = 12 ∧ hasB defs x.tx = true ∧ hasB out x.tx = false then out ++ [x.tx] else out) l
def defN (l : List Blk) : List ByteArray := l.filterMap fun b => match b with
  | .mk k _ i _ _ _ _ _ _ => if k = 14 then some i else none
def notesL (l : List Blk) : List ByteArray := noteG (defN (Blk.eachL l)) [] (Blk.inlsL l)
def noteNs (j : Nat) : List ByteArray → List Nm
  | [] => []
  | x :: l => ⟨x, notS, decS (j + 1), []⟩ :: noteNs (j + 1) l
/-- The numbers of a document. -/
def numsL (l : List Blk) : List Nm := (Blk.numL true ns0 l).out ++ noteNs 0 (notesL l)
theorem Blk.numL_app (free : Bool) : ∀ (l m : List Blk) (s : Ns), Blk.numL free s (l ++ m) = Blk.numL free (Blk.numL free s l) m
  | [], m, s => by rw [List.nil_append]; conv => rhs; rw [Blk.numL]
  | x :: l, m, s => by rw [List.cons_append, Blk.numL, Blk.numL_app free l m, Blk.numL]
theorem Blk.numL_snoc (free : Bool) (l : List Blk) (k : Nat) (x : Blk) (s : Ns) (h : l[k]? = some x) : Blk.numL free s (l.take (k + 1)) = x.num free (Blk.numL free s (l.take k)) := by
  rw [List.take_add_one, h, Blk.numL_app]
  simp [Blk.numL]
end Go.Proofs.YtlbioncagkkkoaaGreatDoor

namespace Go.Proofs.YtlbioncagkkkoaaGreatDoor
set_option linter.unusedVariables false
set_option linter.unusedSimpArgs false

/-- An entry: level, identifier, text, line, references. -/
structure En where
  lv : Int
  id : ByteArray
  tx : ByteArray
  line : List Inl
  refs : List ByteArray
def En.d (e : En) : D := .st [.int .i64 e.lv, .str e.id, .str e.tx, inlsD e.line, strsD e.refs]
def ensD (l : List En) : D := .sl 5 (l.map En.d)
def hashB : ByteArray := ⟨#[35]⟩
def shKids (e : En) : List Inl := (if emptyS e.tx = true then [] else [txI (e.tx ++ ⟨#[32]⟩)]) ++ e.line
/-- The shown entry. -/
def shownI (e : En) : Inl := .mk 9 ⟨#[]⟩ (hashB ++ e.id) ⟨#[]⟩ at0 [] [] (Inl.mergeL (shKids e))
def paraB (e : En) : Blk := .mk 1 0 ⟨#[]⟩ ⟨#[]⟩ ⟨#[]⟩ ⟨#[]⟩ at0 [shownI e] []
def itemB (e : En) (ks : List Blk) : Blk := .mk 9 0 ⟨#[]⟩ ⟨#[]⟩ ⟨#[]⟩ ⟨#[]⟩ at0 [] (paraB e :: ks)
def bulB (items : List Blk) : List Blk := if items.isEmpty = true then [] else [.mk 7 0 ⟨#[]⟩ ⟨#[]⟩ ⟨#[]⟩ ⟨#[]⟩ at0 [] items]
def En.over (e x : En) : Bool := decide (e.lv < x.lv)
theorem takeW_len {α : Type} (p : α → Bool) : ∀ (l : List α), (l.takeWhile p).length ≤ l.length
  | [] => by simp
  | x :: l => by
    have := takeW_len p l
    rw [List.takeWhile_cons]
    split <;> simp <;> omega
theorem dropW_len {α : Type} (p : α → Bool) : ∀ (l : List α), (l.dropWhile p).length ≤ l.length
  | [] => by simp
  | x :: l => by
    have := dropW_len p l
    rw [List.dropWhile_cons]
    split <;> simp <;> omega
/-- The items of a list of entries. -/
def itemsR : List En → List Blk
  | [] => []
  | e :: l => itemB e (bulB (itemsR (l.takeWhile e.over))) :: itemsR (l.dropWhile e.over)
termination_by l => l.length
decreasing_by
  · have := takeW_len e.over l; simp only [List.length_cons]; omega
  · have := dropW_len e.over l; simp only [List.length_cons]; omega
def listR (l : List En) : List Blk := bulB (itemsR l)
theorem itemsR_nil : itemsR [] = [] := by rw [itemsR]
theorem itemsR_cons (e : En) (l : List En) : itemsR (e :: l) = itemB e (listR (l.takeWhile e.over)) :: itemsR (l.dropWhile e.over) := by rw [itemsR]; rfl
theorem tw_tw {α : Type} (p q : α → Bool) (h : ∀ x, q x = true → p x = true) : ∀ (l : List α), (l.takeWhile p).takeWhile q = l.takeWhile q
  | [] => rfl
  | x :: l => by
    have ih := tw_tw p q h l
    by_cases hq : q x = true
    · rw [List.takeWhile_cons, if_pos (h x hq), List.takeWhile_cons, if_pos hq, List.takeWhile_cons, if_pos hq, ih]
    · by_cases hp : p x = true
      · rw [List.takeWhile_cons, if_pos hp, List.takeWhile_cons, if_neg hq, List.takeWhile_cons, if_neg hq]
      · rw [List.takeWhile_cons, if_neg hp, List.takeWhile_cons, if_neg hq]; rfl
theorem tw_dw {α : Type} (p q : α → Bool) (h : ∀ x, q x = true → p x = true) : ∀ (l : List α), (l.takeWhile p).dropWhile q = (l.dropWhile q).takeWhile p
  | [] => rfl
  | x :: l => by
    have ih := tw_dw p q h l
    by_cases hq : q x = true
    · rw [List.takeWhile_cons, if_pos (h x hq), List.dropWhile_cons, if_pos hq, List.dropWhile_cons, if_pos hq, ih]
    · rw [List.dropWhile_cons, if_neg hq]
      by_cases hp : p x = true
      · rw [List.takeWhile_cons, if_pos hp, List.dropWhile_cons, if_neg hq]
      · rw [List.takeWhile_cons, if_neg hp]; rfl
/-- What stays inside with an entry also stays with what is over it. -/
def Up (p : En → Bool) : Prop := ∀ e x, p e = true → e.over x = true → p x = true
theorem up_true : Up fun _ => true := fun _ _ _ _ => rfl
theorem items_step (p : En → Bool) (hp : Up p) (e : En) (l : List En) (he : p e = true) :
    itemsR ((e :: l).takeWhile p) = itemB e (listR (l.takeWhile e.over)) :: itemsR ((l.dropWhile e.over).takeWhile p) := by
  rw [List.takeWhile_cons, if_pos he, itemsR_cons, tw_tw p e.over (fun x hx => hp e x he hx), tw_dw p e.over (fun x hx => hp e x he hx)]
theorem tw_dw_len {α : Type} (q : α → Bool) (l : List α) : (l.takeWhile q).length + (l.dropWhile q).length = l.length := by
  have := congrArg List.length (List.takeWhile_append_dropWhile (p := q) (l := l))
  rwa [List.length_append] at this
theorem dw_drop {α : Type} (q : α → Bool) : ∀ (l : List α), l.dropWhile q = l.drop (l.takeWhile q).length
  | [] => rfl
  | x :: l => by
    have ih := dw_drop q l
    by_cases hq : q x = true
    · rw [List.dropWhile_cons, if_pos hq, List.takeWhile_cons, if_pos hq, ih]; rfl
    · rw [List.dropWhile_cons, if_neg hq, List.takeWhile_cons, if_neg hq]; rfl
theorem step_len (p : En → Bool) (hp : Up p) (e : En) (l : List En) (he : p e = true) :
    ((e :: l).takeWhile p).length = 1 + (l.takeWhile e.over).length + ((l.dropWhile e.over).takeWhile p).length := by
  have h1 := tw_dw_len e.over (l.takeWhile p)
  rw [tw_tw p e.over (fun x hx => hp e x he hx), tw_dw p e.over (fun x hx => hp e x he hx)] at h1
  rw [List.takeWhile_cons, if_pos he, List.length_cons]; omega

inductive Items : List Blk → List En → Prop
  | nil : Items [] []
  | cons (e : En) (ks : List Blk) (xs : List Blk) (l : List En) (h : Items xs l) : Items (itemB e ks :: xs) (e :: l)
theorem Items.app : ∀ {xs ys : List Blk} {l m : List En}, Items xs l → Items ys m → Items (xs ++ ys) (l ++ m)
  | _, _, _, _, .nil, h => h
  | _, _, _, _, .cons e ks xs l h, k => .cons e ks _ _ (h.app k)
theorem Items.len : ∀ {xs : List Blk} {l : List En}, Items xs l → xs.length = l.length
  | _, _, .nil => rfl
  | _, _, .cons e ks xs l h => by simp [h.len]
theorem Items.get : ∀ {xs : List Blk} {l : List En}, Items xs l → ∀ (n : Nat) (x : Blk), xs[n]? = some x → ∃ e ks, l[n]? = some e ∧ x = itemB e ks
  | _, _, .nil, n, x, h => by simp at h
  | _, _, .cons e ks xs l h, 0, x, hx => by simp at hx; exact ⟨e, ks, rfl, hx.symm⟩
  | _, _, .cons e ks xs l h, n + 1, x, hx => by
    obtain ⟨e', ks', h1, h2⟩ := h.get n x (by simpa using hx)
    exact ⟨e', ks', by simpa using h1, h2⟩
end Go.Proofs.YtlbioncagkkkoaaGreatDoor
