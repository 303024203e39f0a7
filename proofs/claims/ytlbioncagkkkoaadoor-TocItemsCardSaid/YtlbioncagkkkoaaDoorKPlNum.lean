/- Plain part: the numbers of a document: sections, figures, tables, equations, notes. -/
import Derived.Test.YtlbioncagkkkoaaDoorKEach
import Derived.Test.YtlbioncagkkkoaaDoorKSmall
import Derived.Test.YtlbioncagkkkoaaDoorKChA
import Derived.Lib.ItoaNum
namespace Go.Proofs.YtlbioncagkkkoaaDoor
set_option linter.unusedVariables false
set_option linter.unusedSimpArgs false

/-- A number: identifier, kind, value, line. -/
structure Nm where
  id : ByteArray
  kind : ByteArray
  val : ByteArray
  line : List Inl
def Nm.d (n : Nm) : D := .st [.str n.id, .str n.kind, .str n.val, inlsD n.line]
def nmsD (l : List Nm) : D := .sl 4 (l.map Nm.d)
def secS : ByteArray := ⟨#[115, 101, 99, 116, 105, 111, 110]⟩
def figS : ByteArray := ⟨#[102, 105, 103, 117, 114, 101]⟩
def tabS : ByteArray := ⟨#[116, 97, 98, 108, 101]⟩
def equS : ByteArray := ⟨#[101, 113, 117, 97, 116, 105, 111, 110]⟩
def notS : ByteArray := ⟨#[110, 111, 116, 101]⟩
def decS (n : Nat) : ByteArray := ⟨(Lib.decDigits n).toArray⟩
/-- The level of a section. -/
def lvlOf (lv : Int) : Nat := if lv < 1 then 1 else if 6 < lv then 6 else lv.toNat
/-- The counters behind a section of the level k. -/
def cntUp (c : List Nat) (k : Nat) : List Nat := (List.range 6).map fun i => if i + 1 < k then max (c.getD i 0) 1 else if i + 1 = k then c.getD i 0 + 1 else 0
def dotL : List (List UInt8) → List UInt8
  | [] => []
  | [x] => x
  | x :: y :: l => x ++ 46 :: dotL (y :: l)
/-- The value of counters up to the level k. -/
def valS (c : List Nat) (k : Nat) : ByteArray := ⟨(dotL ((c.take k).map Lib.decDigits)).toArray⟩
def Blk.lineOf : Blk → List Inl
  | .mk _ _ _ _ _ _ _ li _ => li
def Blk.kindOf : Blk → Int
  | .mk k _ _ _ _ _ _ _ _ => k
/-- The line of the first paragraph behind the first block. -/
def capL (l : List Blk) : List Inl := match (l.drop 1).find? (fun b => decide (b.kindOf = 1)) with
  | some b => b.lineOf
  | none => []
/-- What has been counted. -/
structure Ns where
  c : List Nat
  f : Nat
  t : Nat
  e : Nat
  out : List Nm
def numOne (free : Bool) (s : Ns) (k lv : Int) (i : ByteArray) (a : At) (li : List Inl) (ks : List Blk) : Ns :=
  if k = 2 ∧ free = true then { s with c := cntUp s.c (lvlOf lv), out := s.out ++ [⟨a.id, secS, valS (cntUp s.c (lvlOf lv)) (lvlOf lv), li⟩] }
  else if k = 13 ∧ i = figS then { s with f := s.f + 1, out := s.out ++ [⟨a.id, figS, decS (s.f + 1), capL ks⟩] }
  else if k = 13 ∧ i = tabS then { s with t := s.t + 1, out := s.out ++ [⟨a.id, tabS, decS (s.t + 1), capL ks⟩] }
  else if k = 4 ∧ a.id.data.toList ≠ [] then { s with e := s.e + 1, out := s.out ++ [⟨a.id, equS, decS (s.e + 1), []⟩] }
  else s
mutual
/-- The numbers of a block and of those in it; free: do only directives contain it? -/
def Blk.num (free : Bool) (s : Ns) : Blk → Ns
  | .mk k lv i t d ti a li ks => Blk.numL (free && decide (k = 13)) (numOne free s k lv i a li ks) ks
def Blk.numL (free : Bool) (s : Ns) : List Blk → Ns
  | [] => s
  | x :: l => Blk.numL free (x.num free s) l
end
def ns0 : Ns := ⟨List.replicate 6 0, 0, 0, 0, []⟩
/-- The names of the notes, in the order of their first references. -/
def noteG (defs : List ByteArray) (out : List ByteArray) : List Inl → List ByteArray
  | [] => out
  | x :: l => noteG defs (if x.kd = 12 ∧ hasB defs x.tx = true ∧ hasB out x.tx = false then out ++ [x.tx] else out) l
def defN (l : List Blk) : List ByteArray := l.filterMap fun b => match b with
  | .mk k _ i _ _ _ _ _ _ => if k = 14 then some i else none
def notesL (l : List Blk) : List ByteArray := noteG (defN (Blk.eachL l)) [] (Blk.inlsL l)
def noteNs (j : Nat) : List ByteArray → List Nm
  | [] => []
  | x :: l => ⟨x, notS, decS (j + 1), []⟩ :: noteNs (j + 1) l
/-- The numbers of a document. -/
def numsL (l : List Blk) : List Nm := (Blk.numL true ns0 l).out ++ noteNs 0 (notesL l)
theorem Blk.numL_app (free : Bool) : ∀ (l m : List Blk) (s : Ns), Blk.numL free s (l ++ m) = Blk.numL free (Blk.numL free s l) m
  | [], m, s => by rw [List.nil_append]; conv => rhs; rw [Blk.numL]
  | x :: l, m, s => by rw [List.cons_append, Blk.numL, Blk.numL_app free l m, Blk.numL]
theorem Blk.numL_snoc (free : Bool) (l : List Blk) (k : Nat) (x : Blk) (s : Ns) (h : l[k]? = some x) : Blk.numL free s (l.take (k + 1)) = x.num free (Blk.numL free s (l.take k)) := by
  rw [List.take_add_one, h, Blk.numL_app]
  simp [Blk.numL]
end Go.Proofs.YtlbioncagkkkoaaDoor
