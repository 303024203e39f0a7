/- Plain part: the errors of layer 4: what is not well-formed in inlines and blocks. Plain part: merged inlines: what Merge returns; it keeps the plain text, and changes nothing the second time, nor a line without errors. Plain part: groups of texts in Merge. -/
import Derived.Test.YtjobjicdfoklpaaGreatDoorRFoldR
import Derived.Test.YtjobjicdfoklpaaGreatDoorName
import Derived.Test.YtjobjicdfoklpaaGreatDoorWeight
import Derived.Test.YtjobjicdfoklpaaGreatDoorBd
import Derived.Test.YtjobjicdfoklpaaGreatDoorRPlain
namespace Go.Proofs.YtjobjicdfoklpaaGreatDoor
set_option linter.unusedVariables false
set_option linter.unusedSimpArgs false

/-- May clean text have this sequence? -/
def okPt (p : Nat × Nat) : Bool := (decide (p.1 = 10) || (decide (32 ≤ p.1) && !decide (p.1 = 127))) && !(decide (p.1 = 65533) && decide (p.2 = 1))
def validS (s : ByteArray) : Bool := (pts s).all okPt
def noLF (s : ByteArray) : Bool := s.data.toList.all fun c => !decide (c = 10)
def lineS (s : ByteArray) : Bool := validS s && noLF s
def trimS (s : ByteArray) : Bool := decide (s.data.toList = []) || (!decide (s.data.toList.head? = some 32) && !decide (s.data.toList.getLast? = some 32))
def hasAny (s : ByteArray) (bs : List UInt8) : Bool := s.data.toList.any fun c => bs.contains c
def labPt (p : Nat × Nat) : Bool := letterC p.1 || digC p.1 || [32, 45, 95, 46, 58].contains p.1
def labelS (s : ByteArray) : Bool := decide (1 ≤ s.size) && decide (s.size ≤ 60) && decide (foldS s = s) && (pts s).all labPt
def emptyS (s : ByteArray) : Bool := decide (s.data.toList = [])

def At.none (a : At) : Bool := emptyS a.id && a.cls.isEmpty && a.prs.isEmpty
def clsErr (seen : List ByteArray) : List ByteArray → Nat
  | [] => 0
  | c :: l => if nameOk c = false then 6 else if hasB seen c = true then 7 else clsErr (seen ++ [c]) l
def prsErr (seen : List ByteArray) : List Pr → Nat
  | [] => 0
  | p :: l => if nameOk p.key = false then 6 else if lineS p.val = false then 17 else if hasB seen p.key = true then 7 else prsErr (seen ++ [p.key]) l
def At.err (a : At) : Nat :=
  if emptyS a.id = false ∧ nameOk a.id = false then 6
  else if clsErr [] a.cls ≠ 0 then clsErr [] a.cls
  else if prsErr [] a.prs ≠ 0 then prsErr [] a.prs
  else if 32 < a.cls.length ∨ 32 < a.prs.length then 3 else 0

mutual
/-- Is there an inline of one of the kinds, at any depth? -/
def Inl.anyK (ks : List Int) : Inl → Bool
  | .mk k _ _ _ _ _ _ kids => ks.contains k || Inl.anyL ks kids
def Inl.anyL (ks : List Int) : List Inl → Bool
  | [] => false
  | x :: l => x.anyK ks || Inl.anyL ks l
end
def refKinds : List Int := [9, 16, 12, 14, 13]
def brkKinds : List Int := [2, 3]
def inFields (k : Int) (t d ti : ByteArray) (a : At) (ar : List ByteArray) (ci : List Ci) (ks : List Inl) : Bool :=
  decide (1 ≤ k) && decide (k ≤ 16) && (([1, 4, 5, 9, 10, 12, 14, 15] : List Int).contains k || emptyS t) && (([9, 10, 16] : List Int).contains k || emptyS d) && (([9, 10, 14] : List Int).contains k || emptyS ti) &&
  (([10, 11] : List Int).contains k || a.none) && (([6, 7, 8, 9, 10, 11] : List Int).contains k || ks.isEmpty) && (decide (k = 15) || ar.isEmpty) && (decide (k = 13) || ci.isEmpty)
def ltrRun (s : ByteArray) : Nat := (s.data.toList.takeWhile fun c => ltrC c.toNat).length
def autoS (s : ByteArray) : Bool := decide (2 ≤ ltrRun s) && decide (ltrRun s ≤ 20) && decide (s.data.toList[ltrRun s]? = some 58) && lineS s && !hasAny s [32, 60, 62]
def citBad (s : ByteArray) : Bool := !lineS s || !trimS s || hasAny s [91, 93, 59, 64, 123, 36, 96]
def cisErr : List Ci → Nat
  | [] => 0
  | c :: l => if nameOk c.key = false then 6 else if citBad c.pre = true ∨ citBad c.suf = true then 17 else cisErr l
def citesErr (l : List Ci) : Nat := if l.isEmpty = true then 8 else cisErr l
def targetErr (k : Int) (t d ti : ByteArray) (a : At) (ks : List Inl) : Nat :=
  if emptyS t = false ∧ (emptyS d = false ∨ emptyS ti = false) then 5
  else if emptyS t = false ∧ labelS t = false then 6
  else if lineS d = false ∨ lineS ti = false then 17
  else if k = 9 ∧ Inl.anyL refKinds ks = true then 5
  else if k = 10 then a.err else 0
def argBad (s : ByteArray) : Bool := !lineS s || hasAny s [124, 123, 125]
def pageL : List UInt8 := [112, 97, 103, 101]
def namedErr (k : Int) (t ti : ByteArray) (ar : List ByteArray) : Nat :=
  if nameOk t = false then 6
  else if k = 14 ∧ emptyS ti = false ∧ ti.data.toList ≠ pageL then 5
  else if 8 < ar.length then 3
  else if ar.any argBad then 17 else 0
def oneErr (before : Int) (first last : Bool) (k : Int) (t d ti : ByteArray) (a : At) (ar : List ByteArray) (ci : List Ci) (ks : List Inl) : Nat :=
  if inFields k t d ti a ar ci ks = false then 5
  else if k = 1 ∨ k = 4 ∨ k = 5 then (if emptyS t = true ∨ lineS t = false then 17 else if k ≠ 5 ∧ before = k then 5 else 0)
  else if k = 2 then (if before = 2 ∨ before = 3 ∨ first = true ∨ last = true then 5 else 0)
  else if k = 3 then (if last = true then 5 else 0)
  else if k = 6 ∨ k = 7 ∨ k = 8 then (if ks.isEmpty = true then 8 else 0)
  else if k = 9 ∨ k = 10 then targetErr k t d ti a ks
  else if k = 11 then (if a.none = true then 8 else a.err)
  else if k = 12 ∨ k = 14 ∨ k = 15 then namedErr k t ti ar
  else if k = 13 then citesErr ci
  else if autoS d = true then 0 else 5
def Inl.kd : Inl → Int
  | .mk k _ _ _ _ _ _ _ => k
mutual
/-- The first error of an inline that lies in dp others, and of those in it. -/
def Inl.err (before : Int) (first last : Bool) (dp : Nat) : Inl → Nat
  | .mk k t d ti a ar ci ks => if oneErr before first last k t d ti a ar ci ks ≠ 0 then oneErr before first last k t d ti a ar ci ks else Inl.errL 0 true (dp + 1) ks
/-- The first error of the rest of a list: before: the kind of the element before it; st: is it the whole list? -/
def Inl.errL (before : Int) (st : Bool) (dp : Nat) : List Inl → Nat
  | [] => 0
  | x :: l => if 15 < dp then 11 else if x.err before (decide (dp = 0) && st) (decide (dp = 0) && l.isEmpty) dp ≠ 0 then x.err before (decide (dp = 0) && st) (decide (dp = 0) && l.isEmpty) dp
      else Inl.errL x.kd false dp l
end
def lineErr (l : List Inl) : Nat := Inl.errL 0 true 0 l

def blFields (k lv : Int) (i t d ti : ByteArray) (a : At) (li : List Inl) (ks : List Blk) : Bool :=
  decide (1 ≤ k) && decide (k ≤ 15) && (([2, 8] : List Int).contains k || decide (lv = 0)) && (([3, 10, 13, 14, 15] : List Int).contains k || emptyS i) && (([3, 4] : List Int).contains k || emptyS t) &&
  (decide (k = 15) || (emptyS d && emptyS ti)) && (([2, 4, 13] : List Int).contains k || a.none) && (([1, 2, 12] : List Int).contains k || li.isEmpty) && (([6, 7, 8, 9, 10, 11, 13, 14] : List Int).contains k || ks.isEmpty)
def placeB (k par : Int) : Bool :=
  if par = 7 ∨ par = 8 then decide (k = 9) else if par = 10 then decide (k = 11) else if par = 11 then decide (k = 12) else !([9, 11, 12] : List Int).contains k
def bodyS (s : ByteArray) : Bool := emptyS s || (validS s && decide (s.data.toList.getLast? = some 10))
def Blk.kidN : Blk → Nat
  | .mk _ _ _ _ _ _ _ _ ks => ks.length
def tableErr (i : ByteArray) (ks : List Blk) : Nat :=
  if 32 < i.size then 3 else if emptyS i = true then 5 else if i.data.toList.any (fun c => !([45, 108, 99, 114] : List UInt8).contains c) then 5
  else if ks.isEmpty = true then 8 else if ks.any (fun b => !decide (b.kidN = i.size)) then 15 else 0
def itsErr (cl : ByteArray → Bool) (k lv : Int) (i t d ti : ByteArray) (a : At) (li : List Inl) (ks : List Blk) : Nat :=
  if k = 1 then (if li.isEmpty = true then 8 else lineErr li)
  else if k = 2 then (if lv < 1 ∨ 6 < lv then 9 else if a.err ≠ 0 then a.err else if Inl.anyL brkKinds li = true then 5 else lineErr li)
  else if k = 12 then (if Inl.anyL brkKinds li = true then 5 else lineErr li)
  else if k = 3 then (if lineS i = false ∨ trimS i = false ∨ bodyS t = false then 17 else 0)
  else if k = 4 then (if bodyS t = false then 17 else if cl t = true then 5 else a.err)
  else if k = 7 ∨ k = 8 then (if ks.isEmpty = true then 8 else if k = 8 ∧ (lv < 0 ∨ 999999999 < lv) then 9 else 0)
  else if k = 10 then tableErr i ks
  else if k = 13 ∨ k = 14 then (if nameOk i = false then 6 else a.err)
  else if k = 15 then (if labelS i = false then 6 else if lineS d = false ∨ lineS ti = false then 17 else 0)
  else 0
mutual
/-- The first error of a block in one of the kind par, in dp others, and of those in it. -/
def Blk.err (cl : ByteArray → Bool) (par : Int) (dp : Nat) : Blk → Nat
  | .mk k lv i t d ti a li ks => if 15 < dp then 11 else if blFields k lv i t d ti a li ks = false ∨ placeB k par = false then 5
      else if itsErr cl k lv i t d ti a li ks ≠ 0 then itsErr cl k lv i t d ti a li ks else Blk.errL cl k (dp + 1) ks
def Blk.errL (cl : ByteArray → Bool) (par : Int) (dp : Nat) : List Blk → Nat
  | [] => 0
  | x :: l => if x.err cl par dp ≠ 0 then x.err cl par dp else Blk.errL cl par dp l
end
def metErr (seen : List ByteArray) : List Pr → Nat
  | [] => 0
  | p :: l => if nameOk p.key = false then 6 else if lineS p.val = false ∨ trimS p.val = false then 17 else if hasB seen p.key = true then 7 else metErr (seen ++ [p.key]) l
end Go.Proofs.YtjobjicdfoklpaaGreatDoor

namespace Go.Proofs.YtjobjicdfoklpaaGreatDoor
set_option linter.unusedVariables false
set_option linter.unusedSimpArgs false

def Inl.tx : Inl → ByteArray
  | .mk _ t _ _ _ _ _ _ => t
def Inl.setTx : Inl → ByteArray → Inl
  | .mk k _ d ti a ar ci ks, t => .mk k t d ti a ar ci ks
/-- A text joined to the last text, an empty one left out, all else appended. -/
def addM (out : List Inl) (x : Inl) : List Inl :=
  if x.kd = 1 then
    if emptyS x.tx = true then out
    else match out.getLast? with
      | some y => if y.kd = 1 then out.dropLast ++ [y.setTx (y.tx ++ x.tx)] else out ++ [x]
      | none => out ++ [x]
  else out ++ [x]
mutual
def Inl.mergeX : Inl → Inl
  | .mk k t d ti a ar ci ks => .mk k t d ti a ar ci (Inl.mergeA [] ks)
def Inl.mergeA (out : List Inl) : List Inl → List Inl
  | [] => out
  | x :: l => Inl.mergeA (addM out x.mergeX) l
end
def Inl.mergeL (l : List Inl) : List Inl := Inl.mergeA [] l
theorem Inl.mergeX_kd (x : Inl) : x.mergeX.kd = x.kd := by cases x; rw [Inl.mergeX]; rfl
theorem Inl.mergeX_tx (x : Inl) : x.mergeX.tx = x.tx := by cases x; rw [Inl.mergeX]; rfl
theorem Inl.mergeA_app : ∀ (l m out : List Inl), Inl.mergeA out (l ++ m) = Inl.mergeA (Inl.mergeA out l) m
  | [], m, out => by rw [List.nil_append]; conv => rhs; rw [Inl.mergeA]
  | x :: l, m, out => by rw [List.cons_append, Inl.mergeA, Inl.mergeA_app l m, Inl.mergeA]
theorem Inl.mergeA_snoc (l : List Inl) (k : Nat) (x : Inl) (out : List Inl) (h : l[k]? = some x) : Inl.mergeA out (l.take (k + 1)) = addM (Inl.mergeA out (l.take k)) x.mergeX := by
  rw [List.take_add_one, h, Inl.mergeA_app]
  simp [Inl.mergeA]
theorem last_split {α : Type} {l : List α} {y : α} (h : l.getLast? = some y) : l = l.dropLast ++ [y] := by
  obtain ⟨ys, rfl⟩ := List.getLast?_eq_some_iff.1 h
  simp

/-- The plain text. -/
theorem plain_text (x : Inl) (h : x.kd = 1) : x.plain = x.tx.data.toList := by
  cases x with
  | mk k t d ti a ar ci ks =>
    have h : k = 1 := h
    subst h
    rw [Inl.plain]; rfl
theorem plainL_addM (out : List Inl) (x : Inl) : Inl.plainL (addM out x) = Inl.plainL out ++ x.plain := by
  have one : ∀ y : Inl, Inl.plainL [y] = y.plain := fun y => by rw [Inl.plainL, Inl.plainL, List.append_nil]
  unfold addM
  by_cases h1 : x.kd = 1
  · rw [if_pos h1]
    by_cases h2 : emptyS x.tx = true
    · rw [if_pos h2, plain_text x h1]
      have : x.tx.data.toList = [] := by simpa [emptyS] using h2
      rw [this, List.append_nil]
    · rw [if_neg h2]
      cases hl : out.getLast? with
      | none => simp only; rw [Inl.plainL_app, one]
      | some y =>
        simp only
        by_cases h3 : y.kd = 1
        · rw [if_pos h3]
          conv => rhs; rw [last_split hl]
          rw [Inl.plainL_app, Inl.plainL_app, one, one, plain_text y h3, plain_text x h1, plain_text _ (by cases y; exact h3), List.append_assoc]
          congr 1
          cases y
          simp [Inl.setTx, Inl.tx]
        · rw [if_neg h3, Inl.plainL_app, one]
  · rw [if_neg h1, Inl.plainL_app, one]
mutual
theorem Inl.plain_mergeX : ∀ (x : Inl), x.mergeX.plain = x.plain
  | .mk k t d ti a ar ci ks => by
    have h := Inl.plain_mergeA ks []
    rw [Inl.plainL, List.nil_append] at h
    rw [Inl.mergeX, Inl.plain, Inl.plain, h]
theorem Inl.plain_mergeA : ∀ (l out : List Inl), Inl.plainL (Inl.mergeA out l) = Inl.plainL out ++ Inl.plainL l
  | [], out => by rw [Inl.mergeA, Inl.plainL, List.append_nil]
  | x :: l, out => by rw [Inl.mergeA, Inl.plain_mergeA l, plainL_addM, Inl.plain_mergeX x, Inl.plainL, List.append_assoc]
end
theorem Inl.plain_mergeL (l : List Inl) : Inl.plainL (Inl.mergeL l) = Inl.plainL l := by
  have h := Inl.plain_mergeA l []
  rw [Inl.plainL, List.nil_append] at h
  exact h

mutual
/-- Merged inlines: no empty text, no two neighbouring texts, at any depth. -/
def Inl.nf : Inl → Prop
  | .mk _ _ _ _ _ _ _ ks => Inl.nfL false ks
def Inl.nfL (p : Bool) : List Inl → Prop
  | [] => True
  | x :: l => x.nf ∧ (x.kd = 1 → emptyS x.tx = false ∧ p = false) ∧ Inl.nfL (decide (x.kd = 1)) l
end
def last1 (p : Bool) (l : List Inl) : Bool := match l.getLast? with | some x => decide (x.kd = 1) | none => p
theorem last1_cons (p : Bool) (x : Inl) (l : List Inl) : last1 p (x :: l) = last1 (decide (x.kd = 1)) l := by
  unfold last1
  cases l with
  | nil => rfl
  | cons y l => rw [List.getLast?_cons_cons]; cases h : (y :: l).getLast? with
    | none => simp at h
    | some z => rfl
theorem Inl.nfL_snoc : ∀ (l : List Inl) (p : Bool) (x : Inl), Inl.nfL p (l ++ [x]) ↔ Inl.nfL p l ∧ x.nf ∧ (x.kd = 1 → emptyS x.tx = false ∧ last1 p l = false)
  | [], p, x => by rw [List.nil_append, Inl.nfL, Inl.nfL, Inl.nfL]; simp [last1]
  | y :: l, p, x => by
    rw [List.cons_append, Inl.nfL, Inl.nfL, Inl.nfL_snoc l, last1_cons]
    constructor
    · rintro ⟨h1, h2, h3, h4, h5⟩; exact ⟨⟨h1, h2, h3⟩, h4, h5⟩
    · rintro ⟨⟨h1, h2, h3⟩, h4, h5⟩; exact ⟨h1, h2, h3, h4, h5⟩
theorem nf_setTx (x : Inl) (t : ByteArray) (h : x.nf) : (x.setTx t).nf := by cases x; unfold Inl.setTx; unfold Inl.nf at h ⊢; exact h
theorem empty_app (a b : ByteArray) (h : emptyS a = false) : emptyS (a ++ b) = false := by
  unfold emptyS at h ⊢
  simp at h ⊢
  intro e
  exact absurd e h
theorem nf_addM (out : List Inl) (x : Inl) (ho : Inl.nfL false out) (hx : x.nf) : Inl.nfL false (addM out x) := by
  unfold addM
  by_cases h1 : x.kd = 1
  · rw [if_pos h1]
    by_cases h2 : emptyS x.tx = true
    · rw [if_pos h2]; exact ho
    · rw [if_neg h2]
      have h2 : emptyS x.tx = false := by simpa using h2
      cases hl : out.getLast? with
      | none =>
        simp only
        exact (Inl.nfL_snoc out false x).2 ⟨ho, hx, fun _ => ⟨h2, by unfold last1; rw [hl]⟩⟩
      | some y =>
        simp only
        by_cases h3 : y.kd = 1
        · rw [if_pos h3]
          rw [last_split hl] at ho
          obtain ⟨k1, k2, k3⟩ := (Inl.nfL_snoc _ _ _).1 ho
          refine (Inl.nfL_snoc _ _ _).2 ⟨k1, nf_setTx y _ k2, fun _ => ⟨?_, (k3 h3).2⟩⟩
          have : (y.setTx (y.tx ++ x.tx)).tx = y.tx ++ x.tx := by cases y; rfl
          rw [this]
          exact empty_app _ _ (k3 h3).1
        · rw [if_neg h3]
          exact (Inl.nfL_snoc out false x).2 ⟨ho, hx, fun _ => ⟨h2, by unfold last1; rw [hl]; simpa using h3⟩⟩
  · rw [if_neg h1]
    exact (Inl.nfL_snoc out false x).2 ⟨ho, hx, fun h => absurd h h1⟩
mutual
theorem Inl.nf_mergeX : ∀ (x : Inl), x.mergeX.nf
  | .mk k t d ti a ar ci ks => by rw [Inl.mergeX]; unfold Inl.nf; exact Inl.nf_mergeA ks [] (by unfold Inl.nfL; trivial)
theorem Inl.nf_mergeA : ∀ (l out : List Inl), Inl.nfL false out → Inl.nfL false (Inl.mergeA out l)
  | [], out, h => by rw [Inl.mergeA]; exact h
  | x :: l, out, h => by rw [Inl.mergeA]; exact Inl.nf_mergeA l _ (nf_addM out _ h (Inl.nf_mergeX x))
end
mutual
theorem Inl.mergeX_nf : ∀ (x : Inl), x.nf → x.mergeX = x
  | .mk k t d ti a ar ci ks, h => by
    unfold Inl.nf at h
    rw [Inl.mergeX, Inl.mergeA_nf ks [] h, List.nil_append]
theorem Inl.mergeA_nf : ∀ (l out : List Inl), Inl.nfL (last1 false out) l → Inl.mergeA out l = out ++ l
  | [], out, h => by rw [Inl.mergeA, List.append_nil]
  | x :: l, out, h => by
    unfold Inl.nfL at h
    obtain ⟨h1, h2, h3⟩ := h
    rw [Inl.mergeA, Inl.mergeX_nf x h1]
    have e : addM out x = out ++ [x] := by
      unfold addM
      by_cases k1 : x.kd = 1
      · obtain ⟨k2, k3⟩ := h2 k1
        rw [if_pos k1, if_neg (by simp [k2])]
        unfold last1 at k3
        cases hl : out.getLast? with
        | none => rfl
        | some y =>
          rw [hl] at k3
          simp only at k3 ⊢
          rw [if_neg (by simpa using k3)]
      · rw [if_neg k1]
    rw [e, Inl.mergeA_nf l _ (by have : last1 false (out ++ [x]) = decide (x.kd = 1) := by { unfold last1; rw [List.getLast?_append]; rfl }
                                 rw [this]; exact h3), List.append_assoc]
    rfl
end
theorem Inl.merge_twice (l : List Inl) : Inl.mergeL (Inl.mergeL l) = Inl.mergeL l := by
  have h := Inl.mergeA_nf (Inl.mergeL l) [] (Inl.nf_mergeA l [] (by unfold Inl.nfL; trivial))
  rwa [List.nil_append] at h
/-- A line without errors is merged. -/
theorem one_text {before : Int} {first last : Bool} {k : Int} {t d ti : ByteArray} {a : At} {ar : List ByteArray} {ci : List Ci} {ks : List Inl} (h : oneErr before first last k t d ti a ar ci ks = 0) (hk : k = 1) : emptyS t = false ∧ before ≠ 1 := by
  subst hk
  unfold oneErr at h
  by_cases h1 : inFields 1 t d ti a ar ci ks = false
  · rw [if_pos h1] at h; cases h
  · rw [if_neg h1, if_pos (by simp)] at h
    by_cases h2 : emptyS t = true ∨ lineS t = false
    · rw [if_pos h2] at h; cases h
    · rw [if_neg h2] at h
      by_cases h3 : (1 : Int) ≠ 5 ∧ before = 1
      · rw [if_pos h3] at h; cases h
      · refine ⟨?_, fun e => h3 ⟨by decide, e⟩⟩
        cases e : emptyS t with
        | false => rfl
        | true => exact absurd (.inl e) h2
mutual
theorem Inl.nf_err : ∀ (x : Inl) (before : Int) (first last : Bool) (dp : Nat), x.err before first last dp = 0 → x.nf ∧ (x.kd = 1 → emptyS x.tx = false ∧ before ≠ 1)
  | .mk k t d ti a ar ci ks, before, first, last, dp, h => by
    rw [Inl.err] at h
    by_cases h1 : oneErr before first last k t d ti a ar ci ks = 0
    · rw [if_neg (by simpa using h1)] at h
      refine ⟨?_, fun hk => one_text h1 hk⟩
      unfold Inl.nf
      exact Inl.nfL_err ks 0 true (dp + 1) h false (by simp)
    · rw [if_pos h1] at h; exact absurd h h1
theorem Inl.nfL_err : ∀ (l : List Inl) (before : Int) (st : Bool) (dp : Nat), Inl.errL before st dp l = 0 → ∀ p : Bool, (p = true → before = 1) → Inl.nfL p l
  | [], _, _, _, _, _, _ => by unfold Inl.nfL; trivial
  | x :: l, before, st, dp, h, p, hp => by
    rw [Inl.errL] at h
    by_cases h0 : 15 < dp
    · rw [if_pos h0] at h; cases h
    · rw [if_neg h0] at h
      by_cases h1 : x.err before (decide (dp = 0) && st) (decide (dp = 0) && l.isEmpty) dp = 0
      · rw [if_neg (by simpa using h1)] at h
        obtain ⟨k1, k2⟩ := Inl.nf_err x _ _ _ _ h1
        unfold Inl.nfL
        refine ⟨k1, fun hk => ⟨(k2 hk).1, ?_⟩, Inl.nfL_err l _ _ _ h _ (fun e => by simpa using e)⟩
        cases p with
        | false => rfl
        | true => exact absurd (hp rfl) (k2 hk).2
      · rw [if_pos h1] at h; exact absurd h h1
end
theorem Inl.merge_ok (l : List Inl) (h : lineErr l = 0) : Inl.mergeL l = l := by
  have := Inl.mergeA_nf l [] (Inl.nfL_err l 0 true 0 h _ (by simp [last1]))
  rwa [List.nil_append] at this
end Go.Proofs.YtjobjicdfoklpaaGreatDoor

namespace Go.Proofs.YtjobjicdfoklpaaGreatDoor
set_option linter.unusedVariables false
set_option linter.unusedSimpArgs false

theorem Inl.set_set (x : Inl) (a b : ByteArray) : (x.setTx a).setTx b = x.setTx b := by cases x; rfl
theorem Inl.set_tx (x : Inl) (a : ByteArray) : (x.setTx a).tx = a := by cases x; rfl
theorem Inl.set_kd (x : Inl) (a : ByteArray) : (x.setTx a).kd = x.kd := by cases x; rfl
theorem Inl.set_self (x : Inl) : x.setTx x.tx = x := by cases x; rfl
theorem addM_not (out : List Inl) (x : Inl) (h : x.kd ≠ 1) : addM out x = out ++ [x] := by unfold addM; rw [if_neg h]
theorem addM_empty (out : List Inl) (x : Inl) (h : x.kd = 1) (h2 : emptyS x.tx = true) : addM out x = out := by unfold addM; rw [if_pos h, if_pos h2]
theorem addM_first (out : List Inl) (x : Inl) (h : x.kd = 1) (h2 : emptyS x.tx = false) (hl : ∀ y, out.getLast? = some y → y.kd ≠ 1) : addM out x = out ++ [x] := by
  unfold addM
  rw [if_pos h, if_neg (by rw [h2]; decide)]
  cases hl2 : out.getLast? with
  | none => rfl
  | some y => simp only; rw [if_neg (hl y hl2)]
theorem addM_join (out : List Inl) (f x : Inl) (hf : f.kd = 1) (h : x.kd = 1) (h2 : emptyS x.tx = false) : addM (out ++ [f]) x = out ++ [f.setTx (f.tx ++ x.tx)] := by
  unfold addM
  rw [if_pos h, if_neg (by rw [h2]; decide)]
  simp [hf]

/-- Within a group of texts: the first one that is not empty, and what has been written. -/
def Grp (l out : List Inl) (j : Nat) (fi : Int) (c : ByteArray) : Prop :=
  (fi = -1 ∧ Inl.mergeL (l.take j) = out ∧ c.data.toList = []) ∨
  ∃ f : Nat, fi = f ∧ f < j ∧ ∃ x, l[f]? = some x ∧ x.kd = 1 ∧ Inl.mergeL (l.take j) = out ++ [x.mergeX.setTx c] ∧ c.data.toList ≠ []
theorem Grp.start (l : List Inl) (k : Nat) : Grp l (Inl.mergeL (l.take k)) k (-1) ⟨#[]⟩ := .inl ⟨rfl, rfl, rfl⟩
theorem mergeL_snoc {l : List Inl} {k : Nat} {x : Inl} (h : l[k]? = some x) : Inl.mergeL (l.take (k + 1)) = addM (Inl.mergeL (l.take k)) x.mergeX := Inl.mergeA_snoc l k x [] h
theorem empty_bytes {t : ByteArray} (h : emptyS t = true) : t.data.toList = [] := by simpa [emptyS] using h
theorem app_empty {c t : ByteArray} (h : emptyS t = true) : c ++ t = c := by
  have := empty_bytes h
  apply ByteArray.ext
  rw [ByteArray.data_append]
  apply Array.toList_inj.1
  rw [Array.toList_append, this, List.append_nil]
theorem nil_app0 {c t : ByteArray} (h : c.data.toList = []) : c ++ t = t := by
  apply ByteArray.ext
  rw [ByteArray.data_append]
  apply Array.toList_inj.1
  rw [Array.toList_append, h, List.nil_append]
theorem app_ne {c t : ByteArray} (h : emptyS t = false) : (c ++ t).data.toList ≠ [] := by
  rw [ByteArray.data_append, Array.toList_append]
  intro e
  have := (List.append_eq_nil_iff.1 e).2
  simp [emptyS, this] at h
theorem Grp.skip {l out : List Inl} {j : Nat} {fi : Int} {c : ByteArray} {x : Inl} (h : Grp l out j fi c) (hx : l[j]? = some x) (h1 : x.kd = 1) (h2 : emptyS x.tx = true) : Grp l out (j + 1) fi (c ++ x.tx) := by
  have hm : Inl.mergeL (l.take (j + 1)) = Inl.mergeL (l.take j) := by
    rw [mergeL_snoc hx, addM_empty _ _ (by rw [Inl.mergeX_kd]; exact h1) (by rw [Inl.mergeX_tx]; exact h2)]
  rw [app_empty h2]
  rcases h with ⟨h3, h4, h5⟩ | ⟨f, h3, h4, y, h5, h6, h7, h8⟩
  · exact .inl ⟨h3, by rw [hm]; exact h4, h5⟩
  · exact .inr ⟨f, h3, by omega, y, h5, h6, by rw [hm]; exact h7, h8⟩
theorem Grp.first {l out : List Inl} {j : Nat} {c : ByteArray} {x : Inl} (h : Grp l out j (-1) c) (hx : l[j]? = some x) (h1 : x.kd = 1) (h2 : emptyS x.tx = false) (hl : ∀ y, out.getLast? = some y → y.kd ≠ 1) : Grp l out (j + 1) j (c ++ x.tx) := by
  rcases h with ⟨-, h4, h5⟩ | ⟨f, h3, -⟩
  · refine .inr ⟨j, rfl, by omega, x, hx, h1, ?_, app_ne h2⟩
    rw [mergeL_snoc hx, h4, addM_first _ _ (by rw [Inl.mergeX_kd]; exact h1) (by rw [Inl.mergeX_tx]; exact h2) hl, nil_app0 h5, ← Inl.mergeX_tx, Inl.set_self]
  · omega
theorem Grp.more {l out : List Inl} {j f : Nat} {c : ByteArray} {x : Inl} (h : Grp l out j (f : Nat) c) (hx : l[j]? = some x) (h1 : x.kd = 1) (h2 : emptyS x.tx = false) : Grp l out (j + 1) (f : Nat) (c ++ x.tx) := by
  rcases h with ⟨h3, -⟩ | ⟨g, h3, h4, y, h5, h6, h7, -⟩
  · omega
  · refine .inr ⟨g, h3, by omega, y, h5, h6, ?_, app_ne h2⟩
    rw [mergeL_snoc hx, h7, addM_join _ _ _ (by rw [Inl.set_kd, Inl.mergeX_kd]; exact h6) (by rw [Inl.mergeX_kd]; exact h1) (by rw [Inl.mergeX_tx]; exact h2), Inl.set_set, Inl.set_tx, Inl.mergeX_tx]
/-- At the head of the outer loop: no text behind a text. -/
def Edge (l out : List Inl) (k : Nat) : Prop := ∀ x, l[k]? = some x → x.kd = 1 → ∀ y, out.getLast? = some y → y.kd ≠ 1
theorem Edge.zero (l : List Inl) : Edge l [] 0 := fun _ _ _ _ h => by simp at h
theorem Edge.one {l out : List Inl} {k : Nat} {x : Inl} (h : x.kd ≠ 1) : Edge l (out ++ [x]) k := fun _ _ _ y hy => by simp at hy; rw [← hy]; exact h
theorem Edge.stop {l out : List Inl} {k : Nat} (h : ∀ x, l[k]? = some x → x.kd ≠ 1) : Edge l out k := fun x hx h1 => absurd h1 (h x hx)
theorem addM_len (out : List Inl) (x : Inl) : (addM out x).length ≤ out.length + 1 := by
  unfold addM
  split
  · split
    · exact Nat.le_succ _
    · split
      · split
        · simp only [List.length_append, List.length_dropLast, List.length_cons, List.length_nil]; omega
        · simp
      · simp
  · simp
theorem mergeA_len : ∀ (l out : List Inl), (Inl.mergeA out l).length ≤ out.length + l.length
  | [], out => by rw [Inl.mergeA]; simp
  | x :: l, out => by rw [Inl.mergeA]; have h1 := mergeA_len l (addM out x.mergeX); have h2 := addM_len out x.mergeX; simp; omega
end Go.Proofs.YtjobjicdfoklpaaGreatDoor
