/- Plain part: the errors of layer 4: what is not well-formed in inlines and blocks. Plain part: merged inlines: what Merge returns; it keeps the plain text, and changes nothing the second time, nor a line without errors. Plain part: groups of texts in Merge. Plain part: entry lines, as the program and as the reference make them. Plain part: attributes in braces, read off a list of bytes; what is read does not depend on what stands behind the closing brace. -/
import Derived.Test.YtlbioncagkkkoaaGreatDoorKRFoldR
import Derived.Test.YtlbioncagkkkoaaGreatDoorKName
import Derived.Test.YtlbioncagkkkoaaGreatDoorKSame
import Derived.Test.YtlbioncagkkkoaaGreatDoorKTcM
namespace Go.Proofs.YtlbioncagkkkoaaGreatDoor
set_option linter.unusedVariables false
set_option linter.unusedSimpArgs false

/-- May clean text have this sequence? -/
def okPt (p : Nat × Nat) : Bool := (decide (p.1 = 10) || (decide (32 ≤ p.1) && !decide (p.1 = 127))) && !(decide (p.1 = 65533) && decide (p.2 = 1))
def validS (s : ByteArray) : Bool := (pts s).all okPt
def noLF (s : ByteArray) : Bool := s.data.toList.all fun c => !decide (c = 10)
def lineS (s : ByteArray) : Bool := validS s && noLF s
def trimS (s : ByteArray) : Bool := decide (s.data.toList = []) || (!decide (s.data.toList.head? = some 32) && !decide (s.data.toList.getLast? = some 32))
def hasAny (s : ByteArray) (bs : List UInt8) : Bool := s.data.toList.any fun c => bs.contains c
def labPt (p : Nat × Nat) : Bool := letterC p.1 || digC p.1 || [32, 45, 95, 46, 58].contains p.1
def labelS (s : ByteArray) : Bool := decide (1 ≤ s.size) && decide (s.size ≤ 60) && decide (foldS s = s) && (pts s).all labPt
def emptyS (s : ByteArray) : Bool := decide (s.data.toList = [])

def At.none (a : At) : Bool := emptyS a.id && a.cls.isEmpty && a.prs.isEmpty
def clsErr (seen : List ByteArray) : List ByteArray → Nat
  | [] => 0
  | c :: l => if nameOk c = false then 6 else if hasB seen c = true then 7 else clsErr (seen ++ [c]) l
def prsErr (seen : List ByteArray) : List Pr → Nat
  | [] => 0
  | p :: l => if nameOk p.key = false then 6 else if lineS p.val = false then 17 else if hasB seen p.key = true then 7 else prsErr (seen ++ [p.key]) l
def At.err (a : At) : Nat :=
  if emptyS a.id = false ∧ nameOk a.id = false then 6
  else if clsErr [] a.cls ≠ 0 then clsErr [] a.cls
  else if prsErr [] a.prs ≠ 0 then prsErr [] a.prs
  else if 32 < a.cls.length ∨ 32 < a.prs.length then 3 else 0

mutual
/-- Is there an inline of one of the kinds, at any depth? -/
def Inl.anyK (ks : List Int) : Inl → Bool
  | .mk k _ _ _ _ _ _ kids => ks.contains k || Inl.anyL ks kids
def Inl.anyL (ks : List Int) : List Inl → Bool
  | [] => false
  | x :: l => x.anyK ks || Inl.anyL ks l
end
def refKinds : List Int := [9, 16, 12, 14, 13]
def brkKinds : List Int := [2, 3]
def inFields (k : Int) (t d ti : ByteArray) (a : At) (ar : List ByteArray) (ci : List Ci) (ks : List Inl) : Bool :=
  decide (1 ≤ k) && decide (k ≤ 16) && (([1, 4, 5, 9, 10, 12, 14, 15] : List Int).contains k || emptyS t) && (([9, 10, 16] : List Int).contains k || emptyS d) && (([9, 10, 14] : List Int).contains k || emptyS ti) &&
  (([10, 11] : List Int).contains k || a.none) && (([6, 7, 8, 9, 10, 11] : List Int).contains k || ks.isEmpty) && (decide (k = 15) || ar.isEmpty) && (decide (k = 13) || ci.isEmpty)
def ltrRun (s : ByteArray) : Nat := (s.data.toList.takeWhile fun c => ltrC c.toNat).length
def autoS (s : ByteArray) : Bool := decide (2 ≤ ltrRun s) && decide (ltrRun s ≤ 20) && decide (s.data.toList[ltrRun s]? = some 58) && lineS s && !hasAny s [32, 60, 62]
def citBad (s : ByteArray) : Bool := !lineS s || !trimS s || hasAny s [91, 93, 59, 64, 123, 36, 96]
def cisErr : List Ci → Nat
  | [] => 0
  | c :: l => if nameOk c.key = false then 6 else if citBad c.pre = true ∨ citBad c.suf = true then 17 else cisErr l
def citesErr (l : List Ci) : Nat := if l.isEmpty = true then 8 else cisErr l
def targetErr (k : Int) (t d ti : ByteArray) (a : At) (ks : List Inl) : Nat :=
  if emptyS t = false ∧ (emptyS d = false ∨ emptyS ti = false) then 5
  else if emptyS t = false ∧ labelS t = false then 6
  else if lineS d = false ∨ lineS ti = false then 17
  else if k = 9 ∧ Inl.anyL refKinds ks = true then 5
  else if k = 10 then a.err else 0
def argBad (s : ByteArray) : Bool := !lineS s || hasAny s [124, 123, 125]
def pageL : List UInt8 := [112, 97, 103, 101]
def namedErr (k : Int) (t ti : ByteArray) (ar : List ByteArray) : Nat :=
  if nameOk t = false then 6
  else if k = 14 ∧ emptyS ti = false ∧ ti.data.toList ≠ pageL then 5
  else if 8 < ar.length then 3
  else if ar.any argBad then 17 else 0
def oneErr (before : Int) (first last : Bool) (k : Int) (t d ti : ByteArray) (a : At) (ar : List ByteArray) (ci : List Ci) (ks : List Inl) : Nat :=
  if inFields k t d ti a ar ci ks = false then 5
  else if k = 1 ∨ k = 4 ∨ k = 5 then (if emptyS t = true ∨ lineS t = false then 17 else if k ≠ 5 ∧ before = k then 5 else 0)
  else if k = 2 then (if before = 2 ∨ before = 3 ∨ first = true ∨ last = true then 5 else 0)
  else if k = 3 then (if last = true then 5 else 0)
  else if k = 6 ∨ k = 7 ∨ k = 8 then (if ks.isEmpty = true then 8 else 0)
  else if k = 9 ∨ k = 10 then targetErr k t d ti a ks
  else if k = 11 then (if a.none = true then 8 else a.err)
  else if k = 12 ∨ k = 14 ∨ k = 15 then namedErr k t ti ar
  else if k = 13 then citesErr ci
  else if autoS d = true then 0 else 5
def Inl.kd : Inl → Int
  | .mk k _ _ _ _ _ _ _ => k
mutual
/-- The first error of an inline that lies in dp others, and of those in it. -/
def Inl.err (before : Int) (first last : Bool) (dp : Nat) : Inl → Nat
  | .mk k t d ti a ar ci ks => if oneErr before first last k t d ti a ar ci ks ≠ 0 then oneErr before first last k t d ti a ar ci ks else Inl.errL 0 true (dp + 1) ks
/-- The first error of the rest of a list: before: the kind of the element before it; st: is it the whole list? -/
def Inl.errL (before : Int) (st : Bool) (dp : Nat) : List Inl → Nat
  | [] => 0
  | x :: l => if 15 < dp then 11 else if x.err before (decide (dp = 0) && st) (decide (dp = 0) && l.isEmpty) dp ≠ 0 then x.err before (decide (dp = 0) && st) (decide (dp = 0) && l.isEmpty) dp
      else Inl.errL x.kd false dp l
end
def lineErr (l : List Inl) : Nat := Inl.errL 0 true 0 l

def blFields (k lv : Int) (i t d ti : ByteArray) (a : At) (li : List Inl) (ks : List Blk) : Bool :=
  decide (1 ≤ k) && decide (k ≤ 15) && (([2, 8] : List Int).contains k || decide (lv = 0)) && (([3, 10, 13, 14, 15] : List Int).contains k || emptyS i) && (([3, 4] : List Int).contains k || emptyS t) &&
  (decide (k = 15) || (emptyS d && emptyS ti)) && (([2, 4, 13] : List Int).contains k || a.none) && (([1, 2, 12] : List Int).contains k || li.isEmpty) && (([6, 7, 8, 9, 10, 11, 13, 14] : List Int).contains k || ks.isEmpty)
def placeB (k par : Int) : Bool :=
  if par = 7 ∨ par = 8 then decide (k = 9) else if par = 10 then decide (k = 11) else if par = 11 then decide (k = 12) else !([9, 11, 12] : List Int).contains k
def bodyS (s : ByteArray) : Bool := emptyS s || (validS s && decide (s.data.toList.getLast? = some 10))
def Blk.kidN : Blk → Nat
  | .mk _ _ _ _ _ _ _ _ ks => ks.length
def tableErr (i : ByteArray) (ks : List Blk) : Nat :=
  if 32 < i.size then 3 else if emptyS i = true then 5 else if i.data.toList.any (fun c => !([45, 108, 99, 114] : List UInt8).contains c) then 5
  else if ks.isEmpty = true then 8 else if ks.any (fun b => !decide (b.kidN = i.size)) then 15 else 0
def itsErr (cl : ByteArray → Bool) (k lv : Int) (i t d ti : ByteArray) (a : At) (li : List Inl) (ks : List Blk) : Nat :=
  if k = 1 then (if li.isEmpty = true then 8 else lineErr li)
  else if k = 2 then (if lv < 1 ∨ 6 < lv then 9 else if a.err ≠ 0 then a.err else if Inl.anyL brkKinds li = true then 5 else lineErr li)
  else if k = 12 then (if Inl.anyL brkKinds li = true then 5 else lineErr li)
  else if k = 3 then (if lineS i = false ∨ trimS i = false ∨ bodyS t = false then 17 else 0)
  else if k = 4 then (if bodyS t = false then 17 else if cl t = true then 5 else a.err)
  else if k = 7 ∨ k = 8 then (if ks.isEmpty = true then 8 else if k = 8 ∧ (lv < 0 ∨ 999999999 < lv) then 9 else 0)
  else if k = 10 then tableErr i ks
  else if k = 13 ∨ k = 14 then (if nameOk i = false then 6 else a.err)
  else if k = 15 then (if labelS i = false then 6 else if lineS d = false ∨ lineS ti = false then 17 else 0)
  else 0
mutual
/-- The first error of a block in one of the kind par, in dp others, and of those in it. -/
def Blk.err (cl : ByteArray → Bool) (par : Int) (dp : Nat) : Blk → Nat
  | .mk k lv i t d ti a li ks => if 15 < dp then 11 else if blFields k lv i t d ti a li ks = false ∨ placeB k par = false then 5
      else if itsErr cl k lv i t d ti a li ks ≠ 0 then itsErr cl k lv i t d ti a li ks else Blk.errL cl k (dp + 1) ks
def Blk.errL (cl : ByteArray → Bool) (par : Int) (dp : Nat) : List Blk → Nat
  | [] => 0
  | x :: l => if x.err cl par dp ≠ 0 then x.err cl par dp else Blk.errL cl par dp l
end
def metErr (seen : List ByteArray) : List Pr → Nat
  | [] => 0
  | p :: l => if nameOk p.key = false then 6 else if lineS p.val = false ∨ trimS p.val = false then 17 else if hasB seen p.key = true then 7 else metErr (seen ++ [p.key]) l
end Go.Proofs.YtlbioncagkkkoaaGreatDoor

namespace Go.Proofs.YtlbioncagkkkoaaGreatDoor
set_option linter.unusedVariables false
set_option linter.unusedSimpArgs false

def Inl.tx : Inl → ByteArray
  | .mk _ t _ _ _ _ _ _ => t
def Inl.setTx : Inl → ByteArray → Inl
  | .mk k _ d ti a ar ci ks, t => .mk k t d ti a ar ci ks
/-- A text joined to the last text, an empty one left out, all else appended. -/
def addM (out : List Inl) (x : Inl) : List Inl :=
  if x.kd = 1 then
    if emptyS x.tx = true then out
    else match out.getLast? with
      | some y => if y.kd = 1 then out.dropLast ++ [y.setTx (y.tx ++ x.tx)] else out ++ [x]
      | none => out ++ [x]
  else out ++ [x]
mutual
def Inl.mergeX : Inl → Inl
  | .mk k t d ti a ar ci ks => .mk k t d ti a ar ci (Inl.mergeA [] ks)
def Inl.mergeA (out : List Inl) : List Inl → List Inl
  | [] => out
  | x :: l => Inl.mergeA (addM out x.mergeX) l
end
def Inl.mergeL (l : List Inl) : List Inl := Inl.mergeA [] l
theorem Inl.mergeX_kd (x : Inl) : x.mergeX.kd = x.kd := by cases x; rw [Inl.mergeX]; rfl
theorem Inl.mergeX_tx (x : Inl) : x.mergeX.tx = x.tx := by cases x; rw [Inl.mergeX]; rfl
theorem Inl.mergeA_app : ∀ (l m out : List Inl), Inl.mergeA out (l ++ m) = Inl.mergeA (Inl.mergeA out l) m
  | [], m, out => by rw [List.nil_append]; conv => rhs; rw [Inl.mergeA]
  | x :: l, m, out => by rw [List.cons_append, Inl.mergeA, Inl.mergeA_app l m, Inl.mergeA]
theorem Inl.mergeA_snoc (l : List Inl) (k : Nat) (x : Inl) (out : List Inl) (h : l[k]? = some x) : Inl.mergeA out (l.take (k + 1)) = addM (Inl.mergeA out (l.take k)) x.mergeX := by
  rw [List.take_add_one, h, Inl.mergeA_app]
  simp [Inl.mergeA]
theorem last_split {α : Type} {l : List α} {y : α} (h : l.getLast? = some y) : l = l.dropLast ++ [y] := by
  obtain ⟨ys, rfl⟩ := List.getLast?_eq_some_iff.1 h
  simp

mutual
/-- Merged inlines: no empty text, no two neighbouring texts, at any depth. -/
def Inl.nf : Inl → Prop
  | .mk _ _ _ _ _ _ _ ks => Inl.nfL false ks
def Inl.nfL (p : Bool) : List Inl → Prop
  | [] => True
  | x :: l => x.nf ∧ (x.kd = 1 → emptyS x.tx = false ∧ p = false) ∧ Inl.nfL (decide (x.kd = 1)) l
end
def last1 (p : Bool) (l : List Inl) : Bool := match l.getLast? with | some x => decide (x.kd = 1) | none => p
theorem last1_cons (p : Bool) (x : Inl) (l : List Inl) : last1 p (x :: l) = last1 (decide (x.kd = 1)) l := by
  unfold last1
  cases l with
  | nil => rfl
  | cons y l => rw [List.getLast?_cons_cons]; cases h : (y :: l).getLast? with
    | none => simp at h
    | some z => rfl
theorem Inl.nfL_snoc : ∀ (l : List Inl) (p : Bool) (x : Inl), Inl.nfL p (l ++ [x]) ↔ Inl.nfL p l ∧ x.nf ∧ (x.kd = 1 → emptyS x.tx = false ∧ last1 p l = false)
  | [], p, x => by rw [List.nil_append, Inl.nfL, Inl.nfL, Inl.nfL]; simp [last1]
  | y :: l, p, x => by
    rw [List.cons_append, Inl.nfL, Inl.nfL, Inl.nfL_snoc l, last1_cons]
    constructor
    · rintro ⟨h1, h2, h3, h4, h5⟩; exact ⟨⟨h1, h2, h3⟩, h4, h5⟩
    · rintro ⟨⟨h1, h2, h3⟩, h4, h5⟩; exact ⟨h1, h2, h3, h4, h5⟩
theorem nf_setTx (x : Inl) (t : ByteArray) (h : x.nf) : (x.setTx t).nf := by cases x; unfold Inl.setTx; unfold Inl.nf at h ⊢; exact h
theorem empty_app (a b : ByteArray) (h : emptyS a = false) : emptyS (a ++ b) = false := by
  unfold emptyS at h ⊢
  simp at h ⊢
  intro e
  exact absurd e h
theorem nf_addM (out : List Inl) (x : Inl) (ho : Inl.nfL false out) (hx : x.nf) : Inl.nfL false (addM out x) := by
  unfold addM
  by_cases h1 : x.kd = 1
  · rw [if_pos h1]
    by_cases h2 : emptyS x.tx = true
    · rw [if_pos h2]; exact ho
    · rw [if_neg h2]
      have h2 : emptyS x.tx = false := by simpa using h2
      cases hl : out.getLast? with
      | none =>
        simp only
        exact (Inl.nfL_snoc out false x).2 ⟨ho, hx, fun _ => ⟨h2, by unfold last1; rw [hl]⟩⟩
      | some y =>
        simp only
        by_cases h3 : y.kd = 1
        · rw [if_pos h3]
          rw [last_split hl] at ho
          obtain ⟨k1, k2, k3⟩ := (Inl.nfL_snoc _ _ _).1 ho
          refine (Inl.nfL_snoc _ _ _).2 ⟨k1, nf_setTx y _ k2, fun _ => ⟨?_, (k3 h3).2⟩⟩
          have : (y.setTx (y.tx ++ x.tx)).tx = y.tx ++ x.tx := by cases y; rfl
          rw [this]
          exact empty_app _ _ (k3 h3).1
        · rw [if_neg h3]
          exact (Inl.nfL_snoc out false x).2 ⟨ho, hx, fun _ => ⟨h2, by unfold last1; rw [hl]; simpa using h3⟩⟩
  · rw [if_neg h1]
    exact (Inl.nfL_snoc out false x).2 ⟨ho, hx, fun h => absurd h h1⟩
mutual
theorem Inl.nf_mergeX : ∀ (x : Inl), x.mergeX.nf
  | .mk k t d ti a ar ci ks => by rw [Inl.mergeX]; unfold Inl.nf; exact Inl.nf_mergeA ks [] (by unfold Inl.nfL; trivial)
theorem Inl.nf_mergeA : ∀ (l out : List Inl), Inl.nfL false out → Inl.nfL false (Inl.mergeA out l)
  | [], out, h => by rw [Inl.mergeA]; exact h
  | x :: l, out, h => by rw [Inl.mergeA]; exact Inl.nf_mergeA l _ (nf_addM out _ h (Inl.nf_mergeX x))
end
mutual
theorem Inl.mergeX_nf : ∀ (x : Inl), x.nf → x.mergeX = x
  | .mk k t d ti a ar ci ks, h => by
    unfold Inl.nf at h
    rw [Inl.mergeX, Inl.mergeA_nf ks [] h, List.nil_append]
theorem Inl.mergeA_nf : ∀ (l out : List Inl), Inl.nfL (last1 false out) l → Inl.mergeA out l = out ++ l
  | [], out, h => by rw [Inl.mergeA, List.append_nil]
  | x :: l, out, h => by
    unfold Inl.nfL at h
    obtain ⟨h1, h2, h3⟩ := h
    rw [Inl.mergeA, Inl.mergeX_nf x h1]
    have e : addM out x = out ++ [x] := by
      unfold addM
      by_cases k1 : x.kd = 1
      · obtain ⟨k2, k3⟩ := h2 k1
        rw [if_pos k1, if_neg (by simp [k2])]
        unfold last1 at k3
        cases hl : out.getLast? with
        | none => rfl
        | some y =>
          rw [hl] at k3
          simp only at k3 ⊢
          rw [if_neg (by simpa using k3)]
      · rw [if_neg k1]
    rw [e, Inl.mergeA_nf l _ (by have : last1 false (out ++ [x]) = decide (x.kd = 1) := by { unfold last1; rw [List.getLast?_append]; rfl }
                                 rw [this]; exact h3), List.append_assoc]
    rfl
end
end Go.Proofs.YtlbioncagkkkoaaGreatDoor

namespace Go.Proofs.YtlbioncagkkkoaaGreatDoor
set_option linter.unusedVariables false
set_option linter.unusedSimpArgs false

theorem Inl.set_set (x : Inl) (a b : ByteArray) : (x.setTx a).setTx b = x.setTx b := by cases x; rfl
theorem Inl.set_tx (x : Inl) (a : ByteArray) : (x.setTx a).tx = a := by cases x; rfl
theorem Inl.set_kd (x : Inl) (a : ByteArray) : (x.setTx a).kd = x.kd := by cases x; rfl
theorem Inl.set_self (x : Inl) : x.setTx x.tx = x := by cases x; rfl
theorem addM_not (out : List Inl) (x : Inl) (h : x.kd ≠ 1) : addM out x = out ++ [x] := by unfold addM; rw [if_neg h]
theorem addM_empty (out : List Inl) (x : Inl) (h : x.kd = 1) (h2 : emptyS x.tx = true) : addM out x = out := by unfold addM; rw [if_pos h, if_pos h2]
theorem addM_first (out : List Inl) (x : Inl) (h : x.kd = 1) (h2 : emptyS x.tx = false) (hl : ∀ y, out.getLast? = some y → y.kd ≠ 1) : addM out x = out ++ [x] := by
  unfold addM
  rw [if_pos h, if_neg (by rw [h2]; decide)]
  cases hl2 : out.getLast? with
  | none => rfl
  | some y => simp only; rw [if_neg (hl y hl2)]
theorem addM_join (out : List Inl) (f x : Inl) (hf : f.kd = 1) (h : x.kd = 1) (h2 : emptyS x.tx = false) : addM (out ++ [f]) x = out ++ [f.setTx (f.tx ++ x.tx)] := by
  unfold addM
  rw [if_pos h, if_neg (by rw [h2]; decide)]
  simp [hf]

/-- Within a group of texts: the first one that is not empty, and what has been written. -/
def Grp (l out : List Inl) (j : Nat) (fi : Int) (c : ByteArray) : Prop :=
  (fi = -1 ∧ Inl.mergeL (l.take j) = out ∧ c.data.toList = []) ∨
  ∃ f : Nat, fi = f ∧ f < j ∧ ∃ x, l[f]? = some x ∧ x.kd = 1 ∧ Inl.mergeL (l.take j) = out ++ [x.mergeX.setTx c] ∧ c.data.toList ≠ []
theorem Grp.start (l : List Inl) (k : Nat) : Grp l (Inl.mergeL (l.take k)) k (-1) ⟨#[]⟩ := .inl ⟨rfl, rfl, rfl⟩
theorem mergeL_snoc {l : List Inl} {k : Nat} {x : Inl} (h : l[k]? = some x) : Inl.mergeL (l.take (k + 1)) = addM (Inl.mergeL (l.take k)) x.mergeX := Inl.mergeA_snoc l k x [] h
theorem empty_bytes {t : ByteArray} (h : emptyS t = true) : t.data.toList = [] := by simpa [emptyS] using h
theorem app_empty {c t : ByteArray} (h : emptyS t = true) : c ++ t = c := by
  have := empty_bytes h
  apply ByteArray.ext
  rw [ByteArray.data_append]
  apply Array.toList_inj.1
  rw [Array.toList_append, this, List.append_nil]
theorem nil_app0 {c t : ByteArray} (h : c.data.toList = []) : c ++ t = t := by
  apply ByteArray.ext
  rw [ByteArray.data_append]
  apply Array.toList_inj.1
  rw [Array.toList_append, h, List.nil_append]
theorem app_ne {c t : ByteArray} (h : emptyS t = false) : (c ++ t).data.toList ≠ [] := by
  rw [ByteArray.data_append, Array.toList_append]
  intro e
  have := (List.append_eq_nil_iff.1 e).2
  simp [emptyS, this] at h
theorem Grp.skip {l out : List Inl} {j : Nat} {fi : Int} {c : ByteArray} {x : Inl} (h : Grp l out j fi c) (hx : l[j]? = some x) (h1 : x.kd = 1) (h2 : emptyS x.tx = true) : Grp l out (j + 1) fi (c ++ x.tx) := by
  have hm : Inl.mergeL (l.take (j + 1)) = Inl.mergeL (l.take j) := by
    rw [mergeL_snoc hx, addM_empty _ _ (by rw [Inl.mergeX_kd]; exact h1) (by rw [Inl.mergeX_tx]; exact h2)]
  rw [app_empty h2]
  rcases h with ⟨h3, h4, h5⟩ | ⟨f, h3, h4, y, h5, h6, h7, h8⟩
  · exact .inl ⟨h3, by rw [hm]; exact h4, h5⟩
  · exact .inr ⟨f, h3, by omega, y, h5, h6, by rw [hm]; exact h7, h8⟩
theorem Grp.first {l out : List Inl} {j : Nat} {c : ByteArray} {x : Inl} (h : Grp l out j (-1) c) (hx : l[j]? = some x) (h1 : x.kd = 1) (h2 : emptyS x.tx = false) (hl : ∀ y, out.getLast? = some y → y.kd ≠ 1) : Grp l out (j + 1) j (c ++ x.tx) := by
  rcases h with ⟨-, h4, h5⟩ | ⟨f, h3, -⟩
  · refine .inr ⟨j, rfl, by omega, x, hx, h1, ?_, app_ne h2⟩
    rw [mergeL_snoc hx, h4, addM_first _ _ (by rw [Inl.mergeX_kd]; exact h1) (by rw [Inl.mergeX_tx]; exact h2) hl, nil_app0 h5, ← Inl.mergeX_tx, Inl.set_self]
  · omega
theorem Grp.more {l out : List Inl} {j f : Nat} {c : ByteArray} {x : Inl} (h : Grp l out j (f : Nat) c) (hx : l[j]? = some x) (h1 : x.kd = 1) (h2 : emptyS x.tx = false) : Grp l out (j + 1) (f : Nat) (c ++ x.tx) := by
  rcases h with ⟨h3, -⟩ | ⟨g, h3, h4, y, h5, h6, h7, -⟩
  · omega
  · refine .inr ⟨g, h3, by omega, y, h5, h6, ?_, app_ne h2⟩
    rw [mergeL_snoc hx, h7, addM_join _ _ _ (by rw [Inl.set_kd, Inl.mergeX_kd]; exact h6) (by rw [Inl.mergeX_kd]; exact h1) (by rw [Inl.mergeX_tx]; exact h2), Inl.set_set, Inl.set_tx, Inl.mergeX_tx]
/-- At the head of the outer loop: no text behind a text. -/
def Edge (l out : List Inl) (k : Nat) : Prop := ∀ x, l[k]? = some x → x.kd = 1 → ∀ y, out.getLast? = some y → y.kd ≠ 1
theorem Edge.zero (l : List Inl) : Edge l [] 0 := fun _ _ _ _ h => by simp at h
theorem Edge.one {l out : List Inl} {k : Nat} {x : Inl} (h : x.kd ≠ 1) : Edge l (out ++ [x]) k := fun _ _ _ y hy => by simp at hy; rw [← hy]; exact h
theorem Edge.stop {l out : List Inl} {k : Nat} (h : ∀ x, l[k]? = some x → x.kd ≠ 1) : Edge l out k := fun x hx h1 => absurd h1 (h x hx)
theorem addM_len (out : List Inl) (x : Inl) : (addM out x).length ≤ out.length + 1 := by
  unfold addM
  split
  · split
    · exact Nat.le_succ _
    · split
      · split
        · simp only [List.length_append, List.length_dropLast, List.length_cons, List.length_nil]; omega
        · simp
      · simp
  · simp
theorem mergeA_len : ∀ (l out : List Inl), (Inl.mergeA out l).length ≤ out.length + l.length
  | [], out => by rw [Inl.mergeA]; simp
  | x :: l, out => by rw [Inl.mergeA]; have h1 := mergeA_len l (addM out x.mergeX); have h2 := addM_len out x.mergeX; simp; omega
end Go.Proofs.YtlbioncagkkkoaaGreatDoor

namespace Go.Proofs.YtlbioncagkkkoaaGreatDoor
set_option linter.unusedVariables false
set_option linter.unusedSimpArgs false

def at0 : At := ⟨⟨#[]⟩, [], []⟩
def txI (t : ByteArray) : Inl := .mk 1 t ⟨#[]⟩ ⟨#[]⟩ at0 [] [] []
/-- An inline of a kind joined to the last one of that kind, all else appended. -/
def addK (q : Int) (out : List Inl) (x : Inl) : List Inl :=
  if x.kd = q then match out.getLast? with
    | some y => if y.kd = q then out.dropLast ++ [y.setTx (y.tx ++ x.tx)] else out ++ [x]
    | none => out ++ [x]
  else out ++ [x]
def joinK (q : Int) (l : List Inl) : List Inl := l.foldl (addK q) []
def fullB (x : Inl) : Bool := !decide (x.kd = 1) || !emptyS x.tx
def fullL (l : List Inl) : List Inl := l.filter fullB
theorem addM_addK (out : List Inl) (x : Inl) : addM out x = if fullB x = true then addK 1 out x else out := by
  unfold addM fullB addK
  by_cases h1 : x.kd = 1
  · by_cases h2 : emptyS x.tx = true
    · rw [if_pos h1, if_pos h2, if_neg (by simp [h1, h2])]
    · rw [if_pos h1, if_neg h2, if_pos (by simp [h2]), if_pos h1] <;> rfl
  · rw [if_neg h1, if_pos (by simp [h1]), if_neg h1]
theorem foldM_join : ∀ (l out : List Inl), l.foldl addM out = (fullL l).foldl (addK 1) out
  | [], out => rfl
  | x :: l, out => by
    unfold fullL
    rw [List.foldl_cons, List.filter_cons, addM_addK]
    by_cases h : fullB x = true
    · rw [if_pos h, if_pos h, List.foldl_cons]; exact foldM_join l _
    · rw [if_neg h, if_neg h]; exact foldM_join l _
theorem mergeA_fold : ∀ (l out : List Inl), Inl.mergeA out l = (l.map Inl.mergeX).foldl addM out
  | [], out => by rw [Inl.mergeA]; rfl
  | x :: l, out => by rw [Inl.mergeA, List.map_cons, List.foldl_cons]; exact mergeA_fold l _
theorem mergeL_join (l : List Inl) : Inl.mergeL l = joinK 1 (fullL (l.map Inl.mergeX)) := by
  unfold Inl.mergeL joinK
  rw [mergeA_fold, foldM_join]

mutual
/-- What an inline gives to an entry line: as the reference says (raw), each with entry lines of Kids. -/
def Inl.entX : Inl → List Inl
  | .mk k t d ti a ar ci ks =>
    if k = 9 ∨ k = 11 then joinK 4 (Inl.mergeL (Inl.entR ks))
    else if k = 12 ∨ k = 14 ∨ k = 13 then []
    else if k = 16 then [txI d]
    else if k = 2 ∨ k = 3 then [txI ⟨#[32]⟩]
    else if k = 10 then [.mk k t d ti at0 ar ci (joinK 4 (Inl.mergeL (Inl.entR ks)))]
    else if k = 6 ∨ k = 7 ∨ k = 8 then (if (joinK 4 (Inl.mergeL (Inl.entR ks))).isEmpty = true then [] else [.mk k t d ti a ar ci (joinK 4 (Inl.mergeL (Inl.entR ks)))])
    else [.mk k t d ti a ar ci ks]
def Inl.entR : List Inl → List Inl
  | [] => []
  | x :: l => x.entX ++ Inl.entR l
end
/-- The entry line of a line. -/
def entL (l : List Inl) : List Inl := joinK 4 (Inl.mergeL (Inl.entR l))
theorem entX_eq (k : Int) (t d ti : ByteArray) (a : At) (ar : List ByteArray) (ci : List Ci) (ks : List Inl) : Inl.entX (.mk k t d ti a ar ci ks) =
    if k = 9 ∨ k = 11 then entL ks
    else if k = 12 ∨ k = 14 ∨ k = 13 then []
    else if k = 16 then [txI d]
    else if k = 2 ∨ k = 3 then [txI ⟨#[32]⟩]
    else if k = 10 then [.mk k t d ti at0 ar ci (entL ks)]
    else if k = 6 ∨ k = 7 ∨ k = 8 then (if (entL ks).isEmpty = true then [] else [.mk k t d ti a ar ci (entL ks)])
    else [.mk k t d ti a ar ci ks] := by rw [Inl.entX]; rfl
/-- What the program gives: where the inline stays, its Kids are merged. -/
def Inl.entY : Inl → List Inl
  | .mk k t d ti a ar ci ks =>
    if k = 9 ∨ k = 11 then entL ks
    else if k = 12 ∨ k = 14 ∨ k = 13 then []
    else if k = 16 then [txI d]
    else if k = 2 ∨ k = 3 then [txI ⟨#[32]⟩]
    else if k = 10 then [.mk k t d ti at0 ar ci (entL ks)]
    else if k = 6 ∨ k = 7 ∨ k = 8 then (if (entL ks).isEmpty = true then [] else [.mk k t d ti a ar ci (entL ks)])
    else [.mk k t d ti a ar ci (Inl.mergeL ks)]
theorem last1_snoc (p : Bool) (l : List Inl) (x : Inl) : last1 p (l ++ [x]) = decide (x.kd = 1) := by unfold last1; rw [List.getLast?_append]; rfl
theorem nf_join4 : ∀ (l out : List Inl), Inl.nfL (last1 false out) l → Inl.nfL false out → Inl.nfL false (l.foldl (addK 4) out)
  | [], out, _, h => h
  | x :: l, out, hl, ho => by
    rw [Inl.nfL] at hl
    obtain ⟨h1, h2, h3⟩ := hl
    have hA : Inl.nfL false (out ++ [x]) := (Inl.nfL_snoc out false x).2 ⟨ho, h1, h2⟩
    have hAl : Inl.nfL (last1 false (out ++ [x])) l := by rw [last1_snoc]; exact h3
    rw [List.foldl_cons]
    unfold addK
    by_cases hx : x.kd = 4
    · rw [if_pos hx]
      cases hg : out.getLast? with
      | none => exact nf_join4 l _ hAl hA
      | some y =>
        simp only
        by_cases hy : y.kd = 4
        · rw [if_pos hy]
          rw [last_split hg] at ho
          obtain ⟨g1, g2, g3⟩ := (Inl.nfL_snoc _ _ _).1 ho
          have hk : (y.setTx (y.tx ++ x.tx)).kd = 4 := by rw [Inl.set_kd]; exact hy
          refine nf_join4 l _ ?_ ((Inl.nfL_snoc _ _ _).2 ⟨g1, nf_setTx y _ g2, fun e => by rw [hk] at e; cases e⟩)
          rw [last1_snoc, hk]
          rw [hx] at h3
          exact h3
        · rw [if_neg hy]; exact nf_join4 l _ hAl hA
    · rw [if_neg hx]; exact nf_join4 l _ hAl hA
theorem ent_nf (l : List Inl) : Inl.nfL false (entL l) := by
  unfold entL joinK
  refine nf_join4 _ [] ?_ (by unfold Inl.nfL; trivial)
  exact Inl.nf_mergeA (Inl.entR l) [] (by unfold Inl.nfL; trivial)
theorem nfL_mem : ∀ (l : List Inl) (p : Bool), Inl.nfL p l → ∀ x ∈ l, x.nf
  | [], _, _, x, hx => by cases hx
  | y :: l, p, h, x, hx => by
    rw [Inl.nfL] at h
    rcases List.mem_cons.1 hx with rfl | hx
    · exact h.1
    · exact nfL_mem l _ h.2.2 x hx
theorem map_nf (l : List Inl) (h : ∀ x ∈ l, x.nf) : l.map Inl.mergeX = l := by
  conv => rhs; rw [← List.map_id l]
  exact List.map_congr_left fun x hx => Inl.mergeX_nf x (h x hx)
theorem merge_ent (l : List Inl) : Inl.mergeL (entL l) = entL l := by
  have := Inl.mergeA_nf (entL l) [] (ent_nf l)
  rwa [List.nil_append] at this
theorem mergeX_mk (k : Int) (t d ti : ByteArray) (a : At) (ar : List ByteArray) (ci : List Ci) (ks : List Inl) : Inl.mergeX (.mk k t d ti a ar ci ks) = .mk k t d ti a ar ci (Inl.mergeL ks) := by rw [Inl.mergeX]; rfl
theorem mergeX_tx0 (t : ByteArray) : Inl.mergeX (txI t) = txI t := by unfold txI; rw [mergeX_mk]; unfold Inl.mergeL; rw [Inl.mergeA]
theorem entX_map (x : Inl) : x.entX.map Inl.mergeX = x.entY := by
  obtain ⟨k, t, d, ti, a, ar, ci, ks⟩ := x
  rw [entX_eq, Inl.entY]
  by_cases h1 : k = 9 ∨ k = 11
  · rw [if_pos h1, if_pos h1]; exact map_nf _ (nfL_mem _ _ (ent_nf ks))
  rw [if_neg h1, if_neg h1]
  by_cases h2 : k = 12 ∨ k = 14 ∨ k = 13
  · rw [if_pos h2, if_pos h2]; rfl
  rw [if_neg h2, if_neg h2]
  by_cases h3 : k = 16
  · rw [if_pos h3, if_pos h3]; simp [mergeX_tx0]
  rw [if_neg h3, if_neg h3]
  by_cases h4 : k = 2 ∨ k = 3
  · rw [if_pos h4, if_pos h4]; simp [mergeX_tx0]
  rw [if_neg h4, if_neg h4]
  by_cases h5 : k = 10
  · rw [if_pos h5, if_pos h5, List.map_singleton, mergeX_mk, merge_ent]
  rw [if_neg h5, if_neg h5]
  by_cases h6 : k = 6 ∨ k = 7 ∨ k = 8
  · rw [if_pos h6, if_pos h6]
    by_cases h7 : (entL ks).isEmpty = true
    · rw [if_pos h7]; rfl
    · rw [if_neg h7, List.map_singleton, mergeX_mk, merge_ent]
  rw [if_neg h6, if_neg h6]
  rw [List.map_singleton, mergeX_mk]
theorem entR_flat (l : List Inl) : Inl.entR l = l.flatMap Inl.entX := by
  induction l with
  | nil => rw [Inl.entR]; rfl
  | cons x l ih => rw [Inl.entR, ih, List.flatMap_cons]
/-- The program's way to an entry line. -/
theorem entL_prog (l : List Inl) : entL l = joinK 4 (joinK 1 (fullL (l.flatMap Inl.entY))) := by
  unfold entL
  rw [mergeL_join, entR_flat, List.map_flatMap]
  have : (fun x : Inl => x.entX.map Inl.mergeX) = Inl.entY := funext entX_map
  rw [this]
end Go.Proofs.YtlbioncagkkkoaaGreatDoor

namespace Go.Proofs.YtlbioncagkkkoaaGreatDoor
set_option linter.unusedVariables false
set_option linter.unusedSimpArgs false

/-- What stands between quotation marks, from behind the first one, and what is left behind the second one. -/
def quoteL : List UInt8 → List UInt8 → Option (List UInt8 × List UInt8)
  | [], _ => none
  | c :: l, acc =>
    if c = 34 then some (acc, l)
    else if c = 92 then (match l with
      | [] => none
      | d :: l' => if d = 34 ∨ d = 92 then quoteL l' (acc ++ [d]) else none)
    else quoteL l (acc ++ [c])
def bsOf (l : List UInt8) : ByteArray := ⟨l.toArray⟩
def valueL (l : List UInt8) : Option (ByteArray × List UInt8) :=
  if l.head? = some 34 then (match quoteL l.tail [] with
    | none => none
    | some (v, r) => if lineS (bsOf v) = true then some (bsOf v, r) else none)
  else if nameOk (bsOf (l.takeWhile nmB)) = true then some (bsOf (l.takeWhile nmB), l.dropWhile nmB) else none
def afterSign (l : List UInt8) : List UInt8 := if l.head? = some 35 ∨ l.head? = some 46 then l.tail else l
def keysOf (a : At) : List ByteArray := a.prs.map Pr.key
def itemL (a : At) (l : List UInt8) : Option (At × List UInt8) :=
  if nameOk (bsOf ((afterSign l).takeWhile nmB)) = false then none
  else if l.head? = some 35 then (if emptyS a.id = false then none else some (⟨bsOf ((afterSign l).takeWhile nmB), a.cls, a.prs⟩, (afterSign l).dropWhile nmB))
  else if l.head? = some 46 then (if hasB a.cls (bsOf ((afterSign l).takeWhile nmB)) = true then none else if 32 ≤ a.cls.length then none
    else some (⟨a.id, a.cls ++ [bsOf ((afterSign l).takeWhile nmB)], a.prs⟩, (afterSign l).dropWhile nmB))
  else if ((afterSign l).dropWhile nmB).head? = some 61 then (match valueL ((afterSign l).dropWhile nmB).tail with
    | none => none
    | some (v, r) => if hasB (keysOf a) (bsOf ((afterSign l).takeWhile nmB)) = true then none else if 32 ≤ a.prs.length then none
      else some (⟨a.id, a.cls, a.prs ++ [⟨bsOf ((afterSign l).takeWhile nmB), v⟩]⟩, r))
  else none
def isSp (c : UInt8) : Bool := decide (c = 32)
def skipS (l : List UInt8) : List UInt8 := l.dropWhile isSp
/-- The attributes, from behind spaces on; sep: may an item stand here? -/
def parseG : Nat → At → Bool → List UInt8 → Option (At × List UInt8)
  | 0, _, _, _ => none
  | f + 1, a, sep, l =>
    if l.head? = some 125 then some (a, l.tail)
    else if l = [] ∨ sep = false then none
    else (match itemL a l with
      | none => none
      | some (a', l') => parseG f a' (decide (l'.head? = some 32)) (skipS l'))
/-- Attributes in braces. -/
def parseL (l : List UInt8) : Option (At × List UInt8) :=
  if l.head? = some 123 then parseG l.length ⟨bsOf [], [], []⟩ true (skipS l.tail) else none

theorem tw_app (p : UInt8 → Bool) : ∀ (n r : List UInt8), (∀ c ∈ n, p c = true) → (∀ c, r.head? = some c → p c = false) → (n ++ r).takeWhile p = n ∧ (n ++ r).dropWhile p = r
  | [], r, _, h2 => by
    cases r with
    | nil => exact ⟨rfl, rfl⟩
    | cons c r => exact ⟨by simp [h2 c rfl], by simp [h2 c rfl]⟩
  | c :: n, r, h1, h2 => by
    have hc := h1 c (by simp)
    obtain ⟨k1, k2⟩ := tw_app p n r (fun x hx => h1 x (by simp [hx])) h2
    rw [List.cons_append, List.takeWhile_cons, List.dropWhile_cons, hc]
    simp [k1, k2]
theorem tw_parts (p : UInt8 → Bool) (l : List UInt8) : (∀ c ∈ l.takeWhile p, p c = true) ∧ (∀ c, (l.dropWhile p).head? = some c → p c = false) := by
  induction l with
  | nil => simp
  | cons x l ih =>
    rw [List.takeWhile_cons, List.dropWhile_cons]
    cases h : p x with
    | true =>
      refine ⟨fun c hc => ?_, fun c hc => ih.2 c (by simpa using hc)⟩
      simp at hc
      rcases hc with rfl | hc
      · exact h
      · exact ih.1 c hc
    | false => exact ⟨by simp, fun c hc => by simp at hc; rw [← hc]; exact h⟩
/-- A run of letters is read alike in front of whatever begins alike. -/
theorem tw_swap (p : UInt8 → Bool) (l r' : List UInt8) (h : r'.head? = (l.dropWhile p).head?) : (l.takeWhile p ++ r').takeWhile p = l.takeWhile p ∧ (l.takeWhile p ++ r').dropWhile p = r' :=
  tw_app p _ _ (tw_parts p l).1 (fun c hc => (tw_parts p l).2 c (by rw [← h]; exact hc))

theorem quoteL_pre : ∀ (n : Nat) (l acc v r : List UInt8), l.length ≤ n → quoteL l acc = some (v, r) → ∃ p, l = p ++ r ∧ p ≠ [] ∧ ∀ r', quoteL (p ++ r') acc = some (v, r')
  | n, [], acc, v, r, _, h => by rw [quoteL] at h; cases h
  | 0, c :: l, acc, v, r, hn, h => by simp at hn
  | n + 1, c :: l, acc, v, r, hn, h => by
    simp only [List.length_cons] at hn
    rw [quoteL.eq_def] at h
    simp only at h
    by_cases h1 : c = 34
    · rw [if_pos h1] at h
      injection h with h
      injection h with h2 h3
      subst h2 h3
      exact ⟨[c], rfl, by simp, fun r' => by rw [List.singleton_append, quoteL.eq_def]; simp only; rw [if_pos h1]⟩
    · rw [if_neg h1] at h
      by_cases h2 : c = 92
      · rw [if_pos h2] at h
        cases l with
        | nil => cases h
        | cons d l' =>
          simp only at h
          by_cases h3 : d = 34 ∨ d = 92
          · rw [if_pos h3] at h
            obtain ⟨p, e1, e2, e3⟩ := quoteL_pre n l' (acc ++ [d]) v r (by simp at hn; omega) h
            refine ⟨c :: d :: p, by rw [e1]; rfl, by simp, fun r' => ?_⟩
            rw [List.cons_append, List.cons_append, quoteL.eq_def]
            simp only
            rw [if_neg h1, if_pos h2, if_pos h3]
            exact e3 r'
          · rw [if_neg h3] at h; cases h
      · rw [if_neg h2] at h
        obtain ⟨p, e1, e2, e3⟩ := quoteL_pre n l (acc ++ [c]) v r (by omega) h
        refine ⟨c :: p, by rw [e1]; rfl, by simp, fun r' => ?_⟩
        rw [List.cons_append, quoteL.eq_def]
        simp only
        rw [if_neg h1, if_neg h2]
        exact e3 r'
theorem nameOk_ne (l : List UInt8) (h : nameOk (bsOf l) = true) : l ≠ [] := by
  rintro rfl
  revert h
  decide
theorem valueL_pre (l r : List UInt8) (v : ByteArray) (h : valueL l = some (v, r)) : ∃ p, l = p ++ r ∧ p ≠ [] ∧ ∀ r', r'.head? = r.head? → valueL (p ++ r') = some (v, r') := by
  unfold valueL at h
  by_cases h1 : l.head? = some 34
  · rw [if_pos h1] at h
    cases l with
    | nil => simp at h1
    | cons c l =>
      obtain rfl : c = 34 := by simpa using h1
      rw [List.tail_cons] at h
      cases hq : quoteL l [] with
      | none => rw [hq] at h; cases h
      | some z =>
        obtain ⟨v1, r1⟩ := z
        rw [hq] at h
        simp only at h
        by_cases h2 : lineS (bsOf v1) = true
        · rw [if_pos h2] at h
          injection h with h
          injection h with h3 h4
          subst h3 h4
          obtain ⟨p, e1, e2, e3⟩ := quoteL_pre _ l [] v1 r1 (Nat.le_refl _) hq
          refine ⟨34 :: p, by rw [e1]; rfl, by simp, fun r' _ => ?_⟩
          unfold valueL
          rw [List.cons_append, List.head?_cons, if_pos rfl, List.tail_cons, e3 r']
          simp only
          rw [if_pos h2]
        · rw [if_neg h2] at h; cases h
  · rw [if_neg h1] at h
    by_cases h2 : nameOk (bsOf (l.takeWhile nmB)) = true
    · rw [if_pos h2] at h
      injection h with h
      injection h with h3 h4
      subst h3 h4
      refine ⟨l.takeWhile nmB, (List.takeWhile_append_dropWhile).symm, nameOk_ne _ h2, fun r' hr => ?_⟩
      obtain ⟨k1, k2⟩ := tw_swap nmB l r' hr
      unfold valueL
      have hh : (l.takeWhile nmB ++ r').head? = l.head? := by
        cases l with
        | nil => exact absurd rfl (nameOk_ne _ h2)
        | cons c l =>
          have hne := nameOk_ne _ h2
          rw [List.takeWhile_cons] at hne ⊢
          cases hc : nmB c with
          | true => simp
          | false => rw [hc] at hne; simp at hne
      rw [hh, if_neg h1, k1, k2, if_pos h2]
    · rw [if_neg h2] at h; cases h
theorem head_app (p r r' : List UInt8) (h : p ≠ []) : (p ++ r).head? = (p ++ r').head? := by
  cases p with
  | nil => exact absurd rfl h
  | cons c p => rfl
theorem itemL_pre (a a' : At) (l r : List UInt8) (h : itemL a l = some (a', r)) : ∃ p, l = p ++ r ∧ p ≠ [] ∧ ∀ r', r'.head? = r.head? → itemL a (p ++ r') = some (a', r') := by
  unfold itemL at h
  by_cases h1 : nameOk (bsOf ((afterSign l).takeWhile nmB)) = false
  · rw [if_pos h1] at h; cases h
  rw [if_neg h1] at h
  have h1' : nameOk (bsOf ((afterSign l).takeWhile nmB)) = true := by simpa using h1
  have hN := nameOk_ne _ h1'
  by_cases h2 : l.head? = some 35
  · rw [if_pos h2] at h
    by_cases h3 : emptyS a.id = false
    · rw [if_pos h3] at h; cases h
    rw [if_neg h3] at h
    injection h with h
    injection h with e1 e2
    cases l with
    | nil => simp at h2
    | cons c l =>
      obtain rfl : c = 35 := by simpa using h2
      have hA : ∀ x, afterSign (35 :: x) = x := fun x => by simp [afterSign]
      rw [hA] at e1 e2 h1 hN
      refine ⟨35 :: l.takeWhile nmB, ?_, by simp, fun r' hr => ?_⟩
      · rw [← e2, List.cons_append, List.takeWhile_append_dropWhile]
      · obtain ⟨k1, k2⟩ := tw_swap nmB l r' (by rw [hr, e2])
        unfold itemL
        rw [List.cons_append, hA, k1, k2, if_neg h1, List.head?_cons, if_pos rfl, if_neg h3, e1]
  rw [if_neg h2] at h
  by_cases h3 : l.head? = some 46
  · rw [if_pos h3] at h
    by_cases h4 : hasB a.cls (bsOf ((afterSign l).takeWhile nmB)) = true
    · rw [if_pos h4] at h; cases h
    rw [if_neg h4] at h
    by_cases h5 : 32 ≤ a.cls.length
    · rw [if_pos h5] at h; cases h
    rw [if_neg h5] at h
    injection h with h
    injection h with e1 e2
    cases l with
    | nil => simp at h3
    | cons c l =>
      obtain rfl : c = 46 := by simpa using h3
      have hA : ∀ x, afterSign (46 :: x) = x := fun x => by simp [afterSign]
      rw [hA] at e1 e2 h1 hN h4
      refine ⟨46 :: l.takeWhile nmB, ?_, by simp, fun r' hr => ?_⟩
      · rw [← e2, List.cons_append, List.takeWhile_append_dropWhile]
      · obtain ⟨k1, k2⟩ := tw_swap nmB l r' (by rw [hr, e2])
        unfold itemL
        rw [List.cons_append, hA, k1, k2, if_neg h1, List.head?_cons, if_neg (by decide), if_pos rfl, if_neg h4, if_neg h5, e1]
  rw [if_neg h3] at h
  have hA : afterSign l = l := by unfold afterSign; rw [if_neg (by rintro (h | h); exact h2 h; exact h3 h)]
  rw [hA] at h h1 hN
  by_cases h4 : (l.dropWhile nmB).head? = some 61
  · rw [if_pos h4] at h
    cases hv : valueL (l.dropWhile nmB).tail with
    | none => rw [hv] at h; cases h
    | some z =>
      obtain ⟨v, r1⟩ := z
      rw [hv] at h
      simp only at h
      by_cases h5 : hasB (keysOf a) (bsOf (l.takeWhile nmB)) = true
      · rw [if_pos h5] at h; cases h
      rw [if_neg h5] at h
      by_cases h6 : 32 ≤ a.prs.length
      · rw [if_pos h6] at h; cases h
      rw [if_neg h6] at h
      injection h with h
      injection h with e1 e2
      subst e2
      obtain ⟨p1, q1, q2, q3⟩ := valueL_pre _ _ _ hv
      have hD : l.dropWhile nmB = 61 :: (l.dropWhile nmB).tail := by
        cases hd : l.dropWhile nmB with
        | nil => rw [hd] at h4; simp at h4
        | cons c m => rw [hd] at h4; obtain rfl : c = 61 := by simpa using h4
                      rfl
      refine ⟨l.takeWhile nmB ++ 61 :: p1, ?_, by simp, fun r' hr => ?_⟩
      · rw [List.append_assoc, List.cons_append, ← q1, ← hD, List.takeWhile_append_dropWhile]
      · have hrr : (l.takeWhile nmB ++ 61 :: p1) ++ r' = l.takeWhile nmB ++ (61 :: (p1 ++ r')) := by simp
        obtain ⟨k1, k2⟩ := tw_swap nmB l (61 :: (p1 ++ r')) (by rw [h4]; rfl)
        have hh : (l.takeWhile nmB ++ (61 :: (p1 ++ r'))).head? = l.head? := by
          conv => rhs; rw [← List.takeWhile_append_dropWhile (p := nmB) (l := l)]
          exact head_app _ _ _ hN
        have hA' : afterSign (l.takeWhile nmB ++ (61 :: (p1 ++ r'))) = l.takeWhile nmB ++ (61 :: (p1 ++ r')) := by
          unfold afterSign; rw [hh, if_neg (by rintro (h | h); exact h2 h; exact h3 h)]
        unfold itemL
        rw [hrr, hA', k1, k2, hh, if_neg h1, if_neg h2, if_neg h3, List.head?_cons, if_pos rfl, List.tail_cons, q3 r' hr]
        simp only
        rw [if_neg h5, if_neg h6, e1]
  · rw [if_neg h4] at h; cases h

/-- Behind the attributes only spaces: read before or after spaces at the end are cut. -/
def closeR (l : List UInt8) : Bool := match parseL l with
  | none => false
  | some (_, r) => r.all isSp
/-- Does a line close a formula? -/
def endsL (l : List UInt8) : Bool :=
  decide ((l.takeWhile isSp).length ≤ 3) && decide ((skipS l).take 2 = [36, 36]) && ((skipS ((skipS l).drop 2)).isEmpty || closeR (skipS ((skipS l).drop 2)))
/-- The lines of a text that end in a line feed. -/
def linesG : List UInt8 → List UInt8 → List (List UInt8)
  | _, [] => []
  | acc, c :: l => if c = 10 then acc :: linesG [] l else linesG (acc ++ [c]) l
/-- Has a text a line that closes a formula? -/
def closesS (s : ByteArray) : Bool := (linesG [] s.data.toList).any endsL
end Go.Proofs.YtlbioncagkkkoaaGreatDoor
