/- Plain part: the errors of layer 4: what is not well-formed in inlines and blocks. Plain part: merged inlines: what Merge returns; it keeps the plain text, and changes nothing the second time, nor a line without errors. Plain part: groups of texts in Merge. Plain part: entry lines, as the program and as the reference make them. Contracts of chars.width, second, unclean, Next, Valid; of attr.cleanLine, tree.cleanLine, trimmed, cleanText. Contracts of attr.cleanLine, tree.cleanLine, trimmed, cleanText, address' first test; attr.Empty. Contracts of attr.Empty, tree.oneOf, anyKind, inlineFields. The contract of attr.Check: the first error of attributes. publisherref04.count, sizes, Size, Depth; tree.sizeOfLine, sizeOfBlocks, Size, Depth. Size and Depth of documents, of tree and of the reference. -/
import Derived.Test.YtlbioncagkkkoaaGreatDoorKRFoldR
import Derived.Test.YtlbioncagkkkoaaGreatDoorKName
import Derived.Test.YtlbioncagkkkoaaGreatDoorKAvd
import Derived.Test.YtlbioncagkkkoaaGreatDoorKTcM
import Derived.Test.YtlbioncagkkkoaaGreatDoorKShelf
import Derived.Laws.BitsAllLaws
import Derived.Laws.BitsLemmas
import Derived.Deep.DeepCutAuto
import Derived.Test.YtlbioncagkkkoaaGreatDoorKSmall
import Derived.Test.YtlbioncagkkkoaaGreatDoorKInlsW
import Derived.BigRegion
namespace Go.Proofs.YtlbioncagkkkoaaGreatDoor
set_option linter.unusedVariables false
set_option linter.unusedSimpArgs false

def emptyS (s : ByteArray) : Bool := decide (s.data.toList = [])

def At.none (a : At) : Bool := emptyS a.id && a.cls.isEmpty && a.prs.isEmpty
def Inl.kd : Inl → Int
  | .mk k _ _ _ _ _ _ _ => k
end Go.Proofs.YtlbioncagkkkoaaGreatDoor

namespace Go.Proofs.YtlbioncagkkkoaaGreatDoor
set_option linter.unusedVariables false
set_option linter.unusedSimpArgs false

def Inl.tx : Inl → ByteArray
  | .mk _ t _ _ _ _ _ _ => t
def Inl.setTx : Inl → ByteArray → Inl
  | .mk k _ d ti a ar ci ks, t => .mk k t d ti a ar ci ks
/-- A text joined to the last text, an empty one left out, all else appended. -/
def addM (out : List Inl) (x : Inl) : List Inl :=
  if x.kd = 1 then
    if emptyS x.tx = true then out
    else match out.getLast? with
      | some y => if y.kd = 1 then out.dropLast ++ [y.setTx (y.tx ++ x.tx)] else out ++ [x]
      | none => out ++ [x]
  else out ++ [x]
mutual
def Inl.mergeX : Inl → Inl
  | .mk k t d ti a ar ci ks => .mk k t d ti a ar ci (Inl.mergeA [] ks)
def Inl.mergeA (out : List Inl) : List Inl → List Inl
  | [] => out
  | x :: l => Inl.mergeA (addM out x.mergeX) l
end
def Inl.mergeL (l : List Inl) : List Inl := Inl.mergeA [] l
theorem Inl.mergeX_kd (x : Inl) : x.mergeX.kd = x.kd := by cases x; rw [Inl.mergeX]; rfl
theorem Inl.mergeX_tx (x : Inl) : x.mergeX.tx = x.tx := by cases x; rw [Inl.mergeX]; rfl
theorem Inl.mergeA_app : ∀ (l m out : List Inl), Inl.mergeA out (l ++ m) = Inl.mergeA (Inl.mergeA out l) m
  | [], m, out => by rw [List.nil_append]; conv => rhs; rw [Inl.mergeA]
  | x :: l, m, out => by rw [List.cons_append, Inl.mergeA, Inl.mergeA_app l m, Inl.mergeA]
theorem Inl.mergeA_snoc (l : List Inl) (k : Nat) (x : Inl) (out : List Inl) (h : l[k]? = some x) : Inl.mergeA out (l.take (k + 1)) = addM (Inl.mergeA out (l.take k)) x.mergeX := by
  rw [List.take_add_one, h, Inl.mergeA_app]
  simp [Inl.mergeA]
theorem last_split {α : Type} {l : List α} {y : α} (h : l.getLast? = some y) : l = l.dropLast ++ [y] := by
  obtain ⟨ys, rfl⟩ := List.getLast?_eq_some_iff.1 h
  simp

mutual
/-- Merged inlines: no empty text, no two neighbouring texts, at any depth. -/
def Inl.nf : Inl → Prop
  | .mk _ _ _ _ _ _ _ ks => Inl.nfL false ks
def Inl.nfL (p : Bool) : List Inl → Prop
  | [] => True
  | x :: l => x.nf ∧ (x.kd = 1 → emptyS x.tx = false ∧ p = false) ∧ Inl.nfL (decide (x.kd = 1)) l
end
def last1 (p : Bool) (l : List Inl) : Bool := match l.getLast? with | some x => decide (x.kd = 1) | none => p
theorem last1_cons (p : Bool) (x : Inl) (l : List Inl) : last1 p (x :: l) = last1 (decide (x.kd = 1)) l := by
  unfold last1
  cases l with
  | nil => rfl
  | cons y l => rw [List.getLast?_cons_cons]; cases h : (y :: l).getLast? with
    | none => simp at h
    | some z => rfl
theorem Inl.nfL_snoc : ∀ (l : List Inl) (p : Bool) (x : Inl), Inl.nfL p (l ++ [x]) ↔ Inl.nfL p l ∧ x.nf ∧ (x.kd = 1 → emptyS x.tx = false ∧ last1 p l = false)
  | [], p, x => by rw [List.nil_append, Inl.nfL, Inl.nfL, Inl.nfL]; simp [last1]
  | y :: l, p, x => by
    rw [List.cons_append, Inl.nfL, Inl.nfL, Inl.nfL_snoc l, last1_cons]
    constructor
    · rintro ⟨h1, h2, h3, h4, h5⟩; exact ⟨⟨h1, h2, h3⟩, h4, h5⟩
    · rintro ⟨⟨h1, h2, h3⟩, h4, h5⟩; exact ⟨h1, h2, h3, h4, h5⟩
theorem nf_setTx (x : Inl) (t : ByteArray) (h : x.nf) : (x.setTx t).nf := by cases x; unfold Inl.setTx; unfold Inl.nf at h ⊢; exact h
theorem empty_app (a b : ByteArray) (h : emptyS a = false) : emptyS (a ++ b) = false := by
  unfold emptyS at h ⊢
  simp at h ⊢
  intro e
  exact absurd e h
theorem nf_addM (out : List Inl) (x : Inl) (ho : Inl.nfL false out) (hx : x.nf) : Inl.nfL false (addM out x) := by
  unfold addM
  by_cases h1 : x.kd = 1
  · rw [if_pos h1]
    by_cases h2 : emptyS x.tx = true
    · rw [if_pos h2]; exact ho
    · rw [if_neg h2]
      have h2 : emptyS x.tx = false := by simpa using h2
      cases hl : out.getLast? with
      | none =>
        simp only
        exact (Inl.nfL_snoc out false x).2 ⟨ho, hx, fun _ => ⟨h2, by unfold last1; rw [hl]⟩⟩
      | some y =>
        simp only
        by_cases h3 : y.kd = 1
        · rw [if_pos h3]
          rw [last_split hl] at ho
          obtain ⟨k1, k2, k3⟩ := (Inl.nfL_snoc _ _ _).1 ho
          refine (Inl.nfL_snoc _ _ _).2 ⟨k1, nf_setTx y _ k2, fun _ => ⟨?_, (k3 h3).2⟩⟩
          have : (y.setTx (y.tx ++ x.tx)).tx = y.tx ++ x.tx := by cases y; rfl
          rw [this]
          exact empty_app _ _ (k3 h3).1
        · rw [if_neg h3]
          exact (Inl.nfL_snoc out false x).2 ⟨ho, hx, fun _ => ⟨h2, by unfold last1; rw [hl]; simpa using h3⟩⟩
  · rw [if_neg h1]
    exact (Inl.nfL_snoc out false x).2 ⟨ho, hx, fun h => absurd h h1⟩
mutual
theorem Inl.nf_mergeX : ∀ (x : Inl), x.mergeX.nf
  | .mk k t d ti a ar ci ks => by rw [Inl.mergeX]; unfold Inl.nf; exact Inl.nf_mergeA ks [] (by unfold Inl.nfL; trivial)
theorem Inl.nf_mergeA : ∀ (l out : List Inl), Inl.nfL false out → Inl.nfL false (Inl.mergeA out l)
  | [], out, h => by rw [Inl.mergeA]; exact h
  | x :: l, out, h => by rw [Inl.mergeA]; exact Inl.nf_mergeA l _ (nf_addM out _ h (Inl.nf_mergeX x))
end
mutual
theorem Inl.mergeX_nf : ∀ (x : Inl), x.nf → x.mergeX = x
  | .mk k t d ti a ar ci ks, h => by
    unfold Inl.nf at h
    rw [Inl.mergeX, Inl.mergeA_nf ks [] h, List.nil_append]
theorem Inl.mergeA_nf : ∀ (l out : List Inl), Inl.nfL (last1 false out) l → Inl.mergeA out l = out ++ l
  | [], out, h => by rw [Inl.mergeA, List.append_nil]
  | x :: l, out, h => by
    unfold Inl.nfL at h
    obtain ⟨h1, h2, h3⟩ := h
    rw [Inl.mergeA, Inl.mergeX_nf x h1]
    have e : addM out x = out ++ [x] := by
      unfold addM
      by_cases k1 : x.kd = 1
      · obtain ⟨k2, k3⟩ := h2 k1
        rw [if_pos k1, if_neg (by simp [k2])]
        unfold last1 at k3
        cases hl : out.getLast? with
        | none => rfl
        | some y =>
          rw [hl] at k3
          simp only at k3 ⊢
          rw [if_neg (by simpa using k3)]
      · rw [if_neg k1]
    rw [e, Inl.mergeA_nf l _ (by have : last1 false (out ++ [x]) = decide (x.kd = 1) := by { unfold last1; rw [List.getLast?_append]; rfl }
                                 rw [this]; exact h3), List.append_assoc]
    rfl
end
end Go.Proofs.YtlbioncagkkkoaaGreatDoor

namespace Go.Proofs.YtlbioncagkkkoaaGreatDoor
set_option linter.unusedVariables false
set_option linter.unusedSimpArgs false

theorem Inl.set_set (x : Inl) (a b : ByteArray) : (x.setTx a).setTx b = x.setTx b := by cases x; rfl
theorem Inl.set_tx (x : Inl) (a : ByteArray) : (x.setTx a).tx = a := by cases x; rfl
theorem Inl.set_kd (x : Inl) (a : ByteArray) : (x.setTx a).kd = x.kd := by cases x; rfl
theorem Inl.set_self (x : Inl) : x.setTx x.tx = x := by cases x; rfl
theorem addM_not (out : List Inl) (x : Inl) (h : x.kd ≠ 1) : addM out x = out ++ [x] := by unfold addM; rw [if_neg h]
theorem addM_empty (out : List Inl) (x : Inl) (h : x.kd = 1) (h2 : emptyS x.tx = true) : addM out x = out := by unfold addM; rw [if_pos h, if_pos h2]
theorem addM_first (out : List Inl) (x : Inl) (h : x.kd = 1) (h2 : emptyS x.tx = false) (hl : ∀ y, out.getLast? = some y → y.kd ≠ 1) : addM out x = out ++ [x] := by
  unfold addM
  rw [if_pos h, if_neg (by rw [h2]; decide)]
  cases hl2 : out.getLast? with
  | none => rfl
  | some y => simp only; rw [if_neg (hl y hl2)]
theorem addM_join (out : List Inl) (f x : Inl) (hf : f.kd = 1) (h : x.kd = 1) (h2 : emptyS x.tx = false) : addM (out ++ [f]) x = out ++ [f.setTx (f.tx ++ x.tx)] := by
  unfold addM
  rw [if_pos h, if_neg (by rw [h2]; decide)]
  simp [hf]

/-- Within a group of texts: the first one that is not empty, and what has been written. -/
def Grp (l out : List Inl) (j : Nat) (fi : Int) (c : ByteArray) : Prop :=
  (fi = -1 ∧ Inl.mergeL (l.take j) = out ∧ c.data.toList = []) ∨
  ∃ f : Nat, fi = f ∧ f < j ∧ ∃ x, l[f]? = some x ∧ x.kd = 1 ∧ Inl.mergeL (l.take j) = out ++ [x.mergeX.setTx c] ∧ c.data.toList ≠ []
theorem Grp.start (l : List Inl) (k : Nat) : Grp l (Inl.mergeL (l.take k)) k (-1) ⟨#[]⟩ := .inl ⟨rfl, rfl, rfl⟩
theorem mergeL_snoc {l : List Inl} {k : Nat} {x : Inl} (h : l[k]? = some x) : Inl.mergeL (l.take (k + 1)) = addM (Inl.mergeL (l.take k)) x.mergeX := Inl.mergeA_snoc l k x [] h
theorem empty_bytes {t : ByteArray} (h : emptyS t = true) : t.data.toList = [] := by simpa [emptyS] using h
theorem app_empty {c t : ByteArray} (h : emptyS t = true) : c ++ t = c := by
  have := empty_bytes h
  apply ByteArray.ext
  rw [ByteArray.data_append]
  apply Array.toList_inj.1
  rw [Array.toList_append, this, List.append_nil]
theorem nil_app0 {c t : ByteArray} (h : c.data.toList = []) : c ++ t = t := by
  apply ByteArray.ext
  rw [ByteArray.data_append]
  apply Array.toList_inj.1
  rw [Array.toList_append, h, List.nil_append]
theorem app_ne {c t : ByteArray} (h : emptyS t = false) : (c ++ t).data.toList ≠ [] := by
  rw [ByteArray.data_append, Array.toList_append]
  intro e
  have := (List.append_eq_nil_iff.1 e).2
  simp [emptyS, this] at h
theorem Grp.skip {l out : List Inl} {j : Nat} {fi : Int} {c : ByteArray} {x : Inl} (h : Grp l out j fi c) (hx : l[j]? = some x) (h1 : x.kd = 1) (h2 : emptyS x.tx = true) : Grp l out (j + 1) fi (c ++ x.tx) := by
  have hm : Inl.mergeL (l.take (j + 1)) = Inl.mergeL (l.take j) := by
    rw [mergeL_snoc hx, addM_empty _ _ (by rw [Inl.mergeX_kd]; exact h1) (by rw [Inl.mergeX_tx]; exact h2)]
  rw [app_empty h2]
  rcases h with ⟨h3, h4, h5⟩ | ⟨f, h3, h4, y, h5, h6, h7, h8⟩
  · exact .inl ⟨h3, by rw [hm]; exact h4, h5⟩
  · exact .inr ⟨f, h3, by omega, y, h5, h6, by rw [hm]; exact h7, h8⟩
theorem Grp.first {l out : List Inl} {j : Nat} {c : ByteArray} {x : Inl} (h : Grp l out j (-1) c) (hx : l[j]? = some x) (h1 : x.kd = 1) (h2 : emptyS x.tx = false) (hl : ∀ y, out.getLast? = some y → y.kd ≠ 1) : Grp l out (j + 1) j (c ++ x.tx) := by
  rcases h with ⟨-, h4, h5⟩ | ⟨f, h3, -⟩
  · refine .inr ⟨j, rfl, by omega, x, hx, h1, ?_, app_ne h2⟩
    rw [mergeL_snoc hx, h4, addM_first _ _ (by rw [Inl.mergeX_kd]; exact h1) (by rw [Inl.mergeX_tx]; exact h2) hl, nil_app0 h5, ← Inl.mergeX_tx, Inl.set_self]
  · omega
theorem Grp.more {l out : List Inl} {j f : Nat} {c : ByteArray} {x : Inl} (h : Grp l out j (f : Nat) c) (hx : l[j]? = some x) (h1 : x.kd = 1) (h2 : emptyS x.tx = false) : Grp l out (j + 1) (f : Nat) (c ++ x.tx) := by
  rcases h with ⟨h3, -⟩ | ⟨g, h3, h4, y, h5, h6, h7, -⟩
  · omega
  · refine .inr ⟨g, h3, by omega, y, h5, h6, ?_, app_ne h2⟩
    rw [mergeL_snoc hx, h7, addM_join _ _ _ (by rw [Inl.set_kd, Inl.mergeX_kd]; exact h6) (by rw [Inl.mergeX_kd]; exact h1) (by rw [Inl.mergeX_tx]; exact h2), Inl.set_set, Inl.set_tx, Inl.mergeX_tx]
/-- At the head of the outer loop: no text behind a text. -/
def Edge (l out : List Inl) (k : Nat) : Prop := ∀ x, l[k]? = some x → x.kd = 1 → ∀ y, out.getLast? = some y → y.kd ≠ 1
theorem Edge.zero (l : List Inl) : Edge l [] 0 := fun _ _ _ _ h => by simp at h
theorem Edge.one {l out : List Inl} {k : Nat} {x : Inl} (h : x.kd ≠ 1) : Edge l (out ++ [x]) k := fun _ _ _ y hy => by simp at hy; rw [← hy]; exact h
theorem Edge.stop {l out : List Inl} {k : Nat} (h : ∀ x, l[k]? = some x → x.kd ≠ 1) : Edge l out k := fun x hx h1 => absurd h1 (h x hx)
theorem addM_len (out : List Inl) (x : Inl) : (addM out x).length ≤ out.length + 1 := by
  unfold addM
  split
  · split
    · exact Nat.le_succ _
    · split
      · split
        · simp only [List.length_append, List.length_dropLast, List.length_cons, List.length_nil]; omega
        · simp
      · simp
  · simp
theorem mergeA_len : ∀ (l out : List Inl), (Inl.mergeA out l).length ≤ out.length + l.length
  | [], out => by rw [Inl.mergeA]; simp
  | x :: l, out => by rw [Inl.mergeA]; have h1 := mergeA_len l (addM out x.mergeX); have h2 := addM_len out x.mergeX; simp; omega
end Go.Proofs.YtlbioncagkkkoaaGreatDoor

namespace Go.Proofs.YtlbioncagkkkoaaGreatDoor
set_option linter.unusedVariables false
set_option linter.unusedSimpArgs false

def at0 : At := ⟨⟨#[]⟩, [], []⟩
def txI (t : ByteArray) : Inl := .mk 1 t ⟨#[]⟩ ⟨#[]⟩ at0 [] [] []
/-- An inline of a kind joined to the last one of that kind, all else appended. -/
def addK (q : Int) (out : List Inl) (x : Inl) : List Inl :=
  if x.kd = q then match out.getLast? with
    | some y => if y.kd = q then out.dropLast ++ [y.setTx (y.tx ++ x.tx)] else out ++ [x]
    | none => out ++ [x]
  else out ++ [x]
def joinK (q : Int) (l : List Inl) : List Inl := l.foldl (addK q) []
def fullB (x : Inl) : Bool := !decide (x.kd = 1) || !emptyS x.tx
def fullL (l : List Inl) : List Inl := l.filter fullB
theorem addM_addK (out : List Inl) (x : Inl) : addM out x = if fullB x = true then addK 1 out x else out := by
  unfold addM fullB addK
  by_cases h1 : x.kd = 1
  · by_cases h2 : emptyS x.tx = true
    · rw [if_pos h1, if_pos h2, if_neg (by simp [h1, h2])]
    · rw [if_pos h1, if_neg h2, if_pos (by simp [h2]), if_pos h1] <;> rfl
  · rw [if_neg h1, if_pos (by simp [h1]), if_neg h1]
theorem foldM_join : ∀ (l out : List Inl), l.foldl addM out = (fullL l).foldl (addK 1) out
  | [], out => rfl
  | x :: l, out => by
    unfold fullL
    rw [List.foldl_cons, List.filter_cons, addM_addK]
    by_cases h : fullB x = true
    · rw [if_pos h, if_pos h, List.foldl_cons]; exact foldM_join l _
    · rw [if_neg h, if_neg h]; exact foldM_join l _
theorem mergeA_fold : ∀ (l out : List Inl), Inl.mergeA out l = (l.map Inl.mergeX).foldl addM out
  | [], out => by rw [Inl.mergeA]; rfl
  | x :: l, out => by rw [Inl.mergeA, List.map_cons, List.foldl_cons]; exact mergeA_fold l _
theorem mergeL_join (l : List Inl) : Inl.mergeL l = joinK 1 (fullL (l.map Inl.mergeX)) := by
  unfold Inl.mergeL joinK
  rw [mergeA_fold, foldM_join]

mutual
/-- What an inline gives to an entry line: as the reference says (raw), each with entry lines of Kids. -/
def Inl.entX : Inl → List Inl
  | .mk k t d ti a ar ci ks =>
    if k = 9 ∨ k = 11 then joinK 4 (Inl.mergeL (Inl.entR ks))
    else if k = 12 ∨ k = 14 ∨ k = 13 then []
    else if k = 16 then [txI d]
    else if k = 2 ∨ k = 3 then [txI ⟨#[32]⟩]
    else if k = 10 then [.mk k t d ti at0 ar ci (joinK 4 (Inl.mergeL (Inl.entR ks)))]
    else if k = 6 ∨ k = 7 ∨ k = 8 then (if (joinK 4 (Inl.mergeL (Inl.entR ks))).isEmpty = true then [] else [.mk k t d ti a ar ci (joinK 4 (Inl.mergeL (Inl.entR ks)))])
    else [.mk k t d ti a ar ci ks]
def Inl.entR : List Inl → List Inl
  | [] => []
  | x :: l => x.entX ++ Inl.entR l
end
/-- The entry line of a line. -/
def entL (l : List Inl) : List Inl := joinK 4 (Inl.mergeL (Inl.entR l))
theorem entX_eq (k : Int) (t d ti : ByteArray) (a : At) (ar : List ByteArray) (ci : List Ci) (ks : List Inl) : Inl.entX (.mk k t d ti a ar ci ks) =
    if k = 9 ∨ k = 11 then entL ks
    else if k = 12 ∨ k = 14 ∨ k = 13 then []
    else if k = 16 then [txI d]
    else if k = 2 ∨ k = 3 then [txI ⟨#[32]⟩]
    else if k = 10 then [.mk k t d ti at0 ar ci (entL ks)]
    else if k = 6 ∨ k = 7 ∨ k = 8 then (if (entL ks).isEmpty = true then [] else [.mk k t d ti a ar ci (entL ks)])
    else [.mk k t d ti a ar ci ks] := by rw [Inl.entX]; rfl
/-- What the program gives: where the inline stays, its Kids are merged. -/
def Inl.entY : Inl → List Inl
  | .mk k t d ti a ar ci ks =>
    if k = 9 ∨ k = 11 then entL ks
    else if k = 12 ∨ k = 14 ∨ k = 13 then []
    else if k = 16 then [txI d]
    else if k = 2 ∨ k = 3 then [txI ⟨#[32]⟩]
    else if k = 10 then [.mk k t d ti at0 ar ci (entL ks)]
    else if k = 6 ∨ k = 7 ∨ k = 8 then (if (entL ks).isEmpty = true then [] else [.mk k t d ti a ar ci (entL ks)])
    else [.mk k t d ti a ar ci (Inl.mergeL ks)]
theorem last1_snoc (p : Bool) (l : List Inl) (x : Inl) : last1 p (l ++ [x]) = decide (x.kd = 1) := by unfold last1; rw [List.getLast?_append]; rfl
theorem nf_join4 : ∀ (l out : List Inl), Inl.nfL (last1 false out) l → Inl.nfL false out → Inl.nfL false (l.foldl (addK 4) out)
  | [], out, _, h => h
  | x :: l, out, hl, ho => by
    rw [Inl.nfL] at hl
    obtain ⟨h1, h2, h3⟩ := hl
    have hA : Inl.nfL false (out ++ [x]) := (Inl.nfL_snoc out false x).2 ⟨ho, h1, h2⟩
    have hAl : Inl.nfL (last1 false (out ++ [x])) l := by rw [last1_snoc]; exact h3
    rw [List.foldl_cons]
    unfold addK
    by_cases hx : x.kd = 4
    · rw [if_pos hx]
      cases hg : out.getLast? with
      | none => exact nf_join4 l _ hAl hA
      | some y =>
        simp only
        by_cases hy : y.kd = 4
        · rw [if_pos hy]
          rw [last_split hg] at ho
          obtain ⟨g1, g2, g3⟩ := (Inl.nfL_snoc _ _ _).1 ho
          have hk : (y.setTx (y.tx ++ x.tx)).kd = 4 := by rw [Inl.set_kd]; exact hy
          refine nf_join4 l _ ?_ ((Inl.nfL_snoc _ _ _).2 ⟨g1, nf_setTx y _ g2, fun e => by rw [hk] at e; cases e⟩)
          rw [last1_snoc, hk]
          rw [hx] at h3
          exact h3
        · rw [if_neg hy]; exact nf_join4 l _ hAl hA
    · rw [if_neg hx]; exact nf_join4 l _ hAl hA
theorem ent_nf (l : List Inl) : Inl.nfL false (entL l) := by
  unfold entL joinK
  refine nf_join4 _ [] ?_ (by unfold Inl.nfL; trivial)
  exact Inl.nf_mergeA (Inl.entR l) [] (by unfold Inl.nfL; trivial)
theorem nfL_mem : ∀ (l : List Inl) (p : Bool), Inl.nfL p l → ∀ x ∈ l, x.nf
  | [], _, _, x, hx => by cases hx
  | y :: l, p, h, x, hx => by
    rw [Inl.nfL] at h
    rcases List.mem_cons.1 hx with rfl | hx
    · exact h.1
    · exact nfL_mem l _ h.2.2 x hx
theorem map_nf (l : List Inl) (h : ∀ x ∈ l, x.nf) : l.map Inl.mergeX = l := by
  conv => rhs; rw [← List.map_id l]
  exact List.map_congr_left fun x hx => Inl.mergeX_nf x (h x hx)
theorem merge_ent (l : List Inl) : Inl.mergeL (entL l) = entL l := by
  have := Inl.mergeA_nf (entL l) [] (ent_nf l)
  rwa [List.nil_append] at this
theorem mergeX_mk (k : Int) (t d ti : ByteArray) (a : At) (ar : List ByteArray) (ci : List Ci) (ks : List Inl) : Inl.mergeX (.mk k t d ti a ar ci ks) = .mk k t d ti a ar ci (Inl.mergeL ks) := by rw [Inl.mergeX]; rfl
theorem mergeX_tx0 (t : ByteArray) : Inl.mergeX (txI t) = txI t := by unfold txI; rw [mergeX_mk]; unfold Inl.mergeL; rw [Inl.mergeA]
theorem entX_map (x : Inl) : x.entX.map Inl.mergeX = x.entY := by
  obtain ⟨k, t, d, ti, a, ar, ci, ks⟩ := x
  rw [entX_eq, Inl.entY]
  by_cases h1 : k = 9 ∨ k = 11
  · rw [if_pos h1, if_pos h1]; exact map_nf _ (nfL_mem _ _ (ent_nf ks))
  rw [if_neg h1, if_neg h1]
  by_cases h2 : k = 12 ∨ k = 14 ∨ k = 13
  · rw [if_pos h2, if_pos h2]; rfl
  rw [if_neg h2, if_neg h2]
  by_cases h3 : k = 16
  · rw [if_pos h3, if_pos h3]; simp [mergeX_tx0]
  rw [if_neg h3, if_neg h3]
  by_cases h4 : k = 2 ∨ k = 3
  · rw [if_pos h4, if_pos h4]; simp [mergeX_tx0]
  rw [if_neg h4, if_neg h4]
  by_cases h5 : k = 10
  · rw [if_pos h5, if_pos h5, List.map_singleton, mergeX_mk, merge_ent]
  rw [if_neg h5, if_neg h5]
  by_cases h6 : k = 6 ∨ k = 7 ∨ k = 8
  · rw [if_pos h6, if_pos h6]
    by_cases h7 : (entL ks).isEmpty = true
    · rw [if_pos h7]; rfl
    · rw [if_neg h7, List.map_singleton, mergeX_mk, merge_ent]
  rw [if_neg h6, if_neg h6]
  rw [List.map_singleton, mergeX_mk]
theorem entR_flat (l : List Inl) : Inl.entR l = l.flatMap Inl.entX := by
  induction l with
  | nil => rw [Inl.entR]; rfl
  | cons x l ih => rw [Inl.entR, ih, List.flatMap_cons]
/-- The program's way to an entry line. -/
theorem entL_prog (l : List Inl) : entL l = joinK 4 (joinK 1 (fullL (l.flatMap Inl.entY))) := by
  unfold entL
  rw [mergeL_join, entR_flat, List.map_flatMap]
  have : (fun x : Inl => x.entX.map Inl.mergeX) = Inl.entY := funext entX_map
  rw [this]
end Go.Proofs.YtlbioncagkkkoaaGreatDoor

namespace Go.Proofs.YtlbioncagkkkoaaGreatDoor
open Go.RowKit
set_option linter.unusedVariables false
set_option linter.unusedSimpArgs false

/-- It answers and draws no more than orders. -/
def Dr (v : Value) (w : World) (e : Ending) (w' : World) : Prop := e = .returned v ∧ ∃ q, w' = w.drewN q
theorem Dr.zero {v : Value} {w : World} : Dr v w (.returned v) w := ⟨rfl, 0, rfl⟩

end Go.Proofs.YtlbioncagkkkoaaGreatDoor

namespace Go.Proofs.YtlbioncagkkkoaaGreatDoor
open Go.RowKit
set_option linter.unusedVariables false
set_option linter.unusedSimpArgs false

theorem emp_eq (s : ByteArray) : s.toList.isEmpty = emptyS s := by
  rw [Lib.toList_data, Bool.eq_iff_iff]; simp [emptyS]
end Go.Proofs.YtlbioncagkkkoaaGreatDoor

namespace Go.Proofs.YtlbioncagkkkoaaGreatDoor
open Go.RowKit
set_option linter.unusedVariables false
set_option linter.unusedSimpArgs false

end Go.Proofs.YtlbioncagkkkoaaGreatDoor

namespace Go.Proofs.YtlbioncagkkkoaaGreatDoor
open Go.RowKit
set_option linter.unusedVariables false
set_option linter.unusedSimpArgs false

def EtB (T : TypeId) (p : Nat) (cs : List Value) (w : World) (mb n : Nat) (S : List ByteArray) (wr : World) : Prop := CB T p cs wr ∧ SetAt wr mb n S ∧ Below w.heap.size w wr ∧ w.heap.size ≤ mb ∧ p ≠ mb ∧ w.heap.size ≤ p
theorem EtB.put {T : TypeId} {p : Nat} {cs : List Value} {w : World} {mb n n' : Nat} {S S' : List ByteArray} {wr w' : World} (h : EtB T p cs w mb n S wr) (hg : wr.grownBy w' (some mb)) (hs : SetAt w' mb n' S') : EtB T p cs w mb n' S' w' :=
  ⟨(hg.block p h.1.lt (fun e => h.2.2.2.2.1 (by injection e))).trans h.1, hs, h.2.2.1.grown hg h.2.2.1.size (fun j hj => by cases hj; exact h.2.2.2.1), h.2.2.2⟩
theorem EtB.alloc {T : TypeId} {p : Nat} {cs : List Value} {w : World} {mb n : Nat} {S : List ByteArray} {wr : World} (h : EtB T p cs w mb n S wr) (o : Obj) : EtB T p cs w mb n S (wr.alloc o) :=
  ⟨h.1.below ((Below.refl _ _).alloc (Nat.le_refl _) _), h.2.1.below ((Below.refl _ _).alloc (Nat.le_refl _) _), h.2.2.1.alloc h.2.2.1.size _, h.2.2.2⟩
theorem EtB.drewN {T : TypeId} {p : Nat} {cs : List Value} {w : World} {mb n : Nat} {S : List ByteArray} {wr : World} (h : EtB T p cs w mb n S wr) (q : Nat) : EtB T p cs w mb n S (wr.drewN q) :=
  ⟨h.1, h.2.1, below_dN h.2.2.1 q, h.2.2.2⟩
end Go.Proofs.YtlbioncagkkkoaaGreatDoor

namespace Go.Proofs.YtlbioncagkkkoaaGreatDoor
open Go.RowKit
set_option linter.unusedVariables false
set_option linter.unusedSimpArgs false

end Go.Proofs.YtlbioncagkkkoaaGreatDoor

namespace Go.Proofs.YtlbioncagkkkoaaGreatDoor
open Go.RowKit
set_option linter.unusedVariables false
set_option linter.unusedSimpArgs false

mutual
def Blk.dep : Blk → Nat
  | .mk _ _ _ _ _ _ _ _ ks => 1 + Blk.depL ks
def Blk.depL : List Blk → Nat
  | [] => 0
  | x :: l => max x.dep (Blk.depL l)
end
end Go.Proofs.YtlbioncagkkkoaaGreatDoor
