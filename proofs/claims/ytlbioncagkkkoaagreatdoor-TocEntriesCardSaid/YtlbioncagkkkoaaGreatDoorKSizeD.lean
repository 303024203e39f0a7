/- Contracts of chars.width, second, unclean, Next, Valid; of attr.cleanLine, tree.cleanLine, trimmed, cleanText. Contracts of attr.cleanLine, tree.cleanLine, trimmed, cleanText, address' first test; attr.Empty. Contracts of attr.Empty, tree.oneOf, anyKind, inlineFields. The contract of attr.Check: the first error of attributes. Contracts of attr.wordEnd from any index. The contract of attr.readValue. Contracts of slices.Index and Contains at a row of texts of one's own; attr.Has, attr.Get, addClass, addPair at an attribute of one's own. An attribute of one's own in memory; the contracts of attr.addClass and attr.addPair. The contract of attr.readItem. publisherref04.count, sizes, Size, Depth; tree.sizeOfLine, sizeOfBlocks, Size, Depth. Size and Depth of documents, of tree and of the reference. -/
import Derived.Test.YtlbioncagkkkoaaGreatDoorKPlParse
import Derived.Test.YtlbioncagkkkoaaGreatDoorKShelf
import Derived.Laws.BitsAllLaws
import Derived.Laws.BitsLemmas
import Derived.Test.YtlbioncagkkkoaaGreatDoorKSame
import Derived.Test.YtlbioncagkkkoaaGreatDoorKTcM
import Derived.Deep.DeepCutAuto
import Derived.Test.YtlbioncagkkkoaaGreatDoorKBuilderK
import Derived.BigGuard
import Derived.Lib.SmallJoins
import Derived.Test.YtlbioncagkkkoaaGreatDoorKInlsW
import Derived.Lib.OwnKind
import Derived.Test.YtlbioncagkkkoaaGreatDoorKSmall
import Derived.BigRegion
namespace Go.Proofs.YtlbioncagkkkoaaGreatDoor
open Go.RowKit
set_option linter.unusedVariables false
set_option linter.unusedSimpArgs false

/-- The further bytes of a sequence, and the value with them. -/
def contG (s : ByteArray) : Nat → Nat → Nat → Option Nat
  | 0, _, c => some c
  | r + 1, p, c => if p < s.size ∧ 128 ≤ bt s p ∧ bt s p ≤ 191 then contG s r (p + 1) (c * 64 + (bt s p - 128)) else none
def seqV (s : ByteArray) (i : Nat) (n : Nat) : Option Nat → Nat × Nat
  | none => (65533, 1)
  | some c => (c, n)
set_option maxHeartbeats 1000000 in
theorem dec_seq2 (s : ByteArray) (i : Nat) (hi : i < s.size) (h : 194 ≤ bt s i) (h' : bt s i ≤ 223) : Utf8.decode s i = seqV s i 2 (contG s 1 (i + 1) (bt s i % 32)) := by
  obtain ⟨d1, d2⟩ := dec_two s i hi h h'
  unfold moreV at d1 d2
  rw [contG, contG]
  split
  · rename_i hc
    rw [if_pos hc] at d1 d2
    obtain ⟨e1, e2⟩ := d2 (by omega)
    refine Prod.ext ?_ e2
    show _ = bt s i % 32 * 64 + (bt s (i + 1) - 128)
    omega
  · rename_i hc
    rw [if_neg hc] at d1
    exact d1 (by omega)
set_option maxHeartbeats 1000000 in
theorem dec_seq3 (s : ByteArray) (i : Nat) (hi : i < s.size) (h : 224 ≤ bt s i) (h' : bt s i ≤ 239) :
    ((¬ (i + 1 < s.size ∧ lowOf (bt s i) ≤ bt s (i + 1) ∧ bt s (i + 1) ≤ highOf (bt s i)) ∨ s.size < i + 3) → Utf8.decode s i = (65533, 1)) ∧
    (lowOf (bt s i) ≤ bt s (i + 1) → bt s (i + 1) ≤ highOf (bt s i) → Utf8.decode s i = seqV s i 3 (contG s 2 (i + 1) (bt s i % 16))) := by
  obtain ⟨d1, d2⟩ := dec_three s i hi h h'
  have hl : 128 ≤ lowOf (bt s i) := by unfold lowOf; split <;> (try split) <;> omega
  have hh : highOf (bt s i) ≤ 191 := by unfold highOf; split <;> (try split) <;> omega
  unfold moreV at d1 d2
  constructor
  · rintro (hc | hc)
    · rw [if_neg hc] at d1; exact d1 (.inl (by omega))
    · rw [if_neg (c := i + 2 < s.size ∧ _) (by omega)] at d1; exact d1 (.inr (by omega))
  · intro h1 h2
    rw [contG, contG, contG, show i + 1 + 1 = i + 2 from rfl]
    by_cases k1 : i + 1 < s.size
    · have hc : i + 1 < s.size ∧ lowOf (bt s i) ≤ bt s (i + 1) ∧ bt s (i + 1) ≤ highOf (bt s i) := ⟨k1, h1, h2⟩
      rw [if_pos hc] at d1 d2
      rw [if_pos ⟨k1, by omega, by omega⟩]
      split
      · rename_i hc2
        rw [if_pos hc2] at d2
        obtain ⟨e1, e2⟩ := d2 (by omega) (by omega)
        refine Prod.ext ?_ e2
        show _ = (bt s i % 16 * 64 + (bt s (i + 1) - 128)) * 64 + (bt s (i + 2) - 128)
        omega
      · rename_i hc2
        rw [if_neg (c := i + 2 < s.size ∧ _) hc2] at d1
        exact d1 (.inr (by omega))
    · rw [if_neg (c := i + 1 < s.size ∧ lowOf _ ≤ _ ∧ _) (by omega)] at d1
      rw [if_neg (by omega)]
      exact d1 (.inl (by omega))
set_option maxHeartbeats 1000000 in
theorem dec_seq4 (s : ByteArray) (i : Nat) (hi : i < s.size) (h : 240 ≤ bt s i) (h' : bt s i ≤ 244) :
    ((¬ (i + 1 < s.size ∧ lowOf (bt s i) ≤ bt s (i + 1) ∧ bt s (i + 1) ≤ highOf (bt s i)) ∨ s.size < i + 4) → Utf8.decode s i = (65533, 1)) ∧
    (lowOf (bt s i) ≤ bt s (i + 1) → bt s (i + 1) ≤ highOf (bt s i) → Utf8.decode s i = seqV s i 4 (contG s 3 (i + 1) (bt s i % 8))) := by
  obtain ⟨d1, d2⟩ := dec_four s i hi h h'
  have hl : 128 ≤ lowOf (bt s i) := by unfold lowOf; split <;> (try split) <;> omega
  have hh : highOf (bt s i) ≤ 191 := by unfold highOf; split <;> (try split) <;> omega
  unfold moreV at d1 d2
  constructor
  · rintro (hc | hc)
    · rw [if_neg hc] at d1; exact d1 (.inl (by omega))
    · rw [if_neg (c := i + 3 < s.size ∧ _) (by omega)] at d1; exact d1 (.inr (.inr (by omega)))
  · intro h1 h2
    rw [contG, contG, contG, contG, show i + 1 + 1 = i + 2 from rfl, show i + 2 + 1 = i + 3 from rfl]
    by_cases k1 : i + 1 < s.size
    · have hc : i + 1 < s.size ∧ lowOf (bt s i) ≤ bt s (i + 1) ∧ bt s (i + 1) ≤ highOf (bt s i) := ⟨k1, h1, h2⟩
      rw [if_pos hc] at d1 d2
      rw [if_pos ⟨k1, by omega, by omega⟩]
      by_cases hc2 : i + 2 < s.size ∧ 128 ≤ bt s (i + 2) ∧ bt s (i + 2) ≤ 191
      · rw [if_pos hc2] at d1 d2
        rw [if_pos (by exact hc2)]
        split
        · rename_i hc3
          rw [if_pos hc3] at d2
          obtain ⟨e1, e2⟩ := d2 (by omega) (by omega) (by omega)
          refine Prod.ext ?_ e2
          show _ = ((bt s i % 8 * 64 + (bt s (i + 1) - 128)) * 64 + (bt s (i + 2) - 128)) * 64 + (bt s (i + 3) - 128)
          omega
        · rename_i hc3
          rw [if_neg (c := i + 3 < s.size ∧ _) hc3] at d1
          exact d1 (.inr (.inr (by omega)))
      · rw [if_neg hc2] at d1
        rw [if_neg (by exact hc2)]
        exact d1 (.inr (.inl (by omega)))
    · rw [if_neg (c := i + 1 < s.size ∧ lowOf _ ≤ _ ∧ _) (by omega)] at d1
      rw [if_neg (by omega)]
      exact d1 (.inl (by omega))

/-- It answers and draws no more than orders. -/
def Dr (v : Value) (w : World) (e : Ending) (w' : World) : Prop := e = .returned v ∧ ∃ q, w' = w.drewN q
theorem Dr.zero {v : Value} {w : World} : Dr v w (.returned v) w := ⟨rfl, 0, rfl⟩

end Go.Proofs.YtlbioncagkkkoaaGreatDoor

namespace Go.Proofs.YtlbioncagkkkoaaGreatDoor
open Go.RowKit
set_option linter.unusedVariables false
set_option linter.unusedSimpArgs false

theorem emp_eq (s : ByteArray) : s.toList.isEmpty = emptyS s := by
  rw [Lib.toList_data, Bool.eq_iff_iff]; simp [emptyS]
theorem emp_size (s : ByteArray) : emptyS s = decide (s.size = 0) := by
  have h : s.data.toList.length = s.size := by simp
  unfold emptyS
  rw [Bool.eq_iff_iff, decide_eq_true_iff, decide_eq_true_iff, ← h, List.length_eq_zero_iff]
theorem emp_is (s : ByteArray) : emptyS s = decide (s = ByteArray.empty) := by
  unfold emptyS
  rw [Bool.eq_iff_iff, decide_eq_true_iff, decide_eq_true_iff]
  constructor
  · intro h; exact ByteArray.ext (Array.ext' h)
  · rintro rfl; rfl
theorem emp_part (s : ByteArray) : s = ByteArray.empty ∨ (s ≠ ByteArray.empty ∧ 0 < s.size ∧ s.toList.isEmpty = false ∧ emptyS s = false) := by
  by_cases h : s = ByteArray.empty
  · exact .inl h
  · have h1 : emptyS s = false := by rw [emp_is]; simpa using h
    refine .inr ⟨h, ?_, by rw [emp_eq]; exact h1, h1⟩
    rw [emp_size] at h1
    have : s.size ≠ 0 := by simpa using h1
    omega

theorem head_bt (s : ByteArray) (c : UInt8) (h : 0 < s.size) : decide (s.data.toList.head? = some c) = decide (bt s 0 = c.toNat) := by
  have h1 : s.data.toList.head? = some s[0] := by rw [← byte_get s 0 h]; exact List.head?_eq_getElem?
  rw [h1, ← bt_eq s 0 h, Bool.eq_iff_iff]
  simp [UInt8.toNat_inj]
theorem last_bt (s : ByteArray) (c : UInt8) (h : 0 < s.size) : decide (s.data.toList.getLast? = some c) = decide (bt s (s.size - 1) = c.toNat) := by
  have h1 : s.data.toList.getLast? = some s[s.size - 1] := by
    rw [← byte_get s (s.size - 1) (by omega), List.getLast?_eq_getElem?]
    congr 1
  rw [h1, ← bt_eq s (s.size - 1) (by omega), Bool.eq_iff_iff]
  simp [UInt8.toNat_inj]

end Go.Proofs.YtlbioncagkkkoaaGreatDoor

namespace Go.Proofs.YtlbioncagkkkoaaGreatDoor
open Go.RowKit
set_option linter.unusedVariables false
set_option linter.unusedSimpArgs false

/-- It answers, and what was there is as it was. -/
def RetB (v : Value) (w : World) (e : Ending) (w' : World) : Prop := e = .returned v ∧ Below w.heap.size w w'
theorem len0 {α : Type} (l : List α) : (((l.length : Nat) : Int) == 0) = l.isEmpty := by
  cases l with
  | nil => rfl
  | cons x l => simp; omega

def OoRel (n : Int) (ks : List Int) (vi : Value) : Prop := ∃ k : Nat, k ≤ ks.length ∧ vi = .int .i64 k ∧ (ks.take k).contains n = false
theorem Inl.anyL_app (ks : List Int) : ∀ (l m : List Inl), Inl.anyL ks (l ++ m) = (Inl.anyL ks l || Inl.anyL ks m)
  | [], m => by rw [List.nil_append, Inl.anyL]; rfl
  | x :: l, m => by rw [List.cons_append, Inl.anyL, Inl.anyL, Inl.anyL_app ks l m, Bool.or_assoc]
theorem Inl.anyL_snoc (ks : List Int) {l : List Inl} {k : Nat} {x : Inl} (hx : l[k]? = some x) : Inl.anyL ks (l.take (k + 1)) = (Inl.anyL ks (l.take k) || x.anyK ks) := by
  rw [List.take_add_one, hx, Inl.anyL_app, Option.toList_some, Inl.anyL, Inl.anyL, Bool.or_false]
theorem Inl.anyL_get (ks : List Int) : ∀ {l : List Inl} {k : Nat} {x : Inl}, l[k]? = some x → x.anyK ks = true → Inl.anyL ks l = true
  | [], _, _, h, _ => by simp at h
  | y :: l, 0, x, h, hx => by simp at h; subst h; rw [Inl.anyL, hx]; rfl
  | y :: l, k + 1, x, h, hx => by rw [Inl.anyL, Inl.anyL_get ks (l := l) (k := k) (by simpa using h) hx, Bool.or_true]

end Go.Proofs.YtlbioncagkkkoaaGreatDoor

namespace Go.Proofs.YtlbioncagkkkoaaGreatDoor
open Go.RowKit
set_option linter.unusedVariables false
set_option linter.unusedSimpArgs false

def EtB (T : TypeId) (p : Nat) (cs : List Value) (w : World) (mb n : Nat) (S : List ByteArray) (wr : World) : Prop := CB T p cs wr ∧ SetAt wr mb n S ∧ Below w.heap.size w wr ∧ w.heap.size ≤ mb ∧ p ≠ mb ∧ w.heap.size ≤ p
theorem EtB.put {T : TypeId} {p : Nat} {cs : List Value} {w : World} {mb n n' : Nat} {S S' : List ByteArray} {wr w' : World} (h : EtB T p cs w mb n S wr) (hg : wr.grownBy w' (some mb)) (hs : SetAt w' mb n' S') : EtB T p cs w mb n' S' w' :=
  ⟨(hg.block p h.1.lt (fun e => h.2.2.2.2.1 (by injection e))).trans h.1, hs, h.2.2.1.grown hg h.2.2.1.size (fun j hj => by cases hj; exact h.2.2.2.1), h.2.2.2⟩
theorem EtB.alloc {T : TypeId} {p : Nat} {cs : List Value} {w : World} {mb n : Nat} {S : List ByteArray} {wr : World} (h : EtB T p cs w mb n S wr) (o : Obj) : EtB T p cs w mb n S (wr.alloc o) :=
  ⟨h.1.below ((Below.refl _ _).alloc (Nat.le_refl _) _), h.2.1.below ((Below.refl _ _).alloc (Nat.le_refl _) _), h.2.2.1.alloc h.2.2.1.size _, h.2.2.2⟩
theorem EtB.drewN {T : TypeId} {p : Nat} {cs : List Value} {w : World} {mb n : Nat} {S : List ByteArray} {wr : World} (h : EtB T p cs w mb n S wr) (q : Nat) : EtB T p cs w mb n S (wr.drewN q) :=
  ⟨h.1, h.2.1, below_dN h.2.2.1 q, h.2.2.2⟩
end Go.Proofs.YtlbioncagkkkoaaGreatDoor

namespace Go.Proofs.YtlbioncagkkkoaaGreatDoor
open Go.RowKit
set_option linter.unusedVariables false
set_option linter.unusedSimpArgs false

/-- The bytes from an index on. -/
def frm (s : ByteArray) (i : Nat) : List UInt8 := s.data.toList.drop i
theorem frm_len (s : ByteArray) (i : Nat) : (frm s i).length = s.size - i := by unfold frm; simp
theorem frm_cons (s : ByteArray) (i : Nat) (h : i < s.size) : frm s i = s[i] :: frm s (i + 1) := by
  unfold frm
  have h1 : i < s.data.toList.length := by simpa using h
  rw [List.drop_eq_getElem_cons h1]
  congr 1
theorem frm_end (s : ByteArray) (i : Nat) (h : s.size ≤ i) : frm s i = [] := List.drop_eq_nil_of_le (by simpa using h)
theorem frm_head (s : ByteArray) (i : Nat) (h : i < s.size) : (frm s i).head? = some s[i] := by rw [frm_cons s i h]; rfl
/-- Where a word that begins at i ends. -/
def wEndI (s : ByteArray) (i : Nat) : Nat := i + ((frm s i).takeWhile nmB).length
theorem wEndI_le (s : ByteArray) (i : Nat) (h : i ≤ s.size) : wEndI s i ≤ s.size := by
  unfold wEndI
  have h1 := (List.takeWhile_sublist (p := nmB) (l := frm s i)).length_le
  rw [frm_len] at h1
  omega
theorem frm_wEnd (s : ByteArray) (i : Nat) : frm s (wEndI s i) = (frm s i).dropWhile nmB := by
  unfold wEndI frm
  rw [← List.drop_drop]
  generalize s.data.toList.drop i = l
  induction l with
  | nil => rfl
  | cons c l ih =>
    by_cases h : nmB c = true
    · rw [List.takeWhile_cons_of_pos h, List.dropWhile_cons_of_pos h, List.length_cons, List.drop_succ_cons]; exact ih
    · rw [List.takeWhile_cons_of_neg h, List.dropWhile_cons_of_neg h]; rfl
theorem word_text (s : ByteArray) (i : Nat) (h : i ≤ s.size) : s.extract i (wEndI s i) = bsOf ((frm s i).takeWhile nmB) := by
  apply ByteArray.ext
  apply Array.toList_inj.1
  unfold bsOf
  rw [ByteArray.data_extract, Array.toList_extract]
  have h2 : (frm s i).take (wEndI s i - i) = (frm s i).takeWhile nmB := by
    unfold wEndI
    rw [Nat.add_sub_cancel_left]
    generalize frm s i = l
    induction l with
    | nil => rfl
    | cons c l ih =>
      by_cases h : nmB c = true
      · rw [List.takeWhile_cons_of_pos h, List.length_cons, List.take_succ_cons, ih]
      · rw [List.takeWhile_cons_of_neg h]; rfl
  rw [← h2]
  unfold frm
  simp [List.extract_eq_take_drop]

end Go.Proofs.YtlbioncagkkkoaaGreatDoor

namespace Go.Proofs.YtlbioncagkkkoaaGreatDoor
open Go.RowKit
set_option linter.unusedVariables false
set_option linter.unusedSimpArgs false

end Go.Proofs.YtlbioncagkkkoaaGreatDoor

namespace Go.Proofs.YtlbioncagkkkoaaGreatDoor
open Go.RowKit
set_option linter.unusedVariables false
set_option linter.unusedSimpArgs false

theorem hasB_drop (l : List ByteArray) (k : Nat) (y x : ByteArray) (h : l[k]? = some y) : hasB (l.drop k) x = (decide (y = x) || hasB (l.drop (k + 1)) x) := by
  rw [drop_cons l k y h]; rfl

def pcs (p : Pr) : List Value := [.string p.key, .string p.val]
def prCells (l : List Pr) : List Value := (l.map pcs).flatten
theorem prCells_get (l : List Pr) (k : Nat) (p : Pr) (h : l[k]? = some p) : (prCells l)[k * 2]? = some (.string p.key) ∧ (prCells l)[k * 2 + 1]? = some (.string p.val) := by
  have h2 : ∀ r ∈ l.map pcs, r.length = 2 := by intro r hr; obtain ⟨q, _, rfl⟩ := List.mem_map.1 hr; rfl
  have hr : (l.map pcs)[k]? = some (pcs p) := by rw [List.getElem?_map, h]; rfl
  exact ⟨flat_get 2 _ h2 k 0 _ _ hr rfl, flat_get 2 _ h2 k 1 _ _ hr rfl⟩

end Go.Proofs.YtlbioncagkkkoaaGreatDoor

namespace Go.Proofs.YtlbioncagkkkoaaGreatDoor
open Go.RowKit
set_option linter.unusedVariables false
set_option linter.unusedSimpArgs false

/-- Below B only block b has changed. -/
structure Kx (B b : Nat) (w w' : World) : Prop where
  os : w'.os = w.os
  tape : w'.tape = w.tape
  output : w'.output = w.output
  size : w.heap.size ≤ w'.heap.size
  block : ∀ k, k < B → k ≠ b → w'.heap[k]? = w.heap[k]?
section
variable {B b : Nat} {w w' w1 w2 : World}
theorem Kx.refl (B b : Nat) (w : World) : Kx B b w w := ⟨rfl, rfl, rfl, Nat.le_refl _, fun _ _ _ => rfl⟩
theorem Kx.trans (h : Kx B b w w1) (k : Kx B b w1 w2) : Kx B b w w2 :=
  ⟨k.os.trans h.os, k.tape.trans h.tape, k.output.trans h.output, Nat.le_trans h.size k.size, fun i h1 h2 => (k.block i h1 h2).trans (h.block i h1 h2)⟩
theorem Kx.of (h : Below w.heap.size w w1) (hB : B ≤ w.heap.size) : Kx B b w w1 := ⟨h.os, h.tape, h.output, h.size, fun i h1 _ => h.block i (by omega)⟩
theorem Kx.grown {row : Option Nat} (h : w.grownBy w1 row) (hB : B ≤ w.heap.size) (hr : ∀ g, row = some g → B ≤ g) : Kx B b w w1 :=
  ⟨h.os, h.tape, h.output, h.size, fun i h1 _ => h.block i (by omega) (fun e => by have := hr i e.symm; omega)⟩
theorem Kx.set (w : World) (j : Nat) (u : Value) : Kx B b w (w.setCell ⟨b, j, none⟩ u) :=
  ⟨rfl, rfl, rfl, by simp [World.setCell], fun i _ h2 => Below.heap_setCell w ⟨b, j, none⟩ u i h2⟩
end

/-- The attribute a lies in block b; its rows are of one's own, at B or above. -/
structure AtO (B b : Nat) (a : At) (vc vp : Value) (w : World) : Prop where
  ab : AB b [.string a.id, vc, vp] w
  cls : w.ownsRow B 9 1 vc a.cls.length (a.cls.map Value.string)
  prs : w.ownsRow B 58 2 vp a.prs.length (prCells a.prs)
  lt : b < B
  le : B ≤ w.heap.size
section
variable {B b : Nat} {a : At} {vc vp v1 : Value} {w w1 w2 : World}
theorem AtO.below (h : AtO B b a vc vp w) (hb : Below w.heap.size w w1) : AtO B b a vc vp w1 :=
  ⟨(hb.block b h.ab.lt).trans h.ab, own_below h.cls hb, own_below h.prs hb, h.lt, Nat.le_trans h.le hb.size⟩
theorem AtO.apart (h : AtO B b a vc vp w) : vc.ownBlock = none ∨ vc.ownBlock ≠ vp.ownBlock := by
  cases hc : vc.ownBlock with
  | none => exact .inl rfl
  | some g =>
    right
    intro e
    obtain ⟨c1, f1, e1⟩ := Lib.ownsRow_kind h.cls g hc
    obtain ⟨c2, f2, e2⟩ := Lib.ownsRow_kind h.prs g e.symm
    rw [e1] at e2
    simp at e2
theorem AtO.apart' (h : AtO B b a vc vp w) : vp.ownBlock = none ∨ vp.ownBlock ≠ vc.ownBlock := by
  rcases h.apart with h1 | h1
  · cases hc : vp.ownBlock with
    | none => exact .inl rfl
    | some g => right; rw [h1]; simp
  · exact .inr fun e => h1 e.symm
theorem AtO.pushC {x : ByteArray} {o : Obj} (h : AtO B b a vc vp w) (hg : (w.alloc o).grownBy w1 vc.ownBlock) (hown : w1.ownsRow B 9 1 v1 (a.cls.length + 1) (a.cls.map Value.string ++ [.string x])) :
    w1.frozen? ⟨b, 1, none⟩ = false ∧ w1.cell? ⟨b, 1, none⟩ = some vc ∧ AtO B b ⟨a.id, a.cls ++ [x], a.prs⟩ v1 vp (w1.setCell ⟨b, 1, none⟩ v1) ∧ Kx B b w (w1.setCell ⟨b, 1, none⟩ v1) := by
  have hal : Below w.heap.size w (w.alloc o) := (Below.refl _ _).alloc (Nat.le_refl _) _
  have h0 := h.below hal
  have hr : ∀ g, vc.ownBlock = some g → B ≤ g := fun g hgv => (h.cls.lt g hgv).1
  have hab1 : AB b [.string a.id, vc, vp] w1 := (hg.block b h0.ab.lt (fun e => by have := hr b e.symm; have := h.lt; omega)).trans h0.ab
  refine ⟨hab1.free 1, hab1.cell 1 _ rfl, ⟨hab1.set 1 v1, ?_, ?_, h.lt, ?_⟩, ?_⟩
  · exact ownsRow_setCell_below (by simpa using hown) h.lt v1
  · exact ownsRow_setCell_below (h0.prs.kept hg h.apart') h.lt v1
  · exact Nat.le_trans h0.le (by simpa [World.setCell] using hg.size)
  · exact ((Kx.of hal h.le).trans (Kx.grown hg h0.le hr)).trans (Kx.set w1 1 v1)
theorem AtO.pushP {x : Pr} {o : Obj} (h : AtO B b a vc vp w) (hg : (w.alloc o).grownBy w1 vp.ownBlock) (hown : w1.ownsRow B 58 2 v1 (a.prs.length + 1) (prCells a.prs ++ pcs x)) :
    w1.frozen? ⟨b, 2, none⟩ = false ∧ w1.cell? ⟨b, 2, none⟩ = some vp ∧ AtO B b ⟨a.id, a.cls, a.prs ++ [x]⟩ vc v1 (w1.setCell ⟨b, 2, none⟩ v1) ∧ Kx B b w (w1.setCell ⟨b, 2, none⟩ v1) := by
  have hal : Below w.heap.size w (w.alloc o) := (Below.refl _ _).alloc (Nat.le_refl _) _
  have h0 := h.below hal
  have hr : ∀ g, vp.ownBlock = some g → B ≤ g := fun g hgv => (h.prs.lt g hgv).1
  have hab1 : AB b [.string a.id, vc, vp] w1 := (hg.block b h0.ab.lt (fun e => by have := hr b e.symm; have := h.lt; omega)).trans h0.ab
  refine ⟨hab1.free 2, hab1.cell 2 _ rfl, ⟨hab1.set 2 v1, ?_, ?_, h.lt, ?_⟩, ?_⟩
  · exact ownsRow_setCell_below (h0.cls.kept hg h.apart) h.lt v1
  · refine ownsRow_setCell_below ?_ h.lt v1
    have e : prCells (a.prs ++ [x]) = prCells a.prs ++ pcs x := by simp [prCells]
    rw [e]
    simpa using hown
  · exact Nat.le_trans h0.le (by simpa [World.setCell] using hg.size)
  · exact ((Kx.of hal h.le).trans (Kx.grown hg h0.le hr)).trans (Kx.set w1 2 v1)
end

end Go.Proofs.YtlbioncagkkkoaaGreatDoor

namespace Go.Proofs.YtlbioncagkkkoaaGreatDoor
open Go.RowKit
set_option linter.unusedVariables false
set_option linter.unusedSimpArgs false

theorem item_form (a : At) (s : ByteArray) (i j : Nat) (h : afterSign (frm s i) = frm s j) (hj : j ≤ s.size) :
    itemL a (frm s i) = if nameOk (s.extract j (wEndI s j)) = false then none
      else if (frm s i).head? = some 35 then (if emptyS a.id = false then none else some (⟨s.extract j (wEndI s j), a.cls, a.prs⟩, frm s (wEndI s j)))
      else if (frm s i).head? = some 46 then (if hasB a.cls (s.extract j (wEndI s j)) = true then none else if 32 ≤ a.cls.length then none
        else some (⟨a.id, a.cls ++ [s.extract j (wEndI s j)], a.prs⟩, frm s (wEndI s j)))
      else if (frm s (wEndI s j)).head? = some 61 then (match valueL (frm s (wEndI s j)).tail with
        | none => none
        | some (v, r) => if hasB (keysOf a) (s.extract j (wEndI s j)) = true then none else if 32 ≤ a.prs.length then none
          else some (⟨a.id, a.cls, a.prs ++ [⟨s.extract j (wEndI s j), v⟩]⟩, r))
      else none := by
  unfold itemL
  rw [h, word_text s j hj, frm_wEnd]
  rfl

end Go.Proofs.YtlbioncagkkkoaaGreatDoor

namespace Go.Proofs.YtlbioncagkkkoaaGreatDoor
open Go.RowKit
set_option linter.unusedVariables false
set_option linter.unusedSimpArgs false

theorem Inl.szL_part (l : List Inl) (k : Nat) (x : Inl) (h : l[k]? = some x) : Inl.szL (l.take k) + x.sz ≤ Inl.szL l := by
  have h1 : Inl.szL (l.take (k + 1)) ≤ Inl.szL l := by
    have := Inl.szL_app (l.take (k + 1)) (l.drop (k + 1))
    rw [List.take_append_drop] at this
    omega
  rw [Inl.szL_snoc h] at h1
  exact h1
theorem Blk.allL_part (l : List Blk) (k : Nat) (x : Blk) (h : l[k]? = some x) : Blk.allL (l.take k) + x.all ≤ Blk.allL l := by
  have h1 : Blk.allL (l.take (k + 1)) ≤ Blk.allL l := by
    have := Blk.allL_app (l.take (k + 1)) (l.drop (k + 1))
    rw [List.take_append_drop] at this
    omega
  rw [Blk.allL_snoc h] at h1
  exact h1
theorem Blk.all_pos (x : Blk) : 1 ≤ x.all := by cases x; rw [Blk.all]; omega
theorem Blk.len_all : ∀ (l : List Blk), l.length ≤ Blk.allL l
  | [] => by simp
  | x :: l => by have := Blk.len_all l; have := x.all_pos; rw [Blk.allL]; simp; omega
/-- A call that leaves the world, in a region that draws. -/
theorem q_eq {P : Program} {f : FuncId} {args : Array Value} {w : World} {a n : Nat} {v : Value} (h : Calls P f args (w.drewN (a + n)) fun e w' => e = .returned v ∧ w.drewN (a + n) = w') :
    Calls P f args (w.drewN (a + n)) fun e w'' => e = .returned v ∧ ∃ m, w'' = w.drewN (a + m) := h.mono fun _ _ ⟨he, hm⟩ => ⟨he, n, hm.symm⟩
theorem q_dr {P : Program} {f : FuncId} {args : Array Value} {w : World} {a n : Nat} {v : Value} (h : Calls P f args (w.drewN (a + n)) (Dr v (w.drewN (a + n)))) :
    Calls P f args (w.drewN (a + n)) fun e w'' => e = .returned v ∧ ∃ m, w'' = w.drewN (a + m) := h.mono fun _ _ ⟨he, m, hm⟩ => ⟨he, n + m, by rw [hm, World.drewN_drewN, Nat.add_assoc]⟩
def SzRel (l : List Inl) (vn vi : Value) : Prop := ∃ k n : Nat, k ≤ l.length ∧ vi = .int .i64 k ∧ vn = .int .i64 n ∧ n = Inl.szL (l.take k) + (l.length - k)
def SbRel (l : List Blk) (w : World) (vn vi : Value) (wr : World) : Prop := ∃ k n q : Nat, k ≤ l.length ∧ vi = .int .i64 k ∧ vn = .int .i64 n ∧ n = Blk.allL (l.take k) + (l.length - k) ∧ wr = w.drewN q


set_option maxRecDepth 100000 in
set_option maxHeartbeats 2000000 in
theorem count_any (n : Nat) : ∀ (l : List Inl) (ok : Nat → Prop) (v : Value) (w : World), Inl.szL l ≤ n → n ≤ 1000000 → Rd ok w (inlsD l) [v] →
    Calls Tryz.prog 102 #[v] w fun e w' => e = .returned (.int .i64 (Inl.szL l : Nat)) ∧ w = w' := by
  induction n using Nat.strongRecOn with
  | _ n ih =>
    intro l ok v w hn hnm h1
    obtain ⟨a, cap, hv, hs⟩ := Rd.sl_open h1
    obtain rfl : v = .slice a l.length cap := by simpa using hv
    have hcap : l.length ≤ cap := by simpa using hs.le
    have hmx := hs.max
    unfold maxLen at hmx
    have HS := Lib.hid hs
    have IH := Lib.hid ih
    have R0 : Hid (SzRel l (.int .i64 (l.length : Int)) (.int .i64 0)) := ⟨0, l.length, Nat.zero_le _, rfl, rfl, by rw [List.take_zero, Inl.szL]; simp⟩
    clear hs hv h1 ih
    go_enter Tryz.func102, Tryz.ntmps102
    go_wp2
    go_loop [3, 4] (fun vn vi => SzRel l vn vi) (fun _ i => l.length - (intOf i).toNat)
    case atStart => exact R0.out
    case round =>
      clear R0
      obtain ⟨k, m, hk, rfl, rfl, hm⟩ := hrel
      by_cases hlt : k < l.length
      · obtain ⟨x, hx⟩ : ∃ x, l[k]? = some x := ⟨_, List.getElem?_eq_getElem hlt⟩
        have hsz := Inl.szL_part l k _ hx
        have hsn := Inl.szL_snoc hx
        obtain ⟨kd, t, d, ti, at_, ar, ci, ks⟩ := x
        obtain ⟨g, off, vc, vp, va, vi, vk, rfl, hok, hbl, hc, hR⟩ := inls_at HS.out hx
        rw [Inl.sz] at hsz hsn
        obtain ⟨ak, nk, ck, rfl⟩ := Rd.slf hR.kids
        have p9 := hc.c9
        have CK := Lib.hid (IH.out (Inl.szL ks) (by omega) ks ok (.slice ak nk ck) w (Nat.le_refl _) (by omega) hR.kids)
        have HM : Hid (m + Inl.szL ks = Inl.szL (l.take (k + 1)) + (l.length - (k + 1))) := by show _ = _; omega
        have hlm : l.length - k ≤ 1000000 := by have := Inl.len_le l; omega
        have hmb : m + Inl.szL ks ≤ 3000000 := by omega
        generalize Inl.szL ks = K at *
        clear hc hR hx hm hsn hsz hlm
        go_wp2_with fail
        refine CK.out.mono ?_
        rintro e w1 ⟨rfl, rfl⟩
        go_wp2
        go_round
        case rel => exact ⟨k + 1, m + K, by omega, by go_num, by go_num, HM.out⟩
        case measure => simp [intOf]; omega
      · obtain rfl : k = l.length := by omega
        have hv : m = Inl.szL l := by rw [hm, List.take_length]; omega
        have HV := Lib.hid hv
        clear hv hm
        go_wp2
        go_ret
        exact ⟨by rw [← HV.out]; rfl, rfl⟩


set_option maxRecDepth 100000 in
set_option maxHeartbeats 4000000 in
theorem sizes_any (n : Nat) : ∀ (l : List Blk) (ok : Nat → Prop) (v : Value) (w : World), Blk.allL l ≤ n → n ≤ 1000000 → Rd ok w (blksD l) [v] →
    Calls Tryz.prog 75 #[v] w (Dr (.int .i64 (Blk.allL l : Nat)) w) := by
  induction n using Nat.strongRecOn with
  | _ n ih =>
    intro l ok v w hn hnm h1
    obtain ⟨a, cap, hv, hs⟩ := Rd.sl_open h1
    obtain rfl : v = .slice a l.length cap := by simpa using hv
    have hcap : l.length ≤ cap := by simpa using hs.le
    have hmx := hs.max
    unfold maxLen at hmx
    have HS := Lib.hid hs
    have IH := Lib.hid ih
    have R0 : Hid (SbRel l w (.int .i64 (l.length : Int)) (.int .i64 0) w) := ⟨0, l.length, 0, Nat.zero_le _, rfl, rfl, by rw [List.take_zero, Blk.allL]; simp, rfl⟩
    clear hs hv h1 ih
    go_enter Tryz.func75, Tryz.ntmps75
    go_wp2
    go_loopw [3, 4] (fun vn vi wr => SbRel l w vn vi wr) (fun _ i _ => l.length - (intOf i).toNat)
    case atStart => exact R0.out
    case round =>
      clear R0
      obtain ⟨k, m, q, hk, rfl, rfl, hm, rfl⟩ := hrel
      by_cases hlt : k < l.length
      · obtain ⟨x, hx⟩ : ∃ x, l[k]? = some x := ⟨_, List.getElem?_eq_getElem hlt⟩
        have hsz := Blk.allL_part l k _ hx
        have hsn := Blk.allL_snoc hx
        obtain ⟨kd, lv, i, t, d, ti, at_, li, ks⟩ := x
        obtain ⟨g, off, vc, vp, vl, vk, rfl, hok, hbl, hc, hR⟩ := blks_at HS.out hx
        rw [Blk.all] at hsz hsn
        obtain ⟨ak, nk, ck, rfl⟩ := Rd.slf hR.kids
        obtain ⟨al, nl, cl, rfl⟩ := Rd.slf hR.line
        have p9 := hc.c9
        have p10 := hc.c10
        have hst : ∀ q, Stays ok ok w (w.drewN q) := fun q b h _ => ⟨h, rfl⟩
        have CL := Lib.hid (fun q => count_any _ li ok (.slice al nl cl) (w.drewN q) (Nat.le_refl _) (by omega) (Rd.keep (hst q) _ _ hR.line))
        have CK := Lib.hid (fun q => IH.out (Blk.allL ks) (by omega) ks ok (.slice ak nk ck) (w.drewN q) (Nat.le_refl _) (by omega) (Rd.keep (hst q) _ _ hR.kids))
        have HM : Hid (m + (Inl.szL li + Blk.allL ks) = Blk.allL (l.take (k + 1)) + (l.length - (k + 1))) := by show _ = _; omega
        have hlm : l.length - k ≤ 1000000 := by have := Blk.len_all l; omega
        have hmb : m + (Inl.szL li + Blk.allL ks) ≤ 3000000 := by omega
        generalize Inl.szL li = L at *
        generalize Blk.allL ks = K at *
        have s1 : IntKind.i64.wrap ((L : Int) + (K : Int)) = (L : Int) + (K : Int) := wrap_id (by omega) (by omega)
        have s2 : IntKind.i64.wrap ((m : Int) + ((L : Int) + (K : Int))) = (m : Int) + ((L : Int) + (K : Int)) := wrap_id (by omega) (by omega)
        clear hc hR hx hm hsn hsz hlm hst
        go_wp2_with fail
        go_quiet ((first | (go_at_call 102; exact q_eq (CL.out _)) | (go_at_call 75; exact q_dr (CK.out _))))
        clear s1 s2
        go_wp2
        go_roundw
        case rel => exact ⟨k + 1, m + (L + K), _, by omega, by go_num, by go_num, HM.out, rfl⟩
        case measure => simp [intOf]; omega
      · obtain rfl : k = l.length := by omega
        have hv : m = Blk.allL l := by rw [hm, List.take_length]; omega
        have HV := Lib.hid hv
        clear hv hm
        go_wp2
        go_ret
        exact ⟨by rw [← HV.out]; rfl, q, rfl⟩


end Go.Proofs.YtlbioncagkkkoaaGreatDoor

namespace Go.Proofs.YtlbioncagkkkoaaGreatDoor
open Go.RowKit
set_option linter.unusedVariables false
set_option linter.unusedSimpArgs false

mutual
def Blk.dep : Blk → Nat
  | .mk _ _ _ _ _ _ _ _ ks => 1 + Blk.depL ks
def Blk.depL : List Blk → Nat
  | [] => 0
  | x :: l => max x.dep (Blk.depL l)
end
theorem Blk.szL_part (l : List Blk) : ∀ k, Blk.szL (l.take k) ≤ Blk.szL l := by
  intro k
  have h : ∀ (l m : List Blk), Blk.szL (l ++ m) = Blk.szL l + Blk.szL m := by
    intro l m
    induction l with
    | nil => rw [List.nil_append, Blk.szL]; omega
    | cons x l ih => rw [List.cons_append, Blk.szL, Blk.szL, ih]; omega
  have := h (l.take k) (l.drop k)
  rw [List.take_append_drop] at this
  omega
set_option maxRecDepth 100000 in
theorem rSize_any (l : List Blk) (am ab : Option Addr) (nm cm nb cb : Nat) (w : World) (hn : Blk.allL l ≤ 1000000) (h : Rd (· < w.heap.size) w (blksD l) [.slice ab nb cb]) :
    Calls Tryz.prog 40 #[.agg #[.slice am nm cm, .slice ab nb cb]] w (RetB (.int .i64 (Blk.allL l : Nat)) w) := by
  have hb0 : Below w.heap.size w (w.alloc (.cells #[.slice am nm cm, .slice ab nb cb] 25)) := (Below.refl _ _).alloc (Nat.le_refl _) _
  have SZ := Lib.hid (sizes_any _ l _ _ _ (Nat.le_refl _) hn (h.up hb0))
  have HB := Lib.hid hb0
  generalize Blk.allL l = N at *
  clear h hb0
  go_enter Tryz.func40, Tryz.ntmps40
  go_wp2_with fail
  refine SZ.out.mono ?_
  rintro e w1 ⟨rfl, q, rfl⟩
  go_wp2
  go_ret
  exact ⟨rfl, below_dN HB.out q⟩


end Go.Proofs.YtlbioncagkkkoaaGreatDoor
