/- Contracts of attr.Check; of tree.label. The contract of strings.ContainsAny at a set of two to eight ASCII bytes and whatever text. Contracts of tree.address, checkCites, checkNamed, checkLink. Contracts of tree.checkCites, checkNamed, checkLink. Contracts of tree.checkNamed, checkLink. The contract of tree.checkLink. The contract of tree.checkInline. The contract of tree.checkInlines and Line: the first error of inlines. Contracts of tree.Line, checkUnbroken, checkHead, checkTable. Contracts of tree.checkTable, checkBlock. The contract of tree.checkBlock; of a formula's check it asks the contract. -/
import Derived.Test.YtlbioncagkkkoaaGreatDoorKChG
import Derived.Test.YtlbioncagkkkoaaGreatDoorKTcM
import Derived.Test.YtlbioncagkkkoaaGreatDoorKSame
import Derived.Test.YtlbioncagkkkoaaGreatDoorKAppend
import Derived.Maps.OwnIn
import Derived.Test.YtlbioncagkkkoaaGreatDoorKSizeD
import Derived.BigGuardPart
import Derived.WalkMore
import Derived.Shelf.Strings.SlTrimAscii
namespace Go.Proofs.YtlbioncagkkkoaaGreatDoor
open Go.RowKit
set_option linter.unusedVariables false
set_option linter.unusedSimpArgs false

theorem ptsF_step (s : ByteArray) (f i : Nat) (h : i < s.size) (hf : s.size ≤ i + f) : ptsF s f i = Utf8.decode s i :: ptsF s (f - 1) (i + (Utf8.decode s i).2) := by
  obtain ⟨f', rfl⟩ : ∃ f', f = f' + 1 := ⟨f - 1, by omega⟩
  rw [ptsF, if_pos h]; rfl
def LbRel (s : ByteArray) (V : Bool) (w : World) (w0 : World) (k : Nat) (wr : World) : Prop :=
  ∃ pos f : Nat, pos ≤ s.size ∧ s.size ≤ pos + f ∧ wr.heap[k]? = some (.stringIter s pos) ∧ (ptsF s f pos).all labPt = V ∧ Below w.heap.size w wr ∧ w.heap.size ≤ k

theorem LbRel.alloc {s : ByteArray} {V : Bool} {w w0 : World} {k : Nat} {wr : World} (h : LbRel s V w w0 k wr) (o : Obj) : LbRel s V w w0 k (wr.alloc o) := by
  obtain ⟨pos, f, h1, h2, h3, h4, h5, h6⟩ := h
  exact ⟨pos, f, h1, h2, (Below.heap_alloc _ _ _ (Array.getElem?_eq_some_iff.1 h3).1).trans h3, h4, h5.alloc h5.size _, h6⟩
end Go.Proofs.YtlbioncagkkkoaaGreatDoor

namespace Go.Proofs.YtlbioncagkkkoaaGreatDoor
open Go.RowKit
set_option linter.unusedVariables false
set_option linter.unusedSimpArgs false

theorem contG_hi (s : ByteArray) : ∀ (r p c d : Nat), contG s r p c = some d → ∀ j, j < r → 128 ≤ bt s (p + j)
  | 0, p, c, d, _, j, hj => by omega
  | r + 1, p, c, d, h, j, hj => by
    rw [contG] at h
    split at h
    · rename_i hc
      cases j with
      | zero => exact hc.2.1
      | succ j =>
        have := contG_hi s r (p + 1) _ d h j (by omega)
        rw [show p + (j + 1) = p + 1 + j by omega]; exact this
    · cases h
/-- A sequence of one byte below 128, or of bytes from 128 on. -/
theorem dec_parts (s : ByteArray) (i : Nat) (hi : i < s.size) : (bt s i < 128 ∧ Utf8.decode s i = (bt s i, 1)) ∨ (128 ≤ (Utf8.decode s i).1 ∧ ∀ j, j < (Utf8.decode s i).2 → 128 ≤ bt s (i + j)) := by
  by_cases c1 : bt s i < 128
  · exact .inl ⟨c1, dec_one s i c1⟩
  have bad : Utf8.decode s i = (65533, 1) → 128 ≤ (Utf8.decode s i).1 ∧ ∀ j, j < (Utf8.decode s i).2 → 128 ≤ bt s (i + j) := by
    intro h
    rw [h]
    refine ⟨by decide, fun j hj => ?_⟩
    have : j = 0 := by simp at hj; exact hj
    subst this
    exact Nat.le_of_not_lt c1
  have good : ∀ n c, 1 ≤ n → Utf8.decode s i = seqV s i n (contG s (n - 1) (i + 1) c) → (∀ d, contG s (n - 1) (i + 1) c = some d → 128 ≤ d) → 128 ≤ (Utf8.decode s i).1 ∧ ∀ j, j < (Utf8.decode s i).2 → 128 ≤ bt s (i + j) := by
    intro n c hn h hd
    cases hg : contG s (n - 1) (i + 1) c with
    | none => rw [hg] at h; exact bad h
    | some d =>
      rw [hg] at h
      rw [h]
      refine ⟨hd d hg, fun j hj => ?_⟩
      cases j with
      | zero => exact Nat.le_of_not_lt c1
      | succ j =>
        have hj : j + 1 < n := hj
        have := contG_hi s (n - 1) (i + 1) c d hg j (by omega)
        rw [show i + (j + 1) = i + 1 + j by omega]; exact this
  refine .inr ?_
  by_cases c2 : bt s i < 194 ∨ 244 < bt s i
  · exact bad (dec_bad s i (by omega) c2)
  by_cases c3 : bt s i ≤ 223
  · refine good 2 _ (by omega) (dec_seq2 s i hi (by omega) c3) (fun d hd => ?_)
    have h := (dec_two s i hi (by omega) c3)
    rw [show 2 - 1 = 1 from rfl, contG, contG] at hd
    split at hd
    · injection hd with hd; omega
    · cases hd
  by_cases c4 : bt s i ≤ 239
  · obtain ⟨d1, d2⟩ := dec_seq3 s i hi (by omega) c4
    by_cases hs : i + 1 < s.size ∧ lowOf (bt s i) ≤ bt s (i + 1) ∧ bt s (i + 1) ≤ highOf (bt s i)
    · refine good 3 _ (by omega) (d2 hs.2.1 hs.2.2) (fun d hd => ?_)
      have hl := hs.2.1
      unfold lowOf at hl
      rw [show 3 - 1 = 2 from rfl, contG, contG, contG, show i + 1 + 1 = i + 2 from rfl] at hd
      split at hd
      · split at hd
        · injection hd with hd
          split at hl
          · omega
          · split at hl <;> omega
        · cases hd
      · cases hd
    · exact bad (d1 (.inl hs))
  · obtain ⟨d1, d2⟩ := dec_seq4 s i hi (by omega) (by omega)
    by_cases hs : i + 1 < s.size ∧ lowOf (bt s i) ≤ bt s (i + 1) ∧ bt s (i + 1) ≤ highOf (bt s i)
    · refine good 4 _ (by omega) (d2 hs.2.1 hs.2.2) (fun d hd => ?_)
      have hl := hs.2.1
      unfold lowOf at hl
      rw [show 4 - 1 = 3 from rfl, contG, contG, contG, contG, show i + 1 + 1 = i + 2 from rfl, show i + 2 + 1 = i + 3 from rfl] at hd
      split at hd
      · split at hd
        · split at hd
          · injection hd with hd
            split at hl
            · omega
            · split at hl <;> omega
          · cases hd
        · cases hd
      · cases hd
    · exact bad (d1 (.inl hs))

/-- An iterator over a text, made by the call. -/
def ItRel (cs : ByteArray) (w : World) (k : Nat) (wr : World) : Prop := ∃ pos : Nat, pos ≤ cs.size ∧ wr.heap[k]? = some (.stringIter cs pos) ∧ Below w.heap.size w wr ∧ w.heap.size ≤ k
theorem ItRel.next {cs : ByteArray} {w : World} {k : Nat} {wr : World} (h : ItRel cs w k wr) (p : Nat) (hp : p ≤ cs.size) : ItRel cs w k (wr.iterAt k cs p) ∧ (wr.iterAt k cs p).iterPos k = p := by
  obtain ⟨pos, h1, h3, h5, h6⟩ := h
  have hh := Lib.iterAt_heap wr k cs pos p h3
  exact ⟨⟨p, hp, hh, Lib.below_iterAt h5 h6 cs p, h6⟩, by simp only [World.iterPos, hh]⟩
theorem ItRel.up {cs : ByteArray} {w : World} {k : Nat} {wr w' : World} (h : ItRel cs w k wr) (hb : Below wr.heap.size wr w') : ItRel cs w k w' ∧ w'.iterPos k = wr.iterPos k := by
  obtain ⟨pos, h1, h3, h5, h6⟩ := h
  have hh : w'.heap[k]? = some (.stringIter cs pos) := (hb.block k (Array.getElem?_eq_some_iff.1 h3).1).trans h3
  exact ⟨⟨pos, h1, hh, below_trans_size h5 hb, h6⟩, by simp only [World.iterPos, hh, h3]⟩

end Go.Proofs.YtlbioncagkkkoaaGreatDoor

namespace Go.Proofs.YtlbioncagkkkoaaGreatDoor
open Go.RowKit
set_option linter.unusedVariables false
set_option linter.unusedSimpArgs false

end Go.Proofs.YtlbioncagkkkoaaGreatDoor

namespace Go.Proofs.YtlbioncagkkkoaaGreatDoor
open Go.RowKit
set_option linter.unusedVariables false
set_option linter.unusedSimpArgs false

end Go.Proofs.YtlbioncagkkkoaaGreatDoor

namespace Go.Proofs.YtlbioncagkkkoaaGreatDoor
open Go.RowKit
set_option linter.unusedVariables false
set_option linter.unusedSimpArgs false

def NmR (l : List ByteArray) (w : World) (vi : Value) (wr : World) : Prop := ∃ k : Nat, k ≤ l.length ∧ vi = .int .i64 k ∧ Below w.heap.size w wr ∧ (l.take k).any argBad = false
/-- The texts of an inline are short. -/
structure InS (t d ti : ByteArray) (a : At) (ar : List ByteArray) (ci : List Ci) : Prop where
  t : t.size ≤ 300
  d : d.size ≤ 300
  ti : ti.size ≤ 300
  at_ : a.short
  ars : ∀ c ∈ ar, c.size ≤ 5000
  cis : ∀ c ∈ ci, c.key.size ≤ 5000 ∧ c.pre.size ≤ 5000 ∧ c.suf.size ≤ 5000
theorem any_snoc {α : Type} (p : α → Bool) {l : List α} {k : Nat} {x : α} (h : l[k]? = some x) : (l.take (k + 1)).any p = ((l.take k).any p || p x) := by
  rw [List.take_add_one, h]; simp
theorem any_at {α : Type} (p : α → Bool) {l : List α} {k : Nat} {x : α} (h : l[k]? = some x) (hp : p x = true) : l.any p = true := List.any_eq_true.2 ⟨x, List.mem_of_getElem? h, hp⟩

end Go.Proofs.YtlbioncagkkkoaaGreatDoor

namespace Go.Proofs.YtlbioncagkkkoaaGreatDoor
open Go.RowKit
set_option linter.unusedVariables false
set_option linter.unusedSimpArgs false

end Go.Proofs.YtlbioncagkkkoaaGreatDoor

namespace Go.Proofs.YtlbioncagkkkoaaGreatDoor
open Go.RowKit
set_option linter.unusedVariables false
set_option linter.unusedSimpArgs false

theorem fields_and {k : Int} {t d ti : ByteArray} {a : At} {ar : List ByteArray} {ci : List Ci} {ks : List Inl} (h : inFields k t d ti a ar ci ks = true) : 1 ≤ k ∧ k ≤ 16 ∧ (k = 15 ∨ ar = []) := by
  unfold inFields at h
  simp only [Bool.and_eq_true, Bool.or_eq_true, decide_eq_true_eq] at h
  obtain ⟨⟨⟨⟨⟨⟨⟨⟨h1, h2⟩, -⟩, -⟩, -⟩, -⟩, -⟩, h8⟩, -⟩ := h
  refine ⟨h1, h2, ?_⟩
  rcases h8 with h | h
  · exact .inl h
  · exact .inr (by simpa using h)

end Go.Proofs.YtlbioncagkkkoaaGreatDoor

namespace Go.Proofs.YtlbioncagkkkoaaGreatDoor
open Go.RowKit
set_option linter.unusedVariables false
set_option linter.unusedSimpArgs false

/-- The kind of the element before the k-th one. -/
def befK (l : List Inl) (k : Nat) : Int := if k = 0 then 0 else match l[k - 1]? with | some x => x.kd | none => 0
theorem befK_succ {l : List Inl} {k : Nat} {x : Inl} (h : l[k]? = some x) : befK l (k + 1) = x.kd := by
  unfold befK
  rw [if_neg (by omega), Nat.add_sub_cancel, h]

theorem Inl.smallL_get : ∀ {l : List Inl} {k : Nat} {x : Inl}, Inl.smallL l → l[k]? = some x → x.small
  | [], _, _, _, h => by simp at h
  | y :: l, 0, x, hb, h => by simp at h; subst h; rw [Inl.smallL] at hb; exact hb.1
  | y :: l, k + 1, x, hb, h => by rw [Inl.smallL] at hb; exact Inl.smallL_get (l := l) (k := k) hb.2 (by simpa using h)
theorem inP_at {w : World} {l : List Inl} {a : Option Addr} {cap : Nat} (h : SlAt (· < w.heap.size) w 10 (l.map Inl.d) a cap) {k : Nat} {kd : Int} {t d ti : ByteArray} {at_ : At} {ar : List ByteArray} {ci : List Ci} {ks : List Inl} (hk : l[k]? = some (.mk kd t d ti at_ ar ci ks)) :
    ∃ b off ac ap aa ai ak cc cp ca cai ck, a = some ⟨b, off, none⟩ ∧ InP w b (off + k * 10) kd t d ti at_ ar ci ks ac ap aa ai ak cc cp ca cai ck := by
  obtain ⟨b, off, vc, vp, va, vi, vk, rfl, hok, hbl, hc, hR⟩ := inls_at h hk
  obtain ⟨a1, c1, h1, -⟩ := hR.at_.cls.sl_open
  obtain ⟨a2, c2, h2, -⟩ := hR.at_.prs.sl_open
  obtain ⟨a3, c3, h3, -⟩ := hR.args.sl_open
  obtain ⟨a4, c4, h4, -⟩ := hR.cites.sl_open
  obtain ⟨a5, c5, h5, -⟩ := hR.kids.sl_open
  simp only [List.length_map, List.cons.injEq, and_true] at h1 h2 h3 h4 h5
  subst h1 h2 h3 h4 h5
  exact ⟨b, off, a1, a2, a3, a4, a5, c1, c2, c3, c4, c5, rfl, hc, hR, hbl⟩
theorem inS_of {kd : Int} {t d ti : ByteArray} {at_ : At} {ar : List ByteArray} {ci : List Ci} {ks : List Inl} (h : (Inl.mk kd t d ti at_ ar ci ks).small) : InS t d ti at_ ar ci ∧ Inl.smallL ks := by
  unfold Inl.small at h
  obtain ⟨h1, h2, h3, h4, h5, h6, h7, h8, h9⟩ := h
  exact ⟨⟨h1, h2, h3, h4, h7, h8⟩, h9⟩

end Go.Proofs.YtlbioncagkkkoaaGreatDoor

namespace Go.Proofs.YtlbioncagkkkoaaGreatDoor
open Go.RowKit
set_option linter.unusedVariables false
set_option linter.unusedSimpArgs false

end Go.Proofs.YtlbioncagkkkoaaGreatDoor

namespace Go.Proofs.YtlbioncagkkkoaaGreatDoor
open Go.RowKit
set_option linter.unusedVariables false
set_option linter.unusedSimpArgs false

def colBs : List UInt8 := [45, 108, 99, 114]
theorem blP_at {w : World} {l : List Blk} {a : Option Addr} {cap : Nat} (h : SlAt (· < w.heap.size) w 11 (l.map Blk.d) a cap) {k : Nat} {kd lv : Int} {i t d ti : ByteArray} {at_ : At} {li : List Inl} {ks : List Blk} (hk : l[k]? = some (.mk kd lv i t d ti at_ li ks)) :
    ∃ b off ac ap al ak cc cp cl ck, a = some ⟨b, off, none⟩ ∧ BlP w b (off + k * 11) kd lv i t d ti at_ li ks ac ap al ak cc cp cl ck := by
  obtain ⟨b, off, vc, vp, vl, vk, rfl, hok, hbl, hc, hR⟩ := blks_at h hk
  obtain ⟨a1, c1, h1, -⟩ := hR.at_.cls.sl_open
  obtain ⟨a2, c2, h2, -⟩ := hR.at_.prs.sl_open
  obtain ⟨a3, c3, h3, -⟩ := hR.line.sl_open
  obtain ⟨a5, c5, h5, -⟩ := hR.kids.sl_open
  simp only [List.length_map, List.cons.injEq, and_true] at h1 h2 h3 h5
  subst h1 h2 h3 h5
  exact ⟨b, off, a1, a2, a3, a5, c1, c2, c3, c5, rfl, hc, hR, hbl⟩
end Go.Proofs.YtlbioncagkkkoaaGreatDoor

namespace Go.Proofs.YtlbioncagkkkoaaGreatDoor
open Go.RowKit
set_option linter.unusedVariables false
set_option linter.unusedSimpArgs false

/-- The texts of a block are short. -/
structure BlS (i t d ti : ByteArray) (a : At) (li : List Inl) : Prop where
  i : i.size ≤ 300
  t : t.size ≤ 300
  d : d.size ≤ 300
  ti : ti.size ≤ 300
  at_ : a.short
  li : Inl.smallL li
theorem blfields_and {k lv : Int} {i t d ti : ByteArray} {a : At} {li : List Inl} {ks : List Blk} (h : blFields k lv i t d ti a li ks = true) : 1 ≤ k ∧ k ≤ 15 ∧ (k = 2 ∨ k = 8 ∨ lv = 0) := by
  unfold blFields at h
  simp only [Bool.and_eq_true, Bool.or_eq_true, decide_eq_true_eq] at h
  obtain ⟨⟨⟨⟨⟨⟨⟨⟨h1, h2⟩, h3⟩, -⟩, -⟩, -⟩, -⟩, -⟩, -⟩ := h
  refine ⟨h1, h2, ?_⟩
  rcases h3 with h | h
  · simp at h; omega
  · exact .inr (.inr h)

end Go.Proofs.YtlbioncagkkkoaaGreatDoor
