/- Contracts of tree.inlineFields, blockFields, fits. Contracts of tree.blockFields, fits. -/
import Derived.Test.YtlbioncagkkkoaaGreatDoorKSizeD
import Derived.Test.YtlbioncagkkkoaaGreatDoorKSmall
import Derived.BigGuardPart
namespace Go.Proofs.YtlbioncagkkkoaaGreatDoor
open Go.RowKit
set_option linter.unusedVariables false
set_option linter.unusedSimpArgs false

/-- An inline lies at a place. -/
structure InP (w : World) (b o : Nat) (k : Int) (t d ti : ByteArray) (at_ : At) (ar : List ByteArray) (ci : List Ci) (ks : List Inl) (ac ap aa ai ak : Option Addr) (cc cp ca cai ck : Nat) : Prop where
  cells : InCells w b o k t d ti at_.id (.slice ac at_.cls.length cc) (.slice ap at_.prs.length cp) (.slice aa ar.length ca) (.slice ai ci.length cai) (.slice ak ks.length ck)
  rd : InR (· < w.heap.size) w at_ ar ci ks (.slice ac at_.cls.length cc) (.slice ap at_.prs.length cp) (.slice aa ar.length ca) (.slice ai ci.length cai) (.slice ak ks.length ck)
  lt : b < w.heap.size
theorem InR.up {w w' : World} {at_ : At} {ar : List ByteArray} {ci : List Ci} {ks : List Inl} {vc vp va vi vk : Value} (h : InR (· < w.heap.size) w at_ ar ci ks vc vp va vi vk) (hb : Below w.heap.size w w') : InR (· < w'.heap.size) w' at_ ar ci ks vc vp va vi vk :=
  ⟨h.at_.up hb, h.args.up hb, h.cites.up hb, h.kids.up hb⟩
theorem InP.up {w w' : World} {b o : Nat} {k : Int} {t d ti : ByteArray} {at_ : At} {ar : List ByteArray} {ci : List Ci} {ks : List Inl} {ac ap aa ai ak : Option Addr} {cc cp ca cai ck : Nat}
    (h : InP w b o k t d ti at_ ar ci ks ac ap aa ai ak cc cp ca cai ck) (hb : Below w.heap.size w w') : InP w' b o k t d ti at_ ar ci ks ac ap aa ai ak cc cp ca cai ck :=
  ⟨h.cells.at2 (hb.block b h.lt), h.rd.up hb, Nat.lt_of_lt_of_le h.lt hb.size⟩
theorem sl_len {ok : Nat → Prop} {w : World} {k : Nat} {l : List D} {a : Option Addr} {n c : Nat} (h : Rd ok w (.sl k l) [.slice a n c]) : n = l.length ∧ n ≤ c ∧ c ≤ maxLen := by
  obtain ⟨a', c', h1, h2⟩ := h.sl_open
  have h3 : n = l.length ∧ c = c' := by simp at h1; exact ⟨h1.2.1, h1.2.2⟩
  obtain ⟨rfl, rfl⟩ := h3
  exact ⟨rfl, h2.le, h2.max⟩
theorem in_kinds (k : Int) : k = 1 ∨ k = 2 ∨ k = 3 ∨ k = 4 ∨ k = 5 ∨ k = 6 ∨ k = 7 ∨ k = 8 ∨ k = 9 ∨ k = 10 ∨ k = 11 ∨ k = 12 ∨ k = 13 ∨ k = 14 ∨ k = 15 ∨ k = 16 ∨ (k < 1 ∨ 16 < k) := by omega

end Go.Proofs.YtlbioncagkkkoaaGreatDoor

namespace Go.Proofs.YtlbioncagkkkoaaGreatDoor
open Go.RowKit
set_option linter.unusedVariables false
set_option linter.unusedSimpArgs false

/-- A block lies at a place. -/
structure BlP (w : World) (b o : Nat) (k lv : Int) (i t d ti : ByteArray) (at_ : At) (li : List Inl) (ks : List Blk) (ac ap al ak : Option Addr) (cc cp cl ck : Nat) : Prop where
  cells : BlCells w b o k lv i t d ti at_.id (.slice ac at_.cls.length cc) (.slice ap at_.prs.length cp) (.slice al li.length cl) (.slice ak ks.length ck)
  rd : BlR (· < w.heap.size) w at_ li ks (.slice ac at_.cls.length cc) (.slice ap at_.prs.length cp) (.slice al li.length cl) (.slice ak ks.length ck)
  lt : b < w.heap.size
theorem BlR.up {w w' : World} {at_ : At} {li : List Inl} {ks : List Blk} {vc vp vl vk : Value} (h : BlR (· < w.heap.size) w at_ li ks vc vp vl vk) (hb : Below w.heap.size w w') : BlR (· < w'.heap.size) w' at_ li ks vc vp vl vk :=
  ⟨h.at_.up hb, h.line.up hb, h.kids.up hb⟩
theorem BlP.up {w w' : World} {b o : Nat} {k lv : Int} {i t d ti : ByteArray} {at_ : At} {li : List Inl} {ks : List Blk} {ac ap al ak : Option Addr} {cc cp cl ck : Nat}
    (h : BlP w b o k lv i t d ti at_ li ks ac ap al ak cc cp cl ck) (hb : Below w.heap.size w w') : BlP w' b o k lv i t d ti at_ li ks ac ap al ak cc cp cl ck :=
  ⟨h.cells.at2 (hb.block b h.lt), h.rd.up hb, Nat.lt_of_lt_of_le h.lt hb.size⟩
theorem bl_kinds (k : Int) : k = 1 ∨ k = 2 ∨ k = 3 ∨ k = 4 ∨ k = 5 ∨ k = 6 ∨ k = 7 ∨ k = 8 ∨ k = 9 ∨ k = 10 ∨ k = 11 ∨ k = 12 ∨ k = 13 ∨ k = 14 ∨ k = 15 ∨ (k < 1 ∨ 15 < k) := by omega

end Go.Proofs.YtlbioncagkkkoaaGreatDoor
