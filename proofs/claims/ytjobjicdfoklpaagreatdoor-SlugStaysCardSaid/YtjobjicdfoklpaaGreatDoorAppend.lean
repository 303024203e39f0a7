/- Contracts of tree.writePlain and tree.Plain. Appends onto rows of the call's own, the source nil or not (after the kit's page of words for memory), and how data read behind them. -/
import Derived.Test.YtjobjicdfoklpaaGreatDoorRPlain
import Derived.Test.YtjobjicdfoklpaaGreatDoorBuilderK
import Derived.Test.YtjobjicdfoklpaaGreatDoorFold
import Derived.Below
import Derived.Laws.OwnMore
import Derived.Deep.AppendLies
import Derived.Deep.Draws
import Derived.Maps.AppendAt
import Derived.RegionTactic
import Derived.OwnWalk
namespace Go.Proofs.YtjobjicdfoklpaaGreatDoor
open Go.RowKit
set_option linter.unusedVariables false
set_option linter.unusedSimpArgs false

theorem Rd.below {B : Nat} {w w' : World} {d : D} {cs : List Value} (h : Rd (· < B) w d cs) (hb : Below B w w') : Rd (· < B) w' d cs :=
  Rd.keep (fun b hb1 _ => ⟨hb1, hb.block b hb1⟩) d cs h
theorem SlAt.below {B : Nat} {w w' : World} {k : Nat} {l : List D} {a : Option Addr} {cap : Nat} (h : SlAt (· < B) w k l a cap) (hb : Below B w w') : SlAt (· < B) w' k l a cap := by
  refine ⟨h.le, h.max, fun hp => ?_⟩
  obtain ⟨b, off, h1, h2, h3, h4⟩ := h.at_ hp
  refine ⟨b, off, h1, h2, lt_same (hb.block b h2) h3, fun i d hd => ?_⟩
  obtain ⟨r, hr, hl, hc⟩ := h4 i d hd
  exact ⟨r, hr.below hb, hl, fun j u hu => by rw [cell_same (hb.block b h2)]; exact hc j u hu⟩

theorem strCells_bytes (s : ByteArray) : Lib.strCells s = Lib.byteCells s.data.toList := by simp [Lib.strCells, Lib.byteCells]

/-- The builder in block b, of a caller whose own blocks begin at B. -/
def Bd (B b : Nat) (l : List UInt8) (w : World) : Prop := Lib.IsBuilderF 127 5 B b (Lib.byteCells l) w ∧ B ≤ w.heap.size
def PwRel (B b : Nat) (pre : List UInt8) (l : List Inl) (w : World) (vi : Value) (wr : World) : Prop :=
  ∃ k : Nat, k ≤ l.length ∧ vi = .int .i64 k ∧ Bd B b (pre ++ Inl.plainL (l.take k)) wr ∧ Below B w wr
def PwPost (B b : Nat) (out : List UInt8) (w : World) (e : Ending) (w' : World) : Prop := e = .returned (.tuple #[]) ∧ Bd B b out w' ∧ Below B w w'

set_option maxRecDepth 100000 in
set_option maxHeartbeats 4000000 in
theorem writePlain_any (B b : Nat) (n : Nat) : ∀ (l : List Inl) (pre : List UInt8) (v : Value) (w : World), Inl.szL l ≤ n → Rd (· < B) w (inlsD l) [v] → pre.length + (Inl.plainL l).length ≤ 1000000000 → Bd B b pre w →
    Calls Tryz.prog 106 #[.pointer (some ⟨b, 0, none⟩), v] w (PwPost B b (pre ++ Inl.plainL l) w) := by
  induction n using Nat.strongRecOn with
  | _ n ih =>
    intro l pre v w hn hrd hlen hbd
    obtain ⟨a, cap, hv, hs⟩ := Rd.sl_open hrd
    obtain rfl : v = .slice a l.length cap := by simpa using hv
    have hcap : l.length ≤ cap := by simpa using hs.le
    have hmx := hs.max
    have HS := Lib.hid hs
    have HZ : Hid (pre ++ Inl.plainL (l.take 0) = pre) := by show pre ++ Inl.plainL [] = pre; rw [Inl.plainL, List.append_nil]
    have IH := Lib.hid ih
    have HB := Lib.hid hbd
    clear hs hv hrd ih hbd
    unfold maxLen at hmx
    go_enter Tryz.func106, Tryz.ntmps106
    go_wp2
    go_loopw [8] (fun vi wr => PwRel B b pre l w vi wr) (fun i _ => l.length - (intOf i).toNat)
    case atStart => exact ⟨0, Nat.zero_le _, rfl, by rw [HZ.out]; exact HB.out, Below.refl _ _⟩
    case round =>
      obtain ⟨k, hk, rfl, hbd, hbel⟩ := hrel
      have HBD := Lib.hid hbd
      clear hbd
      by_cases hlt : k < l.length
      · obtain ⟨x, hx⟩ : ∃ x, l[k]? = some x := ⟨_, List.getElem?_eq_getElem hlt⟩
        obtain ⟨kd, t, d, ti, at_, ar, ci, ks⟩ := x
        obtain ⟨g, off, vc, vp, va, vi, vk, rfl, hok, hbl, hc, hR⟩ := inls_at (HS.out.below hbel) hx
        obtain ⟨c0, c1, c2, -, -, -, -, -, -, c9⟩ := hc
        have hkids := hR.kids
        have hsz := Inl.szL_get l k _ hx
        rw [Inl.sz] at hsz
        have HT := Lib.hid (Inl.plainL_take l k _ hx)
        have hle := Inl.plain_le l k _ hx
        have ik := fun p h1 h2 => IH.out (Inl.szL ks) (by omega) ks p vk wr (Nat.le_refl _) hkids h1 h2
        have IK := Lib.hid ik
        clear hx hkids hR ik
        have hpl : (pre ++ Inl.plainL (l.take k)).length = pre.length + (Inl.plainL (l.take k)).length := by simp
        generalize hacc : Inl.plainL (l.take k) = acc at *
        generalize hacc' : Inl.plainL (l.take (k + 1)) = acc' at *
        have HA' := Lib.hid hacc'
        clear hacc hacc'
        obtain ⟨P, hP⟩ : ∃ P, P = pre ++ acc := ⟨_, rfl⟩
        have HP := Lib.hid hP
        rw [← hP] at HBD hpl
        clear hP
        have WS := Lib.hid (fun (s : ByteArray) (h : P.length + s.size ≤ 1000000000) => (writeString_k B b (Lib.byteCells P) s wr HBD.out.1 (by rw [Lib.byteCells_length]; omega) HBD.out.2).mono fun _ w' ⟨he, hw⟩ => (⟨he, ⟨by rw [Lib.byteCells_append, ← strCells_bytes]; exact hw.1, Nat.le_trans HBD.out.2 hw.2.1.size⟩, hw.2.1⟩ : _ ∧ Bd B b (P ++ s.data.toList) w' ∧ Below B wr w'))
        have WB := Lib.hid (fun (h : P.length + 1 ≤ 1000000000) => (writeByte_k B b (Lib.byteCells P) 32 wr HBD.out.1 (by rw [Lib.byteCells_length]; omega) HBD.out.2).mono fun _ w' ⟨he, hw⟩ => (⟨he, ⟨by rw [Lib.byteCells_append]; exact hw.1, Nat.le_trans HBD.out.2 hw.2.1.size⟩, hw.2.1⟩ : _ ∧ Bd B b (P ++ [32]) w' ∧ Below B wr w'))
        have IK2 := Lib.hid (fun h => IK.out P h HBD.out)
        clear IK
        rcases plain_kinds kd with (rfl | rfl | rfl) | (rfl | rfl) | (rfl | rfl | rfl | rfl | rfl | rfl) | rfl | h
        · have hp : (Inl.mk 1 t d ti at_ ar ci ks).plain = t.data.toList := by rw [Inl.plain]; simp
          rw [hp] at HT hle
          have W1 := Lib.hid (WS.out t (by rw [Lib.size_eq]; omega))
          clear hp hle WS WB IK2
          go_wp2_with fail
          refine W1.out.mono ?_
          rintro e w1 ⟨rfl, B1, b1⟩
          have HB1 := Lib.hid B1
          clear B1
          go_wp2
          go_roundw
          case rel => exact ⟨k + 1, by omega, by go_num, by rw [HA'.out, HT.out, ← List.append_assoc, ← HP.out]; exact HB1.out, hbel.trans b1⟩
          case measure => simp [intOf]; omega
        · have hp : (Inl.mk 4 t d ti at_ ar ci ks).plain = t.data.toList := by rw [Inl.plain]; simp
          rw [hp] at HT hle
          have W1 := Lib.hid (WS.out t (by rw [Lib.size_eq]; omega))
          clear hp hle WS WB IK2
          go_wp2_with fail
          refine W1.out.mono ?_
          rintro e w1 ⟨rfl, B1, b1⟩
          have HB1 := Lib.hid B1
          clear B1
          go_wp2
          go_roundw
          case rel => exact ⟨k + 1, by omega, by go_num, by rw [HA'.out, HT.out, ← List.append_assoc, ← HP.out]; exact HB1.out, hbel.trans b1⟩
          case measure => simp [intOf]; omega
        · have hp : (Inl.mk 5 t d ti at_ ar ci ks).plain = t.data.toList := by rw [Inl.plain]; simp
          rw [hp] at HT hle
          have W1 := Lib.hid (WS.out t (by rw [Lib.size_eq]; omega))
          clear hp hle WS WB IK2
          go_wp2_with fail
          refine W1.out.mono ?_
          rintro e w1 ⟨rfl, B1, b1⟩
          have HB1 := Lib.hid B1
          clear B1
          go_wp2
          go_roundw
          case rel => exact ⟨k + 1, by omega, by go_num, by rw [HA'.out, HT.out, ← List.append_assoc, ← HP.out]; exact HB1.out, hbel.trans b1⟩
          case measure => simp [intOf]; omega
        · have hp : (Inl.mk 2 t d ti at_ ar ci ks).plain = [32] := by rw [Inl.plain]; simp
          rw [hp] at HT hle
          simp only [List.length_cons, List.length_nil] at hle
          have W1 := Lib.hid (WB.out (by omega))
          clear hp hle WS WB IK2
          go_wp2_with fail
          refine W1.out.mono ?_
          rintro e w1 ⟨rfl, B1, b1⟩
          have HB1 := Lib.hid B1
          clear B1
          go_wp2
          go_roundw
          case rel => exact ⟨k + 1, by omega, by go_num, by rw [HA'.out, HT.out, ← List.append_assoc, ← HP.out]; exact HB1.out, hbel.trans b1⟩
          case measure => simp [intOf]; omega
        · have hp : (Inl.mk 3 t d ti at_ ar ci ks).plain = [32] := by rw [Inl.plain]; simp
          rw [hp] at HT hle
          simp only [List.length_cons, List.length_nil] at hle
          have W1 := Lib.hid (WB.out (by omega))
          clear hp hle WS WB IK2
          go_wp2_with fail
          refine W1.out.mono ?_
          rintro e w1 ⟨rfl, B1, b1⟩
          have HB1 := Lib.hid B1
          clear B1
          go_wp2
          go_roundw
          case rel => exact ⟨k + 1, by omega, by go_num, by rw [HA'.out, HT.out, ← List.append_assoc, ← HP.out]; exact HB1.out, hbel.trans b1⟩
          case measure => simp [intOf]; omega
        · have hp : (Inl.mk 6 t d ti at_ ar ci ks).plain = Inl.plainL ks := by rw [Inl.plain]; simp
          rw [hp] at HT hle
          have W1 := Lib.hid (IK2.out (by omega))
          clear hp hle WS WB IK2
          generalize Inl.plainL ks = pk at *
          go_wp2_with fail
          refine W1.out.mono ?_
          rintro e w1 ⟨rfl, B1, b1⟩
          have HB1 := Lib.hid B1
          clear B1
          go_wp2
          go_roundw
          case rel => exact ⟨k + 1, by omega, by go_num, by rw [HA'.out, HT.out, ← List.append_assoc, ← HP.out]; exact HB1.out, hbel.trans b1⟩
          case measure => simp [intOf]; omega
        · have hp : (Inl.mk 7 t d ti at_ ar ci ks).plain = Inl.plainL ks := by rw [Inl.plain]; simp
          rw [hp] at HT hle
          have W1 := Lib.hid (IK2.out (by omega))
          clear hp hle WS WB IK2
          generalize Inl.plainL ks = pk at *
          go_wp2_with fail
          refine W1.out.mono ?_
          rintro e w1 ⟨rfl, B1, b1⟩
          have HB1 := Lib.hid B1
          clear B1
          go_wp2
          go_roundw
          case rel => exact ⟨k + 1, by omega, by go_num, by rw [HA'.out, HT.out, ← List.append_assoc, ← HP.out]; exact HB1.out, hbel.trans b1⟩
          case measure => simp [intOf]; omega
        · have hp : (Inl.mk 8 t d ti at_ ar ci ks).plain = Inl.plainL ks := by rw [Inl.plain]; simp
          rw [hp] at HT hle
          have W1 := Lib.hid (IK2.out (by omega))
          clear hp hle WS WB IK2
          generalize Inl.plainL ks = pk at *
          go_wp2_with fail
          refine W1.out.mono ?_
          rintro e w1 ⟨rfl, B1, b1⟩
          have HB1 := Lib.hid B1
          clear B1
          go_wp2
          go_roundw
          case rel => exact ⟨k + 1, by omega, by go_num, by rw [HA'.out, HT.out, ← List.append_assoc, ← HP.out]; exact HB1.out, hbel.trans b1⟩
          case measure => simp [intOf]; omega
        · have hp : (Inl.mk 9 t d ti at_ ar ci ks).plain = Inl.plainL ks := by rw [Inl.plain]; simp
          rw [hp] at HT hle
          have W1 := Lib.hid (IK2.out (by omega))
          clear hp hle WS WB IK2
          generalize Inl.plainL ks = pk at *
          go_wp2_with fail
          refine W1.out.mono ?_
          rintro e w1 ⟨rfl, B1, b1⟩
          have HB1 := Lib.hid B1
          clear B1
          go_wp2
          go_roundw
          case rel => exact ⟨k + 1, by omega, by go_num, by rw [HA'.out, HT.out, ← List.append_assoc, ← HP.out]; exact HB1.out, hbel.trans b1⟩
          case measure => simp [intOf]; omega
        · have hp : (Inl.mk 10 t d ti at_ ar ci ks).plain = Inl.plainL ks := by rw [Inl.plain]; simp
          rw [hp] at HT hle
          have W1 := Lib.hid (IK2.out (by omega))
          clear hp hle WS WB IK2
          generalize Inl.plainL ks = pk at *
          go_wp2_with fail
          refine W1.out.mono ?_
          rintro e w1 ⟨rfl, B1, b1⟩
          have HB1 := Lib.hid B1
          clear B1
          go_wp2
          go_roundw
          case rel => exact ⟨k + 1, by omega, by go_num, by rw [HA'.out, HT.out, ← List.append_assoc, ← HP.out]; exact HB1.out, hbel.trans b1⟩
          case measure => simp [intOf]; omega
        · have hp : (Inl.mk 11 t d ti at_ ar ci ks).plain = Inl.plainL ks := by rw [Inl.plain]; simp
          rw [hp] at HT hle
          have W1 := Lib.hid (IK2.out (by omega))
          clear hp hle WS WB IK2
          generalize Inl.plainL ks = pk at *
          go_wp2_with fail
          refine W1.out.mono ?_
          rintro e w1 ⟨rfl, B1, b1⟩
          have HB1 := Lib.hid B1
          clear B1
          go_wp2
          go_roundw
          case rel => exact ⟨k + 1, by omega, by go_num, by rw [HA'.out, HT.out, ← List.append_assoc, ← HP.out]; exact HB1.out, hbel.trans b1⟩
          case measure => simp [intOf]; omega
        · have hp : (Inl.mk 16 t d ti at_ ar ci ks).plain = d.data.toList := by rw [Inl.plain]; simp
          rw [hp] at HT hle
          have W1 := Lib.hid (WS.out d (by rw [Lib.size_eq]; omega))
          clear hp hle WS WB IK2
          go_wp2_with fail
          refine W1.out.mono ?_
          rintro e w1 ⟨rfl, B1, b1⟩
          have HB1 := Lib.hid B1
          clear B1
          go_wp2
          go_roundw
          case rel => exact ⟨k + 1, by omega, by go_num, by rw [HA'.out, HT.out, ← List.append_assoc, ← HP.out]; exact HB1.out, hbel.trans b1⟩
          case measure => simp [intOf]; omega
        · obtain ⟨h1, h4, h5, h2, h3, h6, h7, h8, h9, h10, h11, h16⟩ := h
          have hp : (Inl.mk kd t d ti at_ ar ci ks).plain = [] := by rw [Inl.plain]; simp [h1, h2, h3, h4, h5, h6, h7, h8, h9, h10, h11, h16]
          rw [hp] at HT
          have f1 := beq_false_of_ne h1
          have f2 := beq_false_of_ne h2
          have f3 := beq_false_of_ne h3
          have f4 := beq_false_of_ne h4
          have f5 := beq_false_of_ne h5
          have f6 := beq_false_of_ne h6
          have f7 := beq_false_of_ne h7
          have f8 := beq_false_of_ne h8
          have f9 := beq_false_of_ne h9
          have f10 := beq_false_of_ne h10
          have f11 := beq_false_of_ne h11
          have f16 := beq_false_of_ne h16
          clear hp h1 h2 h3 h4 h5 h6 h7 h8 h9 h10 h11 h16 hle WS WB IK2
          go_wp2
          go_roundw
          case rel => exact ⟨k + 1, by omega, by go_num, by rw [HA'.out, HT.out, List.append_nil, ← HP.out]; exact HBD.out, hbel⟩
          case measure => simp [intOf]; omega
      · have hkl : k = l.length := by omega
        have hE : Inl.plainL (l.take k) = Inl.plainL l := by rw [hkl, List.take_length]
        rw [hE] at HBD
        clear hkl hE
        go_wp2
        go_end0
        exact ⟨rfl, HBD.out, hbel⟩

set_option maxRecDepth 100000 in
set_option maxHeartbeats 1000000 in
theorem tPlain_any (l : List Inl) (v : Value) (w : World) (h : Rd (· < w.heap.size) w (inlsD l) [v]) (hlen : (Inl.plainL l).length ≤ 1000000000) :
    Calls Tryz.prog 62 #[v] w fun e w' => e = .returned (.string ⟨(Inl.plainL l).toArray⟩) ∧ Below w.heap.size w w' := by
  have b0 : Below w.heap.size w (w.alloc (.cells #[.pointer none, .slice none 0 0] 127)) := (Below.refl _ w).alloc (Nat.le_refl _) _
  have WP := Lib.hid (writePlain_any w.heap.size w.heap.size _ l [] v _ (Nat.le_refl _) (h.below b0) (by simpa using hlen) ⟨Lib.IsBuilderF.of (Lib.fresh_isBuilder 127 5 w), by simp⟩)
  have B0 := Lib.hid b0
  clear h b0
  go_enter Tryz.func62, Tryz.ntmps62
  go_wp2_with fail
  refine WP.out.mono ?_
  rintro e w1 ⟨rfl, hB, hb⟩
  have ST := Lib.hid (Tryz.Builder_String_any_k w.heap.size w.heap.size _ w1 hB.1 hB.2)
  clear hB WP
  go_wp2_with fail
  refine ST.out.mono ?_
  rintro e w2 ⟨rfl, -, b2, -⟩
  go_wp2
  go_ret
  exact ⟨rfl, (B0.out.trans hb).trans b2⟩
end Go.Proofs.YtjobjicdfoklpaaGreatDoor

namespace Go.Proofs.YtjobjicdfoklpaaGreatDoor
open Go.RowKit
set_option linter.unusedVariables false
set_option linter.unusedSimpArgs false

theorem block_of_add (a : Addr) (n : Nat) : (a.add n).block = a.block := by unfold Addr.add; split <;> rfl
theorem add_of_add (a : Addr) (i j : Nat) : (a.add i).add j = a.add (i + j) := by
  unfold Addr.add
  by_cases hi : i = 0 <;> by_cases hj : j = 0 <;> simp [hi, hj, Nat.add_assoc]

def Reads (w : World) (B size : Nat) (A : Option Addr) (n : Nat) (xs : List Value) : Prop :=
  xs.length = n * size ∧ (0 < n → ∃ ad, A = some ad ∧ ad.block < B ∧ ∀ j u, xs[j]? = some u → w.cell? (ad.add j) = some u)

section
variable {w w' : World} {B B' size n : Nat} {A : Option Addr} {xs : List Value}
theorem Reads.none_ : Reads w B size A 0 [] := ⟨by simp, fun h => absurd h (by omega)⟩
theorem Reads.at_ {k : Nat} (h : Reads w B 1 A n xs) (hk : k < n) : ∃ ad u, A = some ad ∧ ad.block < B ∧ xs[k]? = some u ∧ w.cell? (ad.add k) = some u := by
  obtain ⟨ad, e, hb, hc⟩ := h.2 (by omega)
  have hl : k < xs.length := by have := h.1; omega
  exact ⟨ad, xs[k], e, hb, List.getElem?_eq_getElem hl, hc k _ (List.getElem?_eq_getElem hl)⟩
theorem Reads.keep (h : Reads w B size A n xs) (hk : ∀ p : Addr, p.block < B → w'.cell? p = w.cell? p) : Reads w' B size A n xs :=
  ⟨h.1, fun hn => by
    obtain ⟨ad, e, hb, hc⟩ := h.2 hn
    exact ⟨ad, e, hb, fun j u hu => (hk _ (by rw [block_of_add]; exact hb)).trans (hc j u hu)⟩⟩
theorem Reads.more (h : Reads w B size A n xs) (hB : B ≤ B') : Reads w B' size A n xs :=
  ⟨h.1, fun hn => by
    obtain ⟨ad, e, hb, hc⟩ := h.2 hn
    exact ⟨ad, e, by omega, hc⟩⟩
theorem Reads.below (h : Reads w B size A n xs) (hb : Below B w w') : Reads w' B size A n xs := h.keep fun _ hp => hb.cell hp
theorem Reads.drew (h : Reads w B size A n xs) : Reads w.drew B size A n xs := h
theorem Reads.drewN (h : Reads w B size A n xs) (k : Nat) : Reads (w.drewN k) B size A n xs := h
theorem Reads.alloc (h : Reads w B size A n xs) (hB : B ≤ w.heap.size) (o : Obj) : Reads (w.alloc o) B size A n xs := h.keep fun p hp => World.cell?_alloc_lt w o p (by omega)
theorem Reads.setCell (h : Reads w B size A n xs) {p : Addr} (hB : B ≤ p.block) (u : Value) : Reads (w.setCell p u) B size A n xs :=
  h.keep fun q hq => World.cell?_setCell_other w p q u (fun e => by subst e; omega)
theorem Reads.grown (h : Reads w B size A n xs) {row : Option Nat} (hg : w.grownBy w' row) (hB : B ≤ w.heap.size) (hr : ∀ g, row = some g → B ≤ g) : Reads w' B size A n xs :=
  h.keep fun p hp => World.cell?_of_block (hg.block p.block (by omega) (fun e => by have := hr _ e.symm; omega))
theorem Reads.cut (h : Reads w B size A n xs) {k cap : Nat} (hk : k ≤ n) (hc : n ≤ cap) :
    Reads w B size (if cap = k then A else A.map (·.add (k * size))) (n - k) (xs.drop (k * size)) := by
  refine ⟨by rw [List.length_drop, h.1, Nat.sub_mul], fun hn => ?_⟩
  obtain ⟨ad, rfl, hb, hcell⟩ := h.2 (by omega)
  rw [if_neg (by omega)]
  refine ⟨ad.add (k * size), rfl, by rw [block_of_add]; exact hb, fun j u hu => ?_⟩
  rw [add_of_add]
  exact hcell _ u (by rw [← hu, List.getElem?_drop])
theorem Reads.of_own {base : Nat} {e : TypeId} {c : Nat} (h : w.ownsRow base e size (.slice A n c) n xs) : Reads w w.heap.size size A n xs := by
  refine ⟨h.1, fun hn => ?_⟩
  obtain ⟨g, cap, hv, _, hlt⟩ := h.form hn
  have hA : A = some ⟨g, 0, none⟩ := by injection hv
  subst hA
  exact ⟨_, rfl, hlt, h.cells (g := g) rfl⟩
end

section
variable {P : Program} (w : World)

theorem run_append_of_nil (base : Nat) (t ty e : TypeId) (i : TypeInfo) (size : Nat) (ht : P.underlying t = some (.slice e)) (hi : P.info? e = some i)
    (v : Value) (n : Nat) (xs : List Value) (hown : w.ownsRow base e size v n xs) (c : Nat) : (Builtin.append_ #[t, t] ty #[v, .slice none 0 c]).run P w = .ok v w := by
  rcases hown.2 with ⟨rfl, rfl⟩ | ⟨g, cap, cur, rfl, _, _, hnc, _⟩
  · simp [Builtin.append_, run_underlying ht, sizeOf, typeInfo, hi, Builtin.lenOf, Builtin.firstCells]
  · simp [Builtin.append_, run_underlying ht, sizeOf, typeInfo, hi, Builtin.lenOf, Builtin.firstCells, hnc, storeCells]

theorem run_append_any (base : Nat) (t ty e : TypeId) (i : TypeInfo) (z : Value) (size bytes : Nat) (ht : P.underlying t = some (.slice e)) (hi : P.info? e = some i) (hz : i.zero = some z)
    (hsize : i.size = size) (hby : i.bytes = bytes) (hzs : z.cells.size = size) (hsz : 0 < size)
    (v : Value) (n : Nat) (xs : List Value) (hown : w.ownsRow base e size v n xs)
    (B : Nat) (A : Option Addr) (m c : Nat) (news : List Value) (hr : Reads w B size A m news) (h1 : ∀ u ∈ news, u.oneCell' = true)
    (h63 : n + m ≤ maxLen) (hbytes : (n + m) * bytes ≤ 140737488355328) (hbase : base ≤ w.heap.size) :
    ∃ v' w', (Builtin.append_ #[t, t] ty #[v, .slice A m c]).run P w = .ok v' w' ∧ w'.ownsRow base e size v' (n + m) (xs ++ news) ∧ w.grownBy w' v.ownBlock ∧
      (v'.ownBlock = v.ownBlock ∨ v'.ownBlock = some w.heap.size) := by
  rcases A with _ | ad
  · have hm : m = 0 := by
      rcases Nat.eq_zero_or_pos m with h0 | h0
      · exact h0
      · obtain ⟨ad, h, _⟩ := hr.2 h0
        cases h
    subst hm
    have hn : news = [] := List.eq_nil_of_length_eq_zero (by simpa using hr.1)
    subst hn
    exact ⟨v, w, run_append_of_nil w base t ty e i size ht hi v n xs hown c, by simpa using hown, World.grownBy.refl w _, .inl rfl⟩
  · have hcells : ∀ j u, news[j]? = some u → w.cell? (ad.add j) = some u := by
      intro j u hu
      rcases Nat.eq_zero_or_pos m with h0 | h0
      · subst h0
        have hn : news = [] := List.eq_nil_of_length_eq_zero (by simpa using hr.1)
        subst hn
        simp at hu
      · obtain ⟨ad', h, _, hc⟩ := hr.2 h0
        injection h with h
        subst h
        exact hc j u hu
    obtain ⟨v', w', hrun, h2, h3, _, h5⟩ := run_append_own_at (P := P) w base t ty e i z size bytes ht hi hz hsize hby hzs hsz v n xs hown ad m c news hr.1 hcells h1 h63 hbytes hbase
    exact ⟨v', w', hrun, h2, h3, h5⟩

theorem wp_append_any {o : Oper} {a : Act} {K : Act → World → Prop} {Q : Exit → Act → World → Prop} (s x : Operand) (t : TypeId)
    (ho : o.op = .call { callee := .builtin .append, args := #[s, x], argTypes := #[t, t] })
    (base : Nat) (e : TypeId) (i : TypeInfo) (z : Value) (size bytes : Nat) (ht : P.underlying t = some (.slice e)) (hi : P.info? e = some i) (hz : i.zero = some z)
    (hsize : i.size = size) (hby : i.bytes = bytes) (hzs : z.cells.size = size) (hsz : 0 < size)
    (v : Value) (n : Nat) (xs : List Value) (hs : a.eval s = v) (hown : w.ownsRow base e size v n xs)
    (B : Nat) (A : Option Addr) (m c : Nat) (news : List Value) (hx : a.eval x = .slice A m c) (hr : Reads w B size A m news) (h1 : ∀ u ∈ news, u.oneCell' = true)
    (h63 : n + m ≤ maxLen) (hbytes : (n + m) * bytes ≤ 140737488355328) (hbase : base ≤ w.heap.size)
    (h : ∀ v' w', w'.ownsRow base e size v' (n + m) (xs ++ news) → w.grownBy w' v.ownBlock → (v'.ownBlock = v.ownBlock ∨ v'.ownBlock = some w.heap.size) → K (a.put o.dst v') w') : o.wp P a w K Q := by
  obtain ⟨v', w', hrun, h2, h3, h4⟩ := run_append_any (P := P) w base t o.type e i z size bytes ht hi hz hsize hby hzs hsz v n xs hown B A m c news hr h1 h63 hbytes hbase
  unfold Oper.wp execOp
  simp only [ho, resolve, invoke, builtin, Sem.run_bind, Sem.run_pure, Result.andThen_ok, List.map_toArray, List.map_cons, List.map_nil, hs, hx, hrun]
  exact h v' w' h2 h3 h4

theorem wpList_append_any {ops : Array Oper} {rest : List Oper} {o : Oper} {a : Act} {Q : Exit → Act → World → Prop} (hgd : o.guard = none) (s x : Operand) (t : TypeId)
    (ho : o.op = .call { callee := .builtin .append, args := #[s, x], argTypes := #[t, t] })
    (base : Nat) (e : TypeId) (i : TypeInfo) (z : Value) (size bytes : Nat) (ht : P.underlying t = some (.slice e)) (hi : P.info? e = some i) (hz : i.zero = some z)
    (hsize : i.size = size) (hby : i.bytes = bytes) (hzs : z.cells.size = size) (hsz : 0 < size)
    (v : Value) (n : Nat) (xs : List Value) (hs : a.eval s = v) (hown : w.ownsRow base e size v n xs)
    (B : Nat) (A : Option Addr) (m c : Nat) (news : List Value) (hx : a.eval x = .slice A m c) (hr : Reads w B size A m news) (h1 : ∀ u ∈ news, u.oneCell' = true)
    (h63 : n + m ≤ maxLen) (hbytes : (n + m) * bytes ≤ 140737488355328) (hbase : base ≤ w.heap.size)
    (h : ∀ v' w', w'.ownsRow base e size v' (n + m) (xs ++ news) → w.grownBy w' v.ownBlock → (v'.ownBlock = v.ownBlock ∨ v'.ownBlock = some w.heap.size) → wpList P ops Q rest (a.put o.dst v') w') : wpList P ops Q (o :: rest) a w :=
  wpList_plain hgd fun _ hK => wp_append_any w s x t ho base e i z size bytes ht hi hz hsize hby hzs hsz v n xs hs hown B A m c news hx hr h1 h63 hbytes hbase fun v' w' h2 h3 h4 => hK _ _ (h v' w' h2 h3 h4)

theorem step_append_any {ops : Array Oper} {o : Oper} {a : Act} {K : Act → World → Prop} {Q : Exit → Act → World → Prop} {E : Prop} (hgd : o.guard = none) (s x : Operand) (t : TypeId)
    (ho : o.op = .call { callee := .builtin .append, args := #[s, x], argTypes := #[t, t] })
    (base : Nat) (e : TypeId) (i : TypeInfo) (z : Value) (size bytes : Nat) (ht : P.underlying t = some (.slice e)) (hi : P.info? e = some i) (hz : i.zero = some z)
    (hsize : i.size = size) (hby : i.bytes = bytes) (hzs : z.cells.size = size) (hsz : 0 < size)
    (v : Value) (n : Nat) (xs : List Value) (hs : a.eval s = v) (hown : w.ownsRow base e size v n xs)
    (B : Nat) (A : Option Addr) (m c : Nat) (news : List Value) (hx : a.eval x = .slice A m c) (hr : Reads w B size A m news) (h1 : ∀ u ∈ news, u.oneCell' = true)
    (h63 : n + m ≤ maxLen) (hbytes : (n + m) * bytes ≤ 140737488355328) (hbase : base ≤ w.heap.size)
    (h : ∀ v' w', w'.ownsRow base e size v' (n + m) (xs ++ news) → w.grownBy w' v.ownBlock → (v'.ownBlock = v.ownBlock ∨ v'.ownBlock = some w.heap.size) → K (a.put o.dst v') w') :
    if Region.wanted o (yielded ops a.tmps) = true then Oper.wp P o a w K Q else E := by
  have hw : Region.wanted o (yielded ops a.tmps) = true := by simp [Region.wanted, hgd]
  rw [if_pos hw]
  exact wp_append_any w s x t ho base e i z size bytes ht hi hz hsize hby hzs hsz v n xs hs hown B A m c news hx hr h1 h63 hbytes hbase h
end

/-- What a slice that reads as data gives an append. -/
theorem Rd.reads {B : Nat} {w : World} {k : Nat} {l : List D} {v : Value} (h : Rd (· < B) w (.sl k l) [v]) : ∃ A cap rows, v = .slice A l.length cap ∧ l.length ≤ cap ∧ cap ≤ maxLen ∧ RdL (· < B) w l rows ∧ (∀ r ∈ rows, r.length = k) ∧ Reads w B k A l.length rows.flatten := by
  unfold Rd at h
  obtain ⟨a, cap, rows, h1, h2, h3, h4, h5, h6⟩ := h
  refine ⟨a, cap, rows, by simpa using h1, h2, h3, h4, h5, ?_, fun hp => ?_⟩
  · rw [flat_len k rows h5, h4.len]
  · rcases h6 with h6 | ⟨b, off, h7, h8, hb, h9⟩
    · omega
    · refine ⟨⟨b, off, none⟩, h7, h8, fun j u hu => ?_⟩
      have e : ((⟨b, off, none⟩ : Addr).add j) = ⟨b, off + j, none⟩ := by unfold Addr.add; split <;> simp_all
      rw [e]; exact h9 j u hu
end Go.Proofs.YtjobjicdfoklpaaGreatDoor
