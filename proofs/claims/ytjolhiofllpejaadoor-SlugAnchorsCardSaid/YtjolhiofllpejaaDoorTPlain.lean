/- Contracts of tree.writePlain and tree.Plain. -/
import Derived.Test.YtjolhiofllpejaaDoorRPlain
import Derived.Test.YtjolhiofllpejaaDoorBuilderK
import Derived.Test.YtjolhiofllpejaaDoorFold
namespace Go.Proofs.YtjolhiofllpejaaDoor
open Go.RowKit
set_option linter.unusedVariables false

theorem Rd.below {B : Nat} {w w' : World} {d : D} {cs : List Value} (h : Rd (· < B) w d cs) (hb : Below B w w') : Rd (· < B) w' d cs :=
  Rd.keep (fun b hb1 _ => ⟨hb1, hb.block b hb1⟩) d cs h
theorem SlAt.below {B : Nat} {w w' : World} {k : Nat} {l : List D} {a : Option Addr} {cap : Nat} (h : SlAt (· < B) w k l a cap) (hb : Below B w w') : SlAt (· < B) w' k l a cap := by
  refine ⟨h.le, h.max, fun hp => ?_⟩
  obtain ⟨b, off, h1, h2, h3, h4⟩ := h.at_ hp
  refine ⟨b, off, h1, h2, lt_same (hb.block b h2) h3, fun i d hd => ?_⟩
  obtain ⟨r, hr, hl, hc⟩ := h4 i d hd
  exact ⟨r, hr.below hb, hl, fun j u hu => by rw [cell_same (hb.block b h2)]; exact hc j u hu⟩

theorem strCells_bytes (s : ByteArray) : Lib.strCells s = Lib.byteCells s.data.toList := by simp [Lib.strCells, Lib.byteCells]

/-- The builder in block b, of a caller whose own blocks begin at B. -/
def Bd (B b : Nat) (l : List UInt8) (w : World) : Prop := Lib.IsBuilderF 48 5 B b (Lib.byteCells l) w ∧ B ≤ w.heap.size
def PwRel (B b : Nat) (pre : List UInt8) (l : List Inl) (w : World) (vi : Value) (wr : World) : Prop :=
  ∃ k : Nat, k ≤ l.length ∧ vi = .int .i64 k ∧ Bd B b (pre ++ Inl.plainL (l.take k)) wr ∧ Below B w wr
def PwPost (B b : Nat) (out : List UInt8) (w : World) (e : Ending) (w' : World) : Prop := e = .returned (.tuple #[]) ∧ Bd B b out w' ∧ Below B w w'

set_option maxRecDepth 100000 in
set_option maxHeartbeats 4000000 in
theorem writePlain_any (B b : Nat) (n : Nat) : ∀ (l : List Inl) (pre : List UInt8) (v : Value) (w : World), Inl.szL l ≤ n → Rd (· < B) w (inlsD l) [v] → pre.length + (Inl.plainL l).length ≤ 1000000000 → Bd B b pre w →
    Calls Tryd.prog 64 #[.pointer (some ⟨b, 0, none⟩), v] w (PwPost B b (pre ++ Inl.plainL l) w) := by
  induction n using Nat.strongRecOn with
  | _ n ih =>
    intro l pre v w hn hrd hlen hbd
    obtain ⟨a, cap, hv, hs⟩ := Rd.sl_open hrd
    obtain rfl : v = .slice a l.length cap := by simpa using hv
    have hcap : l.length ≤ cap := by simpa using hs.le
    have hmx := hs.max
    have HS := Lib.hid hs
    have HZ : Hid (pre ++ Inl.plainL (l.take 0) = pre) := by show pre ++ Inl.plainL [] = pre; rw [Inl.plainL, List.append_nil]
    have IH := Lib.hid ih
    have HB := Lib.hid hbd
    clear hs hv hrd ih hbd
    unfold maxLen at hmx
    go_enter Tryd.func64, Tryd.ntmps64
    go_wp2
    go_loopw [8] (fun vi wr => PwRel B b pre l w vi wr) (fun i _ => l.length - (intOf i).toNat)
    case atStart => exact ⟨0, Nat.zero_le _, rfl, by rw [HZ.out]; exact HB.out, Below.refl _ _⟩
    case round =>
      obtain ⟨k, hk, rfl, hbd, hbel⟩ := hrel
      have HBD := Lib.hid hbd
      clear hbd
      by_cases hlt : k < l.length
      · obtain ⟨x, hx⟩ : ∃ x, l[k]? = some x := ⟨_, List.getElem?_eq_getElem hlt⟩
        obtain ⟨kd, t, d, ti, at_, ar, ci, ks⟩ := x
        obtain ⟨g, off, vc, vp, va, vi, vk, rfl, hok, hbl, hc, hR⟩ := inls_at (HS.out.below hbel) hx
        obtain ⟨c0, c1, c2, -, -, -, -, -, -, c9⟩ := hc
        have hkids := hR.kids
        have hsz := Inl.szL_get l k _ hx
        rw [Inl.sz] at hsz
        have HT := Lib.hid (Inl.plainL_take l k _ hx)
        have hle := Inl.plain_le l k _ hx
        have ik := fun p h1 h2 => IH.out (Inl.szL ks) (by omega) ks p vk wr (Nat.le_refl _) hkids h1 h2
        have IK := Lib.hid ik
        clear hx hkids hR ik
        have hpl : (pre ++ Inl.plainL (l.take k)).length = pre.length + (Inl.plainL (l.take k)).length := by simp
        generalize hacc : Inl.plainL (l.take k) = acc at *
        generalize hacc' : Inl.plainL (l.take (k + 1)) = acc' at *
        have HA' := Lib.hid hacc'
        clear hacc hacc'
        obtain ⟨P, hP⟩ : ∃ P, P = pre ++ acc := ⟨_, rfl⟩
        have HP := Lib.hid hP
        rw [← hP] at HBD hpl
        clear hP
        have WS := Lib.hid (fun (s : ByteArray) (h : P.length + s.size ≤ 1000000000) => (writeString_k B b (Lib.byteCells P) s wr HBD.out.1 (by rw [Lib.byteCells_length]; omega) HBD.out.2).mono fun _ w' ⟨he, hw⟩ => (⟨he, ⟨by rw [Lib.byteCells_append, ← strCells_bytes]; exact hw.1, Nat.le_trans HBD.out.2 hw.2.1.size⟩, hw.2.1⟩ : _ ∧ Bd B b (P ++ s.data.toList) w' ∧ Below B wr w'))
        have WB := Lib.hid (fun (h : P.length + 1 ≤ 1000000000) => (writeByte_k B b (Lib.byteCells P) 32 wr HBD.out.1 (by rw [Lib.byteCells_length]; omega) HBD.out.2).mono fun _ w' ⟨he, hw⟩ => (⟨he, ⟨by rw [Lib.byteCells_append]; exact hw.1, Nat.le_trans HBD.out.2 hw.2.1.size⟩, hw.2.1⟩ : _ ∧ Bd B b (P ++ [32]) w' ∧ Below B wr w'))
        have IK2 := Lib.hid (fun h => IK.out P h HBD.out)
        clear IK
        rcases plain_kinds kd with (rfl | rfl | rfl) | (rfl | rfl) | (rfl | rfl | rfl | rfl | rfl | rfl) | rfl | h
        · have hp : (Inl.mk 1 t d ti at_ ar ci ks).plain = t.data.toList := by rw [Inl.plain]; simp
          rw [hp] at HT hle
          have W1 := Lib.hid (WS.out t (by rw [Lib.size_eq]; omega))
          clear hp hle WS WB IK2
          go_wp2_with fail
          refine W1.out.mono ?_
          rintro e w1 ⟨rfl, B1, b1⟩
          have HB1 := Lib.hid B1
          clear B1
          go_wp2
          go_roundw
          case rel => exact ⟨k + 1, by omega, by go_num, by rw [HA'.out, HT.out, ← List.append_assoc, ← HP.out]; exact HB1.out, hbel.trans b1⟩
          case measure => simp [intOf]; omega
        · have hp : (Inl.mk 4 t d ti at_ ar ci ks).plain = t.data.toList := by rw [Inl.plain]; simp
          rw [hp] at HT hle
          have W1 := Lib.hid (WS.out t (by rw [Lib.size_eq]; omega))
          clear hp hle WS WB IK2
          go_wp2_with fail
          refine W1.out.mono ?_
          rintro e w1 ⟨rfl, B1, b1⟩
          have HB1 := Lib.hid B1
          clear B1
          go_wp2
          go_roundw
          case rel => exact ⟨k + 1, by omega, by go_num, by rw [HA'.out, HT.out, ← List.append_assoc, ← HP.out]; exact HB1.out, hbel.trans b1⟩
          case measure => simp [intOf]; omega
        · have hp : (Inl.mk 5 t d ti at_ ar ci ks).plain = t.data.toList := by rw [Inl.plain]; simp
          rw [hp] at HT hle
          have W1 := Lib.hid (WS.out t (by rw [Lib.size_eq]; omega))
          clear hp hle WS WB IK2
          go_wp2_with fail
          refine W1.out.mono ?_
          rintro e w1 ⟨rfl, B1, b1⟩
          have HB1 := Lib.hid B1
          clear B1
          go_wp2
          go_roundw
          case rel => exact ⟨k + 1, by omega, by go_num, by rw [HA'.out, HT.out, ← List.append_assoc, ← HP.out]; exact HB1.out, hbel.trans b1⟩
          case measure => simp [intOf]; omega
        · have hp : (Inl.mk 2 t d ti at_ ar ci ks).plain = [32] := by rw [Inl.plain]; simp
          rw [hp] at HT hle
          simp only [List.length_cons, List.length_nil] at hle
          have W1 := Lib.hid (WB.out (by omega))
          clear hp hle WS WB IK2
          go_wp2_with fail
          refine W1.out.mono ?_
          rintro e w1 ⟨rfl, B1, b1⟩
          have HB1 := Lib.hid B1
          clear B1
          go_wp2
          go_roundw
          case rel => exact ⟨k + 1, by omega, by go_num, by rw [HA'.out, HT.out, ← List.append_assoc, ← HP.out]; exact HB1.out, hbel.trans b1⟩
          case measure => simp [intOf]; omega
        · have hp : (Inl.mk 3 t d ti at_ ar ci ks).plain = [32] := by rw [Inl.plain]; simp
          rw [hp] at HT hle
          simp only [List.length_cons, List.length_nil] at hle
          have W1 := Lib.hid (WB.out (by omega))
          clear hp hle WS WB IK2
          go_wp2_with fail
          refine W1.out.mono ?_
          rintro e w1 ⟨rfl, B1, b1⟩
          have HB1 := Lib.hid B1
          clear B1
          go_wp2
          go_roundw
          case rel => exact ⟨k + 1, by omega, by go_num, by rw [HA'.out, HT.out, ← List.append_assoc, ← HP.out]; exact HB1.out, hbel.trans b1⟩
          case measure => simp [intOf]; omega
        · have hp : (Inl.mk 6 t d ti at_ ar ci ks).plain = Inl.plainL ks := by rw [Inl.plain]; simp
          rw [hp] at HT hle
          have W1 := Lib.hid (IK2.out (by omega))
          clear hp hle WS WB IK2
          generalize Inl.plainL ks = pk at *
          go_wp2_with fail
          refine W1.out.mono ?_
          rintro e w1 ⟨rfl, B1, b1⟩
          have HB1 := Lib.hid B1
          clear B1
          go_wp2
          go_roundw
          case rel => exact ⟨k + 1, by omega, by go_num, by rw [HA'.out, HT.out, ← List.append_assoc, ← HP.out]; exact HB1.out, hbel.trans b1⟩
          case measure => simp [intOf]; omega
        · have hp : (Inl.mk 7 t d ti at_ ar ci ks).plain = Inl.plainL ks := by rw [Inl.plain]; simp
          rw [hp] at HT hle
          have W1 := Lib.hid (IK2.out (by omega))
          clear hp hle WS WB IK2
          generalize Inl.plainL ks = pk at *
          go_wp2_with fail
          refine W1.out.mono ?_
          rintro e w1 ⟨rfl, B1, b1⟩
          have HB1 := Lib.hid B1
          clear B1
          go_wp2
          go_roundw
          case rel => exact ⟨k + 1, by omega, by go_num, by rw [HA'.out, HT.out, ← List.append_assoc, ← HP.out]; exact HB1.out, hbel.trans b1⟩
          case measure => simp [intOf]; omega
        · have hp : (Inl.mk 8 t d ti at_ ar ci ks).plain = Inl.plainL ks := by rw [Inl.plain]; simp
          rw [hp] at HT hle
          have W1 := Lib.hid (IK2.out (by omega))
          clear hp hle WS WB IK2
          generalize Inl.plainL ks = pk at *
          go_wp2_with fail
          refine W1.out.mono ?_
          rintro e w1 ⟨rfl, B1, b1⟩
          have HB1 := Lib.hid B1
          clear B1
          go_wp2
          go_roundw
          case rel => exact ⟨k + 1, by omega, by go_num, by rw [HA'.out, HT.out, ← List.append_assoc, ← HP.out]; exact HB1.out, hbel.trans b1⟩
          case measure => simp [intOf]; omega
        · have hp : (Inl.mk 9 t d ti at_ ar ci ks).plain = Inl.plainL ks := by rw [Inl.plain]; simp
          rw [hp] at HT hle
          have W1 := Lib.hid (IK2.out (by omega))
          clear hp hle WS WB IK2
          generalize Inl.plainL ks = pk at *
          go_wp2_with fail
          refine W1.out.mono ?_
          rintro e w1 ⟨rfl, B1, b1⟩
          have HB1 := Lib.hid B1
          clear B1
          go_wp2
          go_roundw
          case rel => exact ⟨k + 1, by omega, by go_num, by rw [HA'.out, HT.out, ← List.append_assoc, ← HP.out]; exact HB1.out, hbel.trans b1⟩
          case measure => simp [intOf]; omega
        · have hp : (Inl.mk 10 t d ti at_ ar ci ks).plain = Inl.plainL ks := by rw [Inl.plain]; simp
          rw [hp] at HT hle
          have W1 := Lib.hid (IK2.out (by omega))
          clear hp hle WS WB IK2
          generalize Inl.plainL ks = pk at *
          go_wp2_with fail
          refine W1.out.mono ?_
          rintro e w1 ⟨rfl, B1, b1⟩
          have HB1 := Lib.hid B1
          clear B1
          go_wp2
          go_roundw
          case rel => exact ⟨k + 1, by omega, by go_num, by rw [HA'.out, HT.out, ← List.append_assoc, ← HP.out]; exact HB1.out, hbel.trans b1⟩
          case measure => simp [intOf]; omega
        · have hp : (Inl.mk 11 t d ti at_ ar ci ks).plain = Inl.plainL ks := by rw [Inl.plain]; simp
          rw [hp] at HT hle
          have W1 := Lib.hid (IK2.out (by omega))
          clear hp hle WS WB IK2
          generalize Inl.plainL ks = pk at *
          go_wp2_with fail
          refine W1.out.mono ?_
          rintro e w1 ⟨rfl, B1, b1⟩
          have HB1 := Lib.hid B1
          clear B1
          go_wp2
          go_roundw
          case rel => exact ⟨k + 1, by omega, by go_num, by rw [HA'.out, HT.out, ← List.append_assoc, ← HP.out]; exact HB1.out, hbel.trans b1⟩
          case measure => simp [intOf]; omega
        · have hp : (Inl.mk 16 t d ti at_ ar ci ks).plain = d.data.toList := by rw [Inl.plain]; simp
          rw [hp] at HT hle
          have W1 := Lib.hid (WS.out d (by rw [Lib.size_eq]; omega))
          clear hp hle WS WB IK2
          go_wp2_with fail
          refine W1.out.mono ?_
          rintro e w1 ⟨rfl, B1, b1⟩
          have HB1 := Lib.hid B1
          clear B1
          go_wp2
          go_roundw
          case rel => exact ⟨k + 1, by omega, by go_num, by rw [HA'.out, HT.out, ← List.append_assoc, ← HP.out]; exact HB1.out, hbel.trans b1⟩
          case measure => simp [intOf]; omega
        · obtain ⟨h1, h4, h5, h2, h3, h6, h7, h8, h9, h10, h11, h16⟩ := h
          have hp : (Inl.mk kd t d ti at_ ar ci ks).plain = [] := by rw [Inl.plain]; simp [h1, h2, h3, h4, h5, h6, h7, h8, h9, h10, h11, h16]
          rw [hp] at HT
          have f1 := beq_false_of_ne h1
          have f2 := beq_false_of_ne h2
          have f3 := beq_false_of_ne h3
          have f4 := beq_false_of_ne h4
          have f5 := beq_false_of_ne h5
          have f6 := beq_false_of_ne h6
          have f7 := beq_false_of_ne h7
          have f8 := beq_false_of_ne h8
          have f9 := beq_false_of_ne h9
          have f10 := beq_false_of_ne h10
          have f11 := beq_false_of_ne h11
          have f16 := beq_false_of_ne h16
          clear hp h1 h2 h3 h4 h5 h6 h7 h8 h9 h10 h11 h16 hle WS WB IK2
          go_wp2
          go_roundw
          case rel => exact ⟨k + 1, by omega, by go_num, by rw [HA'.out, HT.out, List.append_nil, ← HP.out]; exact HBD.out, hbel⟩
          case measure => simp [intOf]; omega
      · have hkl : k = l.length := by omega
        have hE : Inl.plainL (l.take k) = Inl.plainL l := by rw [hkl, List.take_length]
        rw [hE] at HBD
        clear hkl hE
        go_wp2
        go_end0
        exact ⟨rfl, HBD.out, hbel⟩

set_option maxRecDepth 100000 in
set_option maxHeartbeats 1000000 in
theorem tPlain_any (l : List Inl) (v : Value) (w : World) (h : Rd (· < w.heap.size) w (inlsD l) [v]) (hlen : (Inl.plainL l).length ≤ 1000000000) :
    Calls Tryd.prog 37 #[v] w fun e w' => e = .returned (.string ⟨(Inl.plainL l).toArray⟩) ∧ Below w.heap.size w w' := by
  have b0 : Below w.heap.size w (w.alloc (.cells #[.pointer none, .slice none 0 0] 48)) := (Below.refl _ w).alloc (Nat.le_refl _) _
  have WP := Lib.hid (writePlain_any w.heap.size w.heap.size _ l [] v _ (Nat.le_refl _) (h.below b0) (by simpa using hlen) ⟨Lib.IsBuilderF.of (Lib.fresh_isBuilder 48 5 w), by simp⟩)
  have B0 := Lib.hid b0
  clear h b0
  go_enter Tryd.func37, Tryd.ntmps37
  go_wp2_with fail
  refine WP.out.mono ?_
  rintro e w1 ⟨rfl, hB, hb⟩
  have ST := Lib.hid (Tryd.Builder_String_any_k w.heap.size w.heap.size _ w1 hB.1 hB.2)
  clear hB WP
  go_wp2_with fail
  refine ST.out.mono ?_
  rintro e w2 ⟨rfl, -, b2, -⟩
  go_wp2
  go_ret
  exact ⟨rfl, (B0.out.trans hb).trans b2⟩
end Go.Proofs.YtjolhiofllpejaaDoor
