/- The contract of chars.Fold. -/
import Derived.Test.YtjobjicdfoklpaaGreatDoorCharsC
import Derived.Test.YtjobjicdfoklpaaGreatDoorBuilderK
import Derived.BigCall
import Derived.Lib.FieldsP
import Derived.Lib.TrimU
import Derived.Deep.DeepCutAuto
namespace Go.Proofs.YtjobjicdfoklpaaGreatDoor
open Go.RowKit
set_option linter.unusedVariables false
set_option linter.unusedSimpArgs false

theorem decs_le (s : ByteArray) (i : Nat) (h : i < s.size) : i + (Utf8.decode s i).2 ≤ s.size := by
  have := Lib.decodeN_le_n' (s.size - i) (s.get! i).toNat (s.get! (i + 1)).toNat (s.get! (i + 2)).toNat (s.get! (i + 3)).toNat (by omega)
  rw [Lib.decode_at]; omega
theorem lowerC_le (c : Nat) (h : c ≤ 1114111) : lowerC c ≤ 1114111 := by
  unfold lowerC; (repeat' split) <;> omega
theorem spC_no (c : Nat) (h : ¬ spC c = true) : spC c = false := by simpa using h
theorem encL_nil (acc : List Nat) : (encL acc).length = 0 ↔ acc = [] := by
  have := encL_len acc
  constructor
  · intro h; exact List.length_eq_zero_iff.1 (by omega)
  · rintro rfl; rfl

/-- The builder in block w.heap.size and the iterator in block k, in one word. -/
def BdIt (w : World) (k : Nat) (s : ByteArray) (pos : Nat) (l : List UInt8) (wr : World) : Prop :=
  Lib.IsBuilderF 127 5 w.heap.size w.heap.size (Lib.byteCells l) wr ∧ wr.heap[k]? = some (.stringIter s pos) ∧ Below w.heap.size w wr ∧ w.heap.size < k
section
variable {w : World} {k : Nat} {s : ByteArray} {pos : Nat} {l l' : List UInt8} {wr w' : World}
theorem BdIt.wrote (h : BdIt w k s pos l wr) (hw : Wrote w.heap.size w.heap.size (Lib.byteCells l ++ Lib.byteCells l') wr w') : BdIt w k s pos (l ++ l') w' :=
  ⟨by rw [Lib.byteCells_append]; exact hw.1, hw.2.2.iter h.2.1 (by have := h.2.2.2; omega), h.2.2.1.trans hw.2.1, h.2.2.2⟩
theorem BdIt.next (h : BdIt w k s pos l wr) (p : Nat) : BdIt w k s p l (wr.iterAt k s p) :=
  ⟨h.1.iterAt h.2.1 p, Lib.iterAt_heap wr k s pos p h.2.1, Lib.below_iterAt h.2.2.1 (k := k) (by have := h.2.2.2; omega) s p, h.2.2.2⟩
theorem BdIt.size (h : BdIt w k s pos l wr) : w.heap.size ≤ wr.heap.size := h.2.2.1.size
theorem BdIt.start (w : World) (s : ByteArray) : BdIt w (w.heap.size + 1) s 0 [] ((w.alloc (.cells #[.pointer none, .slice none 0 0] 127)).iter s 0) := by
  refine ⟨(Lib.IsBuilderF.of (Lib.fresh_isBuilder 127 5 w)).alloc _, ?_, ((Below.refl _ w).alloc (Nat.le_refl _) _).alloc (by simp) _, by omega⟩
  have := World.iter_heap (w.alloc (.cells #[.pointer none, .slice none 0 0] 127)) s 0
  simpa using this
theorem BdIt.posn (h : BdIt w k s pos l wr) : wr.iterPos k = pos := by simp only [World.iterPos, h.2.1]
theorem bdF_below {T e : TypeId} {B b : Nat} {bs : List Value} (h : Lib.IsBuilderF T e B b bs w) (hb : Below w.heap.size w w') : Lib.IsBuilderF T e B b bs w' := by
  have aux : ∀ p, Lib.BuilderAtF T e B b p bs w → Lib.BuilderAtF T e B b p bs w' := by
    rintro p ⟨h1, v, h2, h3, h4⟩
    have hlt : b < w.heap.size := (Array.getElem?_eq_some_iff.1 h2).1
    refine ⟨h1, v, by rw [hb.block b hlt]; exact h2, h3.kept (row := none) ⟨hb.os, hb.tape, hb.output, hb.size, fun i hi _ => hb.block i hi⟩ (by cases v.ownBlock <;> simp), h4⟩
  rcases h with h | h
  · exact .inl (aux _ h)
  · exact .inr (aux _ h)
/-- The builder is made first, then other work is done, then the range begins. -/
theorem BdIt.later (w : World) (w1 : World) (s : ByteArray) (hb : Below (w.alloc (.cells #[.pointer none, .slice none 0 0] 127)).heap.size (w.alloc (.cells #[.pointer none, .slice none 0 0] 127)) w1) :
    BdIt w w1.heap.size s 0 [] (w1.iter s 0) := by
  have hz : w.heap.size + 1 ≤ w1.heap.size := by have := hb.size; simpa using this
  refine ⟨(bdF_below (Lib.IsBuilderF.of (Lib.fresh_isBuilder 127 5 w)) hb).alloc _, World.iter_heap w1 s 0, ?_, by omega⟩
  exact (((Below.refl _ w).alloc (Nat.le_refl _) _).trans (hb.mono (by simp))).alloc (by omega) _
end

def FRel (w : World) (s : ByteArray) (R : List Nat) (vg : Value) (wr : World) : Prop :=
  ∃ (pos : Nat) (acc : List Nat) (gap : Bool), BdIt w (w.heap.size + 1) s pos (encL acc) wr ∧ foldG (runesAt s pos) gap acc = R ∧ acc.length ≤ 2 * pos ∧ pos ≤ s.size ∧ vg = .bool gap

set_option maxRecDepth 100000 in
set_option maxHeartbeats 2000000 in
theorem chFold_any (s : ByteArray) (w : World) (hs : s.size ≤ 1000000000) :
    Calls Tryz.prog 130 #[.string s] w fun e w' => e = .returned (.string (foldS s)) ∧ Below w.heap.size w w' := by
  obtain ⟨R, hR⟩ : ∃ R, R = foldL s := ⟨_, rfl⟩
  have HS : Hid (foldS s = ⟨(encL R).toArray⟩) := by rw [hR]; rfl
  have HR : Hid (foldG (runesAt s 0) false [] = R) := by rw [hR]; rfl
  clear hR
  generalize foldS s = V at *
  go_enter Tryz.func130, Tryz.ntmps130
  go_wp2
  go_loopw [4] (fun vg wr => FRel w s R vg wr) (fun _ wr => s.size - wr.iterPos (w.heap.size + 1))
  case atStart => exact ⟨0, [], false, BdIt.start w s, HR.out, by simp, by omega, rfl⟩
  case round =>
    obtain ⟨pos, acc, gap, hI, hacc, hal, hps, rfl⟩ := hrel
    have HA := Lib.hid hacc
    have HI := Lib.hid hI
    have hel := (encL_len acc).2
    clear hacc
    by_cases hp : pos < s.size
    · have hnx : ∀ ty, (Instr.next (.pointer (some ⟨w.heap.size + 1, 0, none⟩)) true ty).run Tryz.prog wr = _ := fun ty => Lib.run_next_any_at wr (w.heap.size + 1) s pos ty hI.2.1 hp
      have hd := Lib.rune_le s pos
      have hwd := dec_pos s pos
      have hle := decs_le s pos hp
      have hst := Lib.hid (runesAt_step s pos hp)
      have HI2 := Lib.hid (hI.next (pos + (Utf8.decode s pos).2))
      clear hI
      generalize Utf8.decode s pos = d at *
      obtain ⟨d1, d2⟩ := d
      simp only at hd hwd hle hnx hst HI2
      have hwr : wrap64 (d1 : Int) = d1 := IntWalk.wrap64_in _ ⟨by omega, by omega⟩
      have CS := Lib.hid (fun w => chSpace_any d1 w hd)
      by_cases hsp : spC d1 = true
      · rw [hsp] at CS
        have HSP := Lib.hid hsp
        clear hsp
        go_wp2_with fail
        refine (CS.out _).mono ?_
        rintro e w1 ⟨rfl, rfl⟩
        clear hnx hwr
        go_wp2
        go_roundw
        case rel => exact ⟨pos + d2, acc, true, HI2.out, by rw [← HA.out, hst.out, foldG, if_pos HSP.out], by omega, by omega, rfl⟩
        case measure => rw [HI2.out.posn, HI.out.posn]; omega
      · have hsp := spC_no d1 hsp
        rw [hsp] at CS
        have HSP := Lib.hid hsp
        have LN := Lib.hid (fun wi (h : BdIt w (w.heap.size + 1) s (pos + d2) (encL acc) wi) => (Tryz.Builder_Len_f w.heap.size w.heap.size (Lib.byteCells (encL acc)) wi h.1).mono fun _ _ ⟨he, hw⟩ => (⟨he, hw.symm⟩ : _ ∧ wi = _))
        have hbl : (Lib.byteCells (encL acc)).length = (encL acc).length := Lib.byteCells_length _
        rw [hbl] at LN
        have WB := Lib.hid (fun wi (h : BdIt w (w.heap.size + 1) s (pos + d2) (encL acc) wi) => (writeByte_k w.heap.size w.heap.size (Lib.byteCells (encL acc)) 32 wi h.1 (by rw [hbl]; omega) h.size).mono fun _ _ ⟨he, hw⟩ => (⟨he, h.wrote (l' := [32]) hw⟩ : _ ∧ BdIt w (w.heap.size + 1) s (pos + d2) (encL acc ++ [32]) _))
        have hlo := lowerC_le d1 hd
        have CL := Lib.hid (fun w => chLower_any d1 w hd)
        obtain ⟨A, hA⟩ : ∃ A, A = if gap && !acc.isEmpty then acc ++ [32] else acc := ⟨_, rfl⟩
        have HAE := Lib.hid hA
        have hAl : A.length ≤ acc.length + 1 := by rw [hA]; split <;> simp
        have hel2 := (encL_len A).2
        have WR := Lib.hid (fun wi (h : BdIt w (w.heap.size + 1) s (pos + d2) (encL A) wi) => (writeRune_k w.heap.size w.heap.size (Lib.byteCells (encL A)) (lowerC d1 : Nat) (by omega) (by omega) wi h.1 (by rw [Lib.byteCells_length]; omega) h.size).mono fun _ _ ⟨he, hw⟩ => (⟨he, h.wrote (l' := Lib.encodeRune (lowerC d1 : Nat)) (by rw [Lib.byteCells_encodeRune]; exact hw)⟩ : _ ∧ BdIt w (w.heap.size + 1) s (pos + d2) (encL A ++ Lib.encodeRune (lowerC d1 : Nat)) _))
        have HFA : Hid (foldAdd gap acc d1 = A ++ [lowerC d1]) := by rw [hA]; rfl
        have hAZ : (encL acc).length = 0 ↔ acc = [] := encL_nil acc
        have HAZ := Lib.hid hAZ
        clear hsp hA hAZ hbl
        generalize lowerC d1 = lc at *
        go_wp2_with fail
        refine (CS.out _).mono ?_
        rintro e w1 ⟨rfl, rfl⟩
        clear hnx CS
        obtain ⟨wi, hwi⟩ : ∃ wi, wi = wr.iterAt (w.heap.size + 1) s (pos + d2) := ⟨_, rfl⟩
        rw [← hwi] at HI2 ⊢
        clear hwi
        go_upto_region 8 with (fail)
        go_cut [19] (fun s19 wx => s19 = .bool (gap && !acc.isEmpty) ∧ wi = wx)
        case first =>
          cases gap with
          | false =>
            go_wp2_with fail
            go_meet
            exact ⟨rfl, rfl⟩
          | true =>
            go_wp2_with fail
            refine (LN.out _ HI2.out).mono ?_
            rintro e w1 ⟨rfl, rfl⟩
            go_wp2_with fail
            go_meet
            refine ⟨?_, rfl⟩
            cases acc with
            | nil => rfl
            | cons x l =>
              have hx : 0 < (encL (x :: l)).length := by have := (encL_len (x :: l)).1; simp at this ⊢; omega
              simp [hx]
        case rest =>
          obtain ⟨rfl, rfl⟩ := hcut
          go_upto_if 19 with (fail)
          go_cut [] (fun wx => BdIt w (w.heap.size + 1) s (pos + d2) (encL A) wx)
          case first =>
            by_cases hga : (gap && !acc.isEmpty) = true
            · have hA2 : A = acc ++ [32] := by rw [HAE.out, if_pos hga]
              have HA2 := Lib.hid hA2
              clear hA2
              rw [hga]
              go_wp2_with fail
              refine (WB.out _ HI2.out).mono ?_
              rintro e w1 ⟨rfl, b1⟩
              go_wp2_with fail
              go_meet
              rw [HA2.out, encL_app, encL_one]
              exact b1
            · have hA2 : A = acc := by rw [HAE.out, if_neg hga]
              have HA2 := Lib.hid hA2
              have hga : (gap && !acc.isEmpty) = false := by simpa using hga
              clear hA2
              rw [hga]
              go_wp2_with fail
              go_meet
              rw [HA2.out]
              exact HI2.out
          case rest =>
            have HC := Lib.hid hcut
            clear hcut
            go_wp2_with fail
            refine (CL.out _).mono ?_
            rintro e w1 ⟨rfl, rfl⟩
            go_wp2_with fail
            refine (WR.out _ HC.out).mono ?_
            rintro e w2 ⟨rfl, b2⟩
            have B2 := Lib.hid b2
            clear b2
            go_wp2
            go_roundw
            case rel =>
              refine ⟨pos + d2, A ++ [lc], false, by rw [encL_app, encL_one]; exact B2.out, ?_, by simp; omega, by omega, rfl⟩
              rw [← HA.out, hst.out, foldG, if_neg (by rw [HSP.out]; decide), HFA.out]
            case measure => rw [B2.out.posn, HI.out.posn]; omega
    · have hnx : ∀ ty, (Instr.next (.pointer (some ⟨w.heap.size + 1, 0, none⟩)) true ty).run Tryz.prog wr = _ := fun ty => Lib.run_next_end_at wr (w.heap.size + 1) s pos ty hI.2.1 hp
      have ST := Lib.hid (Tryz.Builder_String_any_k w.heap.size w.heap.size (encL acc) wr hI.1 hI.size)
      have hE := runesAt_end s pos hp
      have HE : Hid (acc = R) := by rw [← HA.out, hE]; rfl
      have hb := hI.2.2.1
      clear hI hE
      go_wp2_with fail
      refine ST.out.mono ?_
      rintro e w1 ⟨rfl, -, b1, -⟩
      go_wp2
      go_ret
      exact ⟨by rw [HS.out, ← HE.out]; rfl, hb.trans b1⟩
end Go.Proofs.YtjobjicdfoklpaaGreatDoor
