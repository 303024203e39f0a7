/- The contract of font.Wide: the plain width of a string. -/
import Derived.Test.YtgjhfjplalcnbaaDoorFont
import Derived.BigCall
namespace Go.Proofs.YtgjhfjplalcnbaaDoor
open Go.RowKit
set_option linter.unusedVariables false

set_option maxRecDepth 100000 in
set_option maxHeartbeats 1000000 in
theorem wideS_any (s : ByteArray) (w : World) (hs2 : s.size ≤ 1099511627776) (ht : TabAt w) :
    Calls Tryd.prog 16 #[.string s] w fun e w' => e = .returned (.int .i64 (wideS s : Nat)) ∧ Below w.heap.size w w' := by
  have HV : Hid (wideFrom s s.size 0 = wideS s) := rfl
  generalize wideS s = V at *
  have HT := Lib.hid ht
  clear ht
  go_enter Tryd.func16, Tryd.ntmps16
  go_wp2
  go_loopw [3] (fun vs wr => ∃ k f sum : Nat, k ≤ s.size ∧ s.size ≤ k + f ∧ sum ≤ 100 * k ∧ sum + wideFrom s f k = V ∧ vs = .int .i64 sum ∧ wr.heap[w.heap.size]? = some (.stringIter s k) ∧ Below w.heap.size w wr) (fun _ wr => s.size - wr.iterPos w.heap.size)
  case atStart =>
    refine ⟨0, s.size, 0, Nat.zero_le _, by omega, by omega, by simpa using HV.out, rfl, ?_, ?_⟩
    · exact World.iter_heap w s 0
    · exact (Below.refl _ w).alloc (Nat.le_refl _) _
  case round =>
    obtain ⟨k, f, sum, h1, h2, h3, h4, rfl, hit, hbel⟩ := hrel
    have H4 := Lib.hid h4
    clear h4
    have hsz : w.heap.size < wr.heap.size := (Array.getElem?_eq_some_iff.1 hit).1
    by_cases hlt : k < s.size
    · have hnx : ∀ ty, (Instr.next (.pointer (some ⟨w.heap.size, 0, none⟩)) true ty).run Tryd.prog wr = _ := fun ty => Lib.run_next_any_at wr w.heap.size s k ty hit hlt
      have hd := dec_le s k hlt
      have hw := Lib.width_pos s k
      have hr := Lib.rune_le s k
      have hon := Lib.hid (wideFrom_on s (f - 1) k hlt)
      rw [show f - 1 + 1 = f from by omega] at hon
      have hit2 := Lib.iterAt_heap wr w.heap.size s k (k + (Utf8.decode s k).2) hit
      have hbel2 := Lib.below_iterAt hbel (k := w.heap.size) (Nat.le_refl _) s (k + (Utf8.decode s k).2)
      generalize Utf8.decode s k = d at *
      obtain ⟨d1, d2⟩ := d
      simp only at hd hw hr hnx hit2 hbel2
      have hle := widthC_le d1
      have hwr : wrap64 (d1 : Int) = d1 := IntWalk.wrap64_in _ ⟨by omega, by omega⟩
      have WI := Lib.hid (width_any d1 (wr.iterAt w.heap.size s (k + d2)) hr (HT.out.below hbel2))
      have HIT2 := Lib.hid hit2
      have HIT := Lib.hid hit
      generalize widthC d1 = y at *
      clear hit hit2
      go_wp2_with fail
      refine WI.out.mono ?_
      rintro e w1 ⟨rfl, hb1⟩
      have hit3 : Hid (w1.heap[w.heap.size]? = some (.stringIter s (k + d2))) := by
        show w1.heap[w.heap.size]? = _
        rw [hb1.block w.heap.size (by rw [Lib.iterAt_size]; exact hsz)]; exact HIT2.out
      have hbel3 := below_trans_size hbel2 hb1
      clear hnx hwr
      go_wp2
      go_roundw
      case rel => exact ⟨k + d2, f - 1, sum + y, by omega, by omega, by omega, by rw [← H4.out, hon.out]; omega, by go_num, hit3.out, hbel3⟩
      case measure =>
        simp only [World.iterPos, hit3.out, HIT.out]
        omega
    · have hnx : ∀ ty, (Instr.next (.pointer (some ⟨w.heap.size, 0, none⟩)) true ty).run Tryd.prog wr = _ := fun ty => Lib.run_next_end_at wr w.heap.size s k ty hit hlt
      have hE := Lib.hid (wideFrom_end s f k hlt)
      clear hit
      go_wp2
      go_ret
      exact ⟨ret_int (by have := H4.out; rw [hE.out] at this; omega), hbel⟩
end Go.Proofs.YtgjhfjplalcnbaaDoor
