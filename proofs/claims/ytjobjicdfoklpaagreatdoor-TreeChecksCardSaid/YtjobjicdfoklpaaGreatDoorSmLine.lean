/- The contract of Small at a document with one block that has a line only. -/
import Derived.Test.YtjobjicdfoklpaaGreatDoorAwk
import Derived.Test.YtjobjicdfoklpaaGreatDoorSmPlA
import Derived.Test.YtjobjicdfoklpaaGreatDoorWeight
namespace Go.Proofs.YtjobjicdfoklpaaGreatDoor
open Go.RowKit
set_option linter.unusedVariables false
set_option linter.unusedSimpArgs false

/-- What is read lies in memory. -/
theorem any_lt {ok : Nat → Prop} {w : World} {k : Nat} {l : List D} {v : Value} (h : Rd ok w (.sl k l) [v]) : Rd (· < w.heap.size) w (.sl k l) [v] := Rd.keep (fun b _ h2 => ⟨h2, rfl⟩) _ _ h
def lRow (v : Value) : List Value := [.int .i64 0, .int .i64 0, .string ⟨#[]⟩, .string ⟨#[]⟩, .string ⟨#[]⟩, .string ⟨#[]⟩, .string ⟨#[]⟩, .slice none 0 0, .slice none 0 0, v, .slice none 0 0]
def lBlk (l : List Inl) : Blk := .mk 0 0 ⟨#[]⟩ ⟨#[]⟩ ⟨#[]⟩ ⟨#[]⟩ at0 l []
theorem small_line (l : List Inl) (v : Value) (w : World) (h : Rd (· < w.heap.size) w (inlsD l) [v]) (hwl : Inl.wfL l) (hll : l.length ≤ reachBytes) :
    Calls Tryz.prog 10 #[.agg #[.slice none 0 0, .slice (some ⟨w.heap.size, 0, none⟩) 1 1]] (w.alloc (.cells (lRow v).toArray 54))
      fun e w' => ∃ b, e = .returned (.bool b) ∧ (b = true → Inl.smallL l ∧ Inl.szL l ≤ 120) ∧ Below w.heap.size w w' := by
  obtain ⟨w0, hw0⟩ : ∃ w0, w0 = w.alloc (.cells (lRow v).toArray 54) := ⟨_, rfl⟩
  have b0 : Below w.heap.size w w0 := by rw [hw0]; exact (Below.refl _ _).alloc (Nat.le_refl _) _
  have k : CB 54 w.heap.size (lRow v) w0 := by rw [hw0]; exact CB.new _ _ _
  have rd : Rd (· < w0.heap.size) w0 (blksD [lBlk l]) [.slice (some ⟨w.heap.size, 0, none⟩) 1 1] :=
    Rd.sl_of (l := [lBlk l].map Blk.d) (rows := [lRow v]) (by simp) (by unfold maxLen; decide) (RdL.one (Blk.mk_ 0 0 ⟨#[]⟩ ⟨#[]⟩ ⟨#[]⟩ ⟨#[]⟩ ⟨at0_rd _ _, h.up b0, Rd.nil_mk _ _ _⟩)) (by simp [lRow]) k.lt k.lt (fun j u hu => k.cell j u (by simpa using hu))
  have wf : Blk.wfL [lBlk l] := by
    have s0 : sOk (⟨#[]⟩ : ByteArray) := by unfold sOk; decide
    have i0 : iOk 0 := by unfold iOk; decide
    unfold Blk.wfL Blk.wfL lBlk Blk.wf Blk.wfL
    exact ⟨⟨i0, i0, s0, s0, s0, s0, ⟨s0, by simp [at0], by simp [at0], by simp [at0], by simp [at0]⟩, hwl, hll, trivial, by simp⟩, trivial⟩
  rw [← hw0]
  refine (small_any [] [lBlk l] _ _ w0 (Rd.nil_mk _ _ _) rd (by simp) wf).mono ?_
  rintro e w' ⟨b, he, hb, hbl⟩
  refine ⟨b, he, fun ht => ?_, below_trans_size b0 hbl⟩
  have hd := (hb ht).blks
  unfold Blk.smallL lBlk Blk.small at hd
  exact ⟨hd.1.2.2.2.2.2.1, hd.1.2.2.2.2.2.2.1⟩
end Go.Proofs.YtjobjicdfoklpaaGreatDoor
