/- Contracts of publisherref38.Words and wrap.Words: both give the plain words of a string. -/
import Derived.Test.YtgjhfjplalcnbaaDoorNext
import Derived.Test.YtgjhfjplalcnbaaDoorPlWords
import Derived.OwnWalk
import Derived.Test.YtgjhfjplalcnbaaDoorShelf
import Derived.Test.YtgjhfjplalcnbaaDoorMem
namespace Go.Proofs.YtgjhfjplalcnbaaDoor
open Go.RowKit
set_option linter.unusedVariables false

theorem infoS : (Tryd.prog.info? 9).map (fun i => (i.zero, i.size, i.bytes)) = some (some (.string ByteArray.empty), 1, 16) := by kernel_rfl

theorem sp_is (c : Nat) (w : World) :
    Calls Tryd.prog 28 #[.int .i64 c] w fun e w' => e = .returned (.bool (isSp c)) ∧ w = w' := rspace_any c w

/-- What holds at the head of each round. -/
def WRel (s : ByteArray) (R : List ByteArray × Nat) (w : World) (v fr i : Value) (wr : World) : Prop :=
  ∃ (k m f : Nat) (acc : List ByteArray), m ≤ k ∧ k ≤ s.size ∧ s.size ≤ k + f ∧ acc.length ≤ k ∧ rw38 s f k m acc = R ∧ i = .int .i64 k ∧ fr = .int .i64 m ∧
    wr.ownsRow w.heap.size 9 1 v acc.length (acc.map Value.string) ∧ Below w.heap.size w wr

set_option maxRecDepth 100000 in
set_option maxHeartbeats 1000000 in
theorem rwords_any (s : ByteArray) (w : World) (hs : s.size ≤ 1048576) :
    Calls Tryd.prog 15 #[.string s] w fun e w' => ∃ v, e = .returned v ∧ w'.ownsRow w.heap.size 9 1 v (words38 s).length ((words38 s).map Value.string) ∧ Below w.heap.size w w' := by
  obtain ⟨i0, hi, hz0, hz1, hz2⟩ := info_parts infoS
  obtain ⟨R, hR⟩ : ∃ R, R = rw38 s s.size 0 0 [] := ⟨_, rfl⟩
  have HR := Lib.hid hR
  have hW : words38 s = wEnd s R := by rw [hR]; rfl
  clear hR
  rw [hW]
  clear hW
  go_enter Tryd.func15, Tryd.ntmps15
  go_wp2
  go_loopw [3, 4, 5] (fun v fr i wr => WRel s R w v fr i wr) (fun _ _ i _ => s.size - (intOf i).toNat)
  case atStart => exact ⟨0, 0, s.size, [], by omega, by omega, by omega, by simp, HR.out.symm, rfl, rfl, ⟨rfl, .inl ⟨rfl, rfl⟩⟩, Below.refl _ _⟩
  case round =>
    obtain ⟨k, m, f, acc, h1, h2, h3, h4, h5, rfl, rfl, hown, hbel⟩ := hrel
    have H5 := Lib.hid h5
    clear h5
    by_cases hlt : k < s.size
    · have NX := Lib.hid (next_any s k · (by omega) hlt)
      have hd := dec_le s k hlt
      have hw := Lib.width_pos s k
      have Hsp := Lib.hid (rw38_sp s (f - 1) k m acc hlt)
      have Hno := Lib.hid (rw38_no s (f - 1) k m acc hlt)
      have hf : f - 1 + 1 = f := by omega
      rw [hf] at Hsp Hno
      clear hf
      generalize Utf8.decode s k = d at *
      obtain ⟨d1, d2⟩ := d
      simp only at hd hw
      go_wp2_with fail
      refine (NX.out _).mono ?_
      rintro e w1 ⟨rfl, hb1⟩
      have hown1 := own_below hown hb1
      have hbel1 := below_trans_size hbel hb1
      have hsz1 := hbel1.size
      go_wp2_with fail
      refine (sp_is _ _).mono ?_
      rintro e w2 ⟨rfl, rfl⟩
      cases hsp : isSp d1
      · have HR1 := Lib.hid ((Hno.out hsp).symm.trans H5.out)
        clear hsp Hsp Hno H5
        go_wp2
        go_roundw
        case rel => exact ⟨k + d2, m, f - 1, acc, by omega, by omega, by omega, by omega, HR1.out, by go_num, rfl, hown1, hbel1⟩
        case measure => simp [intOf]; omega
      · have HR1 := Lib.hid ((Hsp.out hsp).symm.trans H5.out)
        clear hsp Hsp Hno H5
        by_cases hmk : m < k
        · rw [if_pos hmk] at HR1
          go_wp2_with (at_builtin; go_loud (refine wpList_append_own _ rfl _ _ 23 rfl w.heap.size 9 i0 (.string ByteArray.empty) 1 16 Tryd.underlying23 hi hz0 hz1 hz2 rfl (by decide) _ _ _ rfl (hown1.alloc _) ⟨w1.heap.size, 0, none⟩ 1 1 [.string (s.extract m k)] rfl rfl ?c1 ?c2 ?c3 ?c4 ?c5 ?_))
          case c1 => exact new_one _ _ _
          case c2 => simp [Value.oneCell']
          case c3 => unfold maxLen; omega
          case c4 => omega
          case c5 => simp; omega
          intro v' w3 hown' hgrow _
          have hbel3 := below_app hbel1 hsz1 hown1 hgrow
          go_wp2
          go_roundw
          case rel => exact ⟨k + d2, k + d2, f - 1, acc ++ [s.extract m k], by omega, by omega, by omega, by simp; omega, HR1.out, by go_num, by go_num, by simpa using hown', hbel3⟩
          case measure => simp [intOf]; omega
        · rw [if_neg hmk] at HR1
          go_wp2
          go_roundw
          case rel => exact ⟨k + d2, k + d2, f - 1, acc, by omega, by omega, by omega, by omega, HR1.out, by go_num, by go_num, hown1, hbel1⟩
          case measure => simp [intOf]; omega
    · have hk : k = s.size := by omega
      have HE := Lib.hid ((rw38_end s f k m acc hlt).symm.trans H5.out)
      clear H5
      subst hk
      by_cases hm : m < s.size
      · have hsz1 := hbel.size
        go_wp2_with (at_builtin; refine wpList_append_own _ rfl _ _ 23 rfl w.heap.size 9 i0 (.string ByteArray.empty) 1 16 Tryd.underlying23 hi hz0 hz1 hz2 rfl (by decide) _ _ _ rfl (hown.alloc _) ⟨wr.heap.size, 0, none⟩ 1 1 [.string (s.extract m s.size)] rfl rfl ?c1 ?c2 ?c3 ?c4 ?c5 ?_)
        case c1 => exact new_one _ _ _
        case c2 => simp [Value.oneCell']
        case c3 => unfold maxLen; omega
        case c4 => omega
        case c5 => simp; omega
        intro v' w3 hown' hgrow _
        have hbel3 := below_app hbel hsz1 hown hgrow
        go_wp2
        go_ret
        refine ⟨v', rfl, ?_, hbel3⟩
        rw [← HE.out, wEnd, if_pos hm]
        simpa using hown'
      · go_wp2
        go_ret
        refine ⟨_, rfl, ?_, hbel⟩
        rw [← HE.out, wEnd, if_neg hm]
        exact hown

theorem wsp_is (W : World) (x : Nat) (hx : x ≤ 1114111) : FnGives Tryd.prog 32 #[] #[encR x] (.bool (isSp x)) W := by
  unfold FnGives
  show Calls Tryd.prog 32 #[.int .i32 x] W _
  have hx2 : wrap64 (x : Int) = x := IntWalk.wrap64_in _ ⟨by omega, by omega⟩
  have S := Lib.hid (space_any x W)
  go_enter Tryd.func32, Tryd.ntmps32
  go_wp2_with fail
  refine S.out.mono ?_
  rintro e w' ⟨rfl, rfl⟩
  go_wp2
  go_ret
  exact ⟨rfl, 0, rfl⟩

theorem words_any (s : ByteArray) (w : World) (hs : s.size ≤ 1048576) :
    Calls Tryd.prog 19 #[.string s] w fun e w' => ∃ v, e = .returned v ∧ w'.ownsRow w.heap.size 9 1 v (words38 s).length ((words38 s).map Value.string) ∧ Below w.heap.size w w' := by
  have F := Lib.hid (Tryd.strings_FieldsFunc_runes 32 #[] (fun _ _ => by kernel_rfl) isSp s w (by omega) (fun W x hx _ => wsp_is W x hx))
  rw [fields_words] at F
  go_enter Tryd.func19, Tryd.ntmps19
  go_wp2_with fail
  refine F.out.mono ?_
  rintro e w' ⟨A, rfl, h1, h2, h3⟩
  go_wp2
  go_ret
  exact ⟨_, rfl, h2, h3⟩
end Go.Proofs.YtgjhfjplalcnbaaDoor
