/- Contracts of attr.wordEnd from any index. The contract of attr.readValue. Contracts of slices.Index and Contains at a row of texts of one's own; attr.Has, attr.Get, addClass, addPair at an attribute of one's own. An attribute of one's own in memory; the contracts of attr.addClass and attr.addPair. The contract of attr.readItem. -/
import Derived.Test.YtjobjicdfoklpaaGreatDoorChH
import Derived.Test.YtjobjicdfoklpaaGreatDoorPlParse
import Derived.Test.YtjobjicdfoklpaaGreatDoorBuilderK
import Derived.BigGuard
import Derived.Lib.SmallJoins
import Derived.Test.YtjobjicdfoklpaaGreatDoorInlsW
import Derived.Lib.OwnKind
namespace Go.Proofs.YtjobjicdfoklpaaGreatDoor
open Go.RowKit
set_option linter.unusedVariables false
set_option linter.unusedSimpArgs false

/-- The bytes from an index on. -/
def frm (s : ByteArray) (i : Nat) : List UInt8 := s.data.toList.drop i
theorem frm_len (s : ByteArray) (i : Nat) : (frm s i).length = s.size - i := by unfold frm; simp
theorem frm_cons (s : ByteArray) (i : Nat) (h : i < s.size) : frm s i = s[i] :: frm s (i + 1) := by
  unfold frm
  have h1 : i < s.data.toList.length := by simpa using h
  rw [List.drop_eq_getElem_cons h1]
  congr 1
theorem frm_end (s : ByteArray) (i : Nat) (h : s.size ≤ i) : frm s i = [] := List.drop_eq_nil_of_le (by simpa using h)
theorem frm_head (s : ByteArray) (i : Nat) (h : i < s.size) : (frm s i).head? = some s[i] := by rw [frm_cons s i h]; rfl
/-- Where a word that begins at i ends. -/
def wEndI (s : ByteArray) (i : Nat) : Nat := i + ((frm s i).takeWhile nmB).length
theorem wEndI_le (s : ByteArray) (i : Nat) (h : i ≤ s.size) : wEndI s i ≤ s.size := by
  unfold wEndI
  have h1 := (List.takeWhile_sublist (p := nmB) (l := frm s i)).length_le
  rw [frm_len] at h1
  omega
theorem frm_wEnd (s : ByteArray) (i : Nat) : frm s (wEndI s i) = (frm s i).dropWhile nmB := by
  unfold wEndI frm
  rw [← List.drop_drop]
  generalize s.data.toList.drop i = l
  induction l with
  | nil => rfl
  | cons c l ih =>
    by_cases h : nmB c = true
    · rw [List.takeWhile_cons_of_pos h, List.dropWhile_cons_of_pos h, List.length_cons, List.drop_succ_cons]; exact ih
    · rw [List.takeWhile_cons_of_neg h, List.dropWhile_cons_of_neg h]; rfl
theorem word_text (s : ByteArray) (i : Nat) (h : i ≤ s.size) : s.extract i (wEndI s i) = bsOf ((frm s i).takeWhile nmB) := by
  apply ByteArray.ext
  apply Array.toList_inj.1
  unfold bsOf
  rw [ByteArray.data_extract, Array.toList_extract]
  have h2 : (frm s i).take (wEndI s i - i) = (frm s i).takeWhile nmB := by
    unfold wEndI
    rw [Nat.add_sub_cancel_left]
    generalize frm s i = l
    induction l with
    | nil => rfl
    | cons c l ih =>
      by_cases h : nmB c = true
      · rw [List.takeWhile_cons_of_pos h, List.length_cons, List.take_succ_cons, ih]
      · rw [List.takeWhile_cons_of_neg h]; rfl
  rw [← h2]
  unfold frm
  simp [List.extract_eq_take_drop]

set_option maxRecDepth 100000 in
set_option maxHeartbeats 1000000 in
theorem wordEndI_any (s : ByteArray) (i0 : Nat) (w : World) (hs : s.size ≤ 1000000000) (hi : i0 ≤ s.size) :
    Calls Tryz.prog 119 #[.string s, .int .i64 i0] w fun e w' => e = .returned (.int .i64 (wEndI s i0 : Nat)) ∧ w = w' := by
  obtain ⟨V, hV⟩ : ∃ V, V = wEndI s i0 := ⟨_, rfl⟩
  rw [← hV]
  have HV := Lib.hid hV
  clear hV
  go_enter Tryz.func119, Tryz.ntmps119
  go_wp2
  go_loop [1] (fun vi => ∃ k : Nat, i0 + k ≤ s.size ∧ vi = .int .i64 ((i0 + k : Nat) : Int) ∧ ∀ j x, j < k → (frm s i0)[j]? = some x → nmB x = true) (fun i => s.size - (intOf i).toNat)
  case atStart => exact ⟨0, hi, rfl, fun j x hj => by omega⟩
  case round =>
    obtain ⟨k, hk, rfl, hall⟩ := hrel
    have HA := Lib.hid hall
    obtain ⟨q, hq⟩ : ∃ q, q = i0 + k := ⟨_, rfl⟩
    rw [← hq] at hk ⊢
    have HQ := Lib.hid hq
    have hlk : k ≤ (frm s i0).length := by rw [frm_len]; omega
    clear hall hq
    by_cases hlt : q < s.size
    · have hgl := UInt8.toNat_lt s[q]
      have IN := Lib.hid (fun w => inName_any s[q].toNat w hgl)
      have HG : Hid ((frm s i0)[k]? = some s[q]) := by
        show _ = _
        unfold frm
        rw [List.getElem?_drop]
        have h1 := byte_get s q hlt
        have h2 : i0 + k = q := HQ.out.symm
        rw [h2]; exact h1
      cases hn : nmC s[q].toNat with
      | true =>
        rw [hn] at IN
        have HN := Lib.hid hn
        clear hn
        go_wp2_with fail
        refine (IN.out _).mono ?_
        rintro e w1 ⟨rfl, rfl⟩
        go_wp2
        go_round
        case rel =>
          refine ⟨k + 1, by have := HQ.out; omega, by have := HQ.out; congr 1; omega, fun j x hj hx => ?_⟩
          rcases Nat.lt_or_ge j k with h | h
          · exact HA.out j x h hx
          · have : j = k := by omega
            subst this
            rw [HG.out] at hx
            obtain rfl := Option.some.inj hx
            exact HN.out
        case measure => simp [intOf]; omega
      | false =>
        rw [hn] at IN
        have hw : V = q := by
          rw [HV.out]
          unfold wEndI
          rw [tw_len nmB _ k hlk HA.out (fun x hx => by rw [HG.out] at hx; obtain rfl := Option.some.inj hx; exact hn)]
          exact HQ.out.symm
        have HW := Lib.hid hw
        clear hn hw
        go_wp2_with fail
        refine (IN.out _).mono ?_
        rintro e w1 ⟨rfl, rfl⟩
        go_wp2
        go_ret
        exact ⟨by rw [HW.out]; rfl, rfl⟩
    · have hw : V = q := by
        rw [HV.out]
        unfold wEndI
        rw [tw_len nmB _ k hlk HA.out (fun x hx => ?_)]
        · exact HQ.out.symm
        · have := (List.getElem?_eq_some_iff.1 hx).1
          rw [frm_len] at this
          have := HQ.out
          omega
      have HW := Lib.hid hw
      clear hw
      go_wp2
      go_ret
      exact ⟨by rw [HW.out]; rfl, rfl⟩
end Go.Proofs.YtjobjicdfoklpaaGreatDoor

namespace Go.Proofs.YtjobjicdfoklpaaGreatDoor
open Go.RowKit
set_option linter.unusedVariables false
set_option linter.unusedSimpArgs false

/-- What a value at an index is read as. -/
def RvPost (s : ByteArray) (i : Nat) (w : World) (e : Ending) (w' : World) : Prop :=
  (∃ (v : ByteArray) (n : Int) (b : Bool), e = .returned (.tuple #[.string v, .int .i64 n, .bool b]) ∧ ((b = true ∧ ∃ q : Nat, q ≤ s.size ∧ n = q ∧ valueL (frm s i) = some (v, frm s q)) ∨ (b = false ∧ valueL (frm s i) = none))) ∧ Below w.heap.size w w'
def RvRel (s : ByteArray) (R : Option (List UInt8 × List UInt8)) (w : World) (vi : Value) (wr : World) : Prop :=
  ∃ (i : Nat) (acc : List UInt8), i ≤ s.size ∧ vi = .int .i64 i ∧ quoteL (frm s i) acc = R ∧ acc.length ≤ i ∧ Lib.IsBuilderF 127 5 w.heap.size w.heap.size (Lib.byteCells acc) wr ∧ Below w.heap.size w wr
theorem cells_snoc (l : List UInt8) (c : UInt8) : Lib.byteCells (l ++ [c]) = Lib.byteCells l ++ [.int .u8 (c.toNat : Int)] := by simp [Lib.byteCells]
theorem u8_eq (c : UInt8) (n : Nat) (hn : n < 256) : ((c.toNat : Int) == (n : Int)) = decide (c = UInt8.ofNat n) := by
  rw [Bool.eq_iff_iff]
  simp only [beq_iff_eq, decide_eq_true_eq, ← UInt8.toNat_inj]
  have : (UInt8.ofNat n).toNat = n := by simp [Nat.mod_eq_of_lt hn]
  rw [this]; omega

set_option maxRecDepth 100000 in
set_option maxHeartbeats 3000000 in
theorem readValue_any (s : ByteArray) (i0 : Nat) (w : World) (hs : s.size ≤ 1000000) (hi : i0 ≤ s.size) :
    Calls Tryz.prog 280 #[.string s, .int .i64 i0] w (RvPost s i0 w) := by
  by_cases hq : i0 < s.size ∧ bt s i0 = 34
  case neg =>
    have WE := Lib.hid (fun w => wordEndI_any s i0 w (by omega) hi)
    have hwl := wEndI_le s i0 hi
    have hwg : i0 ≤ wEndI s i0 := Nat.le_add_right _ _
    have hhd : (frm s i0).head? ≠ some 34 := by
      intro h
      rcases Nat.lt_or_ge i0 s.size with h1 | h1
      · rw [frm_head s i0 h1] at h
        have h2 : s[i0] = 34 := Option.some.inj h
        exact hq ⟨h1, by rw [← bt_eq s i0 h1, h2]; rfl⟩
      · rw [frm_end s i0 h1] at h; cases h
    have HVL : Hid (valueL (frm s i0) = if nameOk (s.extract i0 (wEndI s i0)) = true then some (s.extract i0 (wEndI s i0), frm s (wEndI s i0)) else none) := by
      show _ = _
      unfold valueL
      rw [if_neg hhd, word_text s i0 hi, frm_wEnd]
    have hvs : (s.extract i0 (wEndI s i0)).size ≤ 1000000000 := by rw [ByteArray.size_extract]; omega
    have NM := Lib.hid (fun w => name_any (s.extract i0 (wEndI s i0)) w hvs)
    generalize wEndI s i0 = T at *
    obtain ⟨X, hX⟩ : ∃ X, X = s.extract i0 T := ⟨_, rfl⟩
    rw [← hX] at HVL NM
    have HX := Lib.hid hX
    have hmn : min (i0 : Int) (s.size : Int) = (i0 : Int) := by omega
    have hc : (s.size ≤ i0) ∨ (i0 < s.size ∧ bt s i0 ≠ 34) := by omega
    clear hhd hX hvs hq
    generalize nameOk X = NX at *
    have NM2 : Hid (∀ w, Calls Tryz.prog 68 #[.string (s.extract i0 T)] w fun e w' => e = .returned (.bool NX) ∧ w = w') := by
      show _
      rw [← HX.out]; exact NM.out
    have HFIN : Hid (RvPost s i0 w (.returned (.tuple #[.string (s.extract i0 T), .int .i64 (T : Int), .bool NX])) w) := by
      refine ⟨⟨_, _, _, rfl, ?_⟩, Below.refl _ _⟩
      rw [← HX.out]
      cases NX with
      | true => exact .inl ⟨rfl, T, hwl, rfl, by rw [HVL.out, if_pos rfl]⟩
      | false => exact .inr ⟨rfl, by rw [HVL.out, if_neg (by decide)]⟩
    rcases hc with hc | ⟨hc, hb⟩
    · have q1 : decide ((s.size : Int) ≤ (i0 : Int)) = true := by simp; omega
      go_enter Tryz.func280, Tryz.ntmps280
      go_wp2_with fail
      refine (WE.out _).mono ?_
      rintro e w1 ⟨rfl, rfl⟩
      go_wp2_with fail
      refine (NM2.out _).mono ?_
      rintro e w2 ⟨rfl, rfl⟩
      go_wp2
      go_ret3
      exact HFIN.out
    · have q1 : decide ((s.size : Int) ≤ (i0 : Int)) = false := by simp; omega
      have q2 : ((s[i0].toNat : Int) != 34) = true := by rw [bt_eq s i0 hc, bne_iff_ne]; omega
      go_enter Tryz.func280, Tryz.ntmps280
      go_wp2_with fail
      refine (WE.out _).mono ?_
      rintro e w1 ⟨rfl, rfl⟩
      go_wp2_with fail
      refine (NM2.out _).mono ?_
      rintro e w2 ⟨rfl, rfl⟩
      go_wp2
      go_ret3
      exact HFIN.out
  case pos =>
    obtain ⟨hlt0, hb0⟩ := hq
    have hcons := frm_cons s i0 hlt0
    have h34 : s[i0] = 34 := by rw [← UInt8.toNat_inj, bt_eq s i0 hlt0]; exact hb0
    have HVL : Hid (valueL (frm s i0) = match quoteL (frm s (i0 + 1)) [] with
      | none => none
      | some (v, r) => if lineS (bsOf v) = true then some (bsOf v, r) else none) := by
      show _ = _
      unfold valueL
      rw [hcons, h34]
      rfl
    obtain ⟨R, hR⟩ : ∃ R, R = quoteL (frm s (i0 + 1)) [] := ⟨_, rfl⟩
    rw [← hR] at HVL
    have q1 : decide ((s.size : Int) ≤ (i0 : Int)) = false := by simp; omega
    have q2 : ((s[i0].toNat : Int) != 34) = false := by rw [bt_eq s i0 hlt0, hb0]; rfl
    obtain ⟨wb, hwb⟩ : ∃ wb, wb = w.alloc (.cells #[.pointer none, .slice none 0 0] 127) := ⟨_, rfl⟩
    have R0 : Hid (RvRel s R w (.int .i64 ((i0 + 1 : Nat) : Int)) wb) := by
      refine ⟨i0 + 1, [], by omega, rfl, hR.symm, Nat.zero_le _, ?_, ?_⟩
      · rw [hwb]; exact Lib.IsBuilderF.of (Lib.fresh_isBuilder 127 5 w)
      · rw [hwb]; exact (Below.refl _ _).alloc (Nat.le_refl _) _
    clear hcons h34 hR hb0
    go_enter Tryz.func280, Tryz.ntmps280
    (try simp only [List.append_eq, List.cons_append, List.nil_append])
    go_upto_region 6 with (fail)
    rw [← hwb]
    clear hwb
    go_wp2
    have q0 : decide (s.size ≤ i0) = false := by simp; omega
    simp only [q0]
    clear q0
    go_loopw [8] (fun vi wr => RvRel s R w vi wr) (fun i _ => s.size - (intOf i).toNat)
    case atStart => exact R0.out
    case round =>
      clear R0 q1 q2
      obtain ⟨i, acc, hi, rfl, hqv, hal, hB, hbel⟩ := hrel
      have HB := Lib.hid hB
      have HBL := Lib.hid hbel
      have HQV := Lib.hid hqv
      clear hB hbel hqv
      by_cases hlt : i < s.size
      · have hcn := frm_cons s i hlt
        have eb := bt_eq s i hlt
        by_cases h34 : s[i] = 34
        · have q3 : ((s[i].toNat : Int) == 34) = true := by rw [h34]; rfl
          have HRV : Hid (R = some (acc, frm s (i + 1))) := by
            show R = _
            rw [← HQV.out, hcn, quoteL.eq_def]
            simp only
            rw [if_pos h34]
          have ST := Lib.hid (Tryz.Builder_String_any_k w.heap.size w.heap.size acc wr HB.out HBL.out.size)
          have hbs : (bsOf acc).size ≤ 1000000000 := by show acc.toArray.size ≤ _; simp; omega
          have CV := Lib.hid (fun w => aLine_any (bsOf acc) w hbs)
          have HFIN : Hid (∀ w', Below w.heap.size w w' → RvPost s i0 w (.returned (.tuple #[.string (bsOf acc), .int .i64 ((i : Int) + 1), .bool (lineS (bsOf acc))])) w') := by
            intro w' hw'
            refine ⟨⟨_, _, _, rfl, ?_⟩, hw'⟩
            rw [HVL.out, HRV.out]
            cases hl : lineS (bsOf acc) with
            | true => exact .inl ⟨rfl, i + 1, by omega, by simp, by simp [hl]⟩
            | false => exact .inr ⟨rfl, by simp [hl]⟩
          clear hcn h34 eb
          generalize lineS (bsOf acc) = LL at *
          go_wp2_with fail
          refine ST.out.mono ?_
          rintro e w1 ⟨rfl, hB1, b1, -⟩
          have HB1 := Lib.hid hB1
          have BB1 := Lib.hid (HBL.out.trans b1)
          have ST2 := Lib.hid (Tryz.Builder_String_any_k w.heap.size w.heap.size acc w1 hB1 BB1.out.size)
          clear hB1 b1 ST
          go_wp2_with fail
          refine ST2.out.mono ?_
          rintro e w2 ⟨rfl, -, b2, -⟩
          have BB2 := Lib.hid (BB1.out.trans b2)
          clear b2 ST2
          go_wp2_with fail
          refine (CV.out _).mono ?_
          rintro e w3 ⟨rfl, q, rfl⟩
          go_wp2
          go_ret3
          exact HFIN.out _ (below_dN BB2.out q)
        · have q3 : ((s[i].toNat : Int) == 34) = false := by
            rw [beq_eq_false_iff_ne]
            intro e
            exact h34 (by rw [← UInt8.toNat_inj]; show _ = 34; omega)
          by_cases h92 : s[i] = 92
          · have q4 : ((s[i].toNat : Int) == 92) = true := by rw [h92]; rfl
            by_cases hlt2 : i + 1 < s.size
            · have hcn2 := frm_cons s (i + 1) hlt2
              have hgl := UInt8.toNat_lt s[i + 1]
              by_cases hd : s[i + 1] = 34 ∨ s[i + 1] = 92
              · have HQ2 : Hid (quoteL (frm s (i + 1 + 1)) (acc ++ [s[i + 1]]) = R) := by
                  show _ = R
                  rw [← HQV.out, hcn, hcn2]
                  conv => rhs; rw [quoteL.eq_def]
                  simp only
                  rw [if_neg h34, if_pos h92, if_pos hd]
                have q5 : decide ((s.size : Int) ≤ (i : Int) + 1) = false := by simp; omega
                have WB := Lib.hid (writeByte_k w.heap.size w.heap.size (Lib.byteCells acc) (s[i + 1].toNat : Int) wr HB.out (by rw [Lib.byteCells_length]; omega) HBL.out.size)
                have hde : ((s[i + 1].toNat : Int) != 34) = false ∨ (((s[i + 1].toNat : Int) != 34) = true ∧ ((s[i + 1].toNat : Int) != 92) = false) := by
                  by_cases he : s[i + 1] = 34
                  · left; rw [he]; rfl
                  · right
                    refine ⟨?_, by rw [hd.resolve_left he]; rfl⟩
                    rw [bne_iff_ne]; intro e; exact he (by rw [← UInt8.toNat_inj]; show _ = 34; omega)
                have HCS := Lib.hid (cells_snoc acc s[i + 1])
                clear hcn hcn2 hd h34 h92 eb
                rcases hde with q6 | ⟨q6, q7⟩
                all_goals
                  go_wp2_with fail
                  refine WB.out.mono ?_
                  rintro e w1 ⟨rfl, hw1⟩
                  have HW1 := Lib.hid hw1
                  clear hw1
                  go_wp2
                  go_roundw
                  case rel => exact ⟨i + 1 + 1, acc ++ [s[i + 1]], by omega, by go_num, HQ2.out, by simp; omega, by rw [HCS.out]; exact HW1.out.1, HBL.out.trans HW1.out.2.1⟩
                  case measure => simp [intOf]; omega
              · have HRN : Hid (R = none) := by
                  show R = none
                  rw [← HQV.out, hcn, hcn2, quoteL.eq_def]
                  simp only
                  rw [if_neg h34, if_pos h92, if_neg hd]
                have q5 : decide ((s.size : Int) ≤ (i : Int) + 1) = false := by simp; omega
                have q6 : ((s[i + 1].toNat : Int) != 34) = true := by rw [bne_iff_ne]; intro e; exact hd (.inl (by rw [← UInt8.toNat_inj]; show _ = 34; omega))
                have q7 : ((s[i + 1].toNat : Int) != 92) = true := by rw [bne_iff_ne]; intro e; exact hd (.inr (by rw [← UInt8.toNat_inj]; show _ = 92; omega))
                clear hcn hcn2 hd h34 h92 eb
                go_wp2
                go_ret3
                exact ⟨⟨_, _, _, rfl, .inr ⟨rfl, by rw [HVL.out, HRN.out]⟩⟩, HBL.out⟩
            · have HRN : Hid (R = none) := by
                show R = none
                rw [← HQV.out, hcn, frm_end s (i + 1) (by omega), quoteL.eq_def]
                simp only
                rw [if_neg h34, if_pos h92]
              have q5 : decide ((s.size : Int) ≤ (i : Int) + 1) = true := by simp; omega
              clear hcn h34 h92 eb
              go_wp2
              go_ret3
              exact ⟨⟨_, _, _, rfl, .inr ⟨rfl, by rw [HVL.out, HRN.out]⟩⟩, HBL.out⟩
          · have q4 : ((s[i].toNat : Int) == 92) = false := by
              rw [beq_eq_false_iff_ne]
              intro e
              exact h92 (by rw [← UInt8.toNat_inj]; show _ = 92; omega)
            have HQ2 : Hid (quoteL (frm s (i + 1)) (acc ++ [s[i]]) = R) := by
              show _ = R
              rw [← HQV.out, hcn]
              conv => rhs; rw [quoteL.eq_def]
              simp only
              rw [if_neg h34, if_neg h92]
            have hgl := UInt8.toNat_lt s[i]
            have WB := Lib.hid (writeByte_k w.heap.size w.heap.size (Lib.byteCells acc) (s[i].toNat : Int) wr HB.out (by rw [Lib.byteCells_length]; omega) HBL.out.size)
            have HCS := Lib.hid (cells_snoc acc s[i])
            clear hcn h34 h92 eb
            go_wp2_with fail
            refine WB.out.mono ?_
            rintro e w1 ⟨rfl, hw1⟩
            have HW1 := Lib.hid hw1
            clear hw1
            go_wp2
            go_roundw
            case rel => exact ⟨i + 1, acc ++ [s[i]], by omega, by go_num, HQ2.out, by simp; omega, by rw [HCS.out]; exact HW1.out.1, HBL.out.trans HW1.out.2.1⟩
            case measure => simp [intOf]; omega
      · have HRN : Hid (R = none) := by
          show R = none
          rw [← HQV.out, frm_end s i (by omega), quoteL.eq_def]
        go_wp2
        go_ret3
        exact ⟨⟨_, _, _, rfl, .inr ⟨rfl, by rw [HVL.out, HRN.out]⟩⟩, HBL.out⟩
end Go.Proofs.YtjobjicdfoklpaaGreatDoor

namespace Go.Proofs.YtjobjicdfoklpaaGreatDoor
open Go.RowKit
set_option linter.unusedVariables false
set_option linter.unusedSimpArgs false

theorem hasB_drop (l : List ByteArray) (k : Nat) (y x : ByteArray) (h : l[k]? = some y) : hasB (l.drop k) x = (decide (y = x) || hasB (l.drop (k + 1)) x) := by
  rw [drop_cons l k y h]; rfl

set_option maxRecDepth 100000 in
set_option maxHeartbeats 1000000 in
theorem index_own (l : List ByteArray) (x : ByteArray) (B : Nat) (v : Value) (w : World) (h : w.ownsRow B 9 1 v l.length (l.map Value.string)) (hl : l.length ≤ 100000) :
    Calls Tryz.prog 293 #[v, .string x] w fun e w' => ∃ n : Int, e = .returned (.int .i64 n) ∧ decide (0 ≤ n) = hasB l x ∧ w' = w := by
  obtain ⟨av, cv, rfl⟩ := own_slice h
  obtain ⟨V, hV⟩ : ∃ V, V = hasB l x := ⟨_, rfl⟩
  rw [← hV]
  have H := Lib.hid h
  have HV := Lib.hid hV
  clear hV h
  go_enter Tryz.func293, Tryz.ntmps293
  go_wp2
  go_loop [8] (fun vi => ∃ k : Nat, k ≤ l.length ∧ vi = .int .i64 k ∧ V = hasB (l.drop k) x) (fun i => l.length - (intOf i).toNat)
  case atStart => exact ⟨0, Nat.zero_le _, rfl, HV.out⟩
  case round =>
    obtain ⟨k, hk, rfl, hv⟩ := hrel
    by_cases hlt : k < l.length
    · obtain ⟨y, hy⟩ : ∃ y, l[k]? = some y := ⟨_, List.getElem?_eq_getElem hlt⟩
      obtain ⟨g, cap, hve, hcap⟩ := own_form H.out (by omega)
      obtain ⟨rfl, rfl⟩ : av = some ⟨g, 0, none⟩ ∧ cv = cap := by simpa using hve
      have c0 : w.cell? ⟨g, k, none⟩ = some (.string y) := by
        rw [H.out.cellAt k (by omega), List.getElem?_map, hy]; rfl
      rw [hasB_drop l k y x hy] at hv
      have HVK := Lib.hid hv
      clear hv hy hve HV
      by_cases he : y = x
      · subst he
        have q1 : (y.toList == y.toList) = true := beq_self_eq_true _
        go_wp2
        go_ret
        exact ⟨_, rfl, by rw [HVK.out]; simp, rfl⟩
      · have q1 : (x.toList == y.toList) = false := str_ne (fun e => he e.symm)
        have HVK2 : Hid (V = hasB (l.drop (k + 1)) x) := by show V = _; rw [HVK.out]; simp [he]
        clear HVK he
        go_wp2
        go_round
        case rel => exact ⟨k + 1, by omega, by go_num, HVK2.out⟩
        case measure => simp [intOf]; omega
    · have HVK : Hid (V = false) := by show V = false; rw [hv, List.drop_eq_nil_of_le (by omega)]; rfl
      clear hv HV
      go_wp2
      go_ret
      exact ⟨_, rfl, by rw [HVK.out]; rfl, rfl⟩

set_option maxRecDepth 100000 in
set_option maxHeartbeats 1000000 in
theorem contains_own (l : List ByteArray) (x : ByteArray) (B : Nat) (v : Value) (w : World) (h : w.ownsRow B 9 1 v l.length (l.map Value.string)) (hl : l.length ≤ 100000) :
    Calls Tryz.prog 292 #[v, .string x] w fun e w' => e = .returned (.bool (hasB l x)) ∧ w' = w := by
  obtain ⟨av, cv, rfl⟩ := own_slice h
  have IX := Lib.hid (index_own l x B _ w h hl)
  obtain ⟨V, hV⟩ : ∃ V, V = hasB l x := ⟨_, rfl⟩
  rw [← hV] at IX ⊢
  clear hV h
  go_enter Tryz.func292, Tryz.ntmps292
  go_wp2_with fail
  refine IX.out.mono ?_
  rintro e w1 ⟨n, rfl, hn, rfl⟩
  have HN := Lib.hid hn
  clear hn
  go_wp2
  go_ret
  exact ⟨by rw [← HN.out]; rfl, rfl⟩

set_option maxRecDepth 100000 in
set_option maxHeartbeats 1000000 in
theorem has_own (l : List ByteArray) (x id : ByteArray) (B : Nat) (v vp : Value) (w : World) (h : w.ownsRow B 9 1 v l.length (l.map Value.string)) (hl : l.length ≤ 100000) :
    Calls Tryz.prog 291 #[.agg #[.string id, v, vp], .string x] w (RetB (.bool (hasB l x)) w) := by
  obtain ⟨av, cv, rfl⟩ := own_slice h
  have CT := Lib.hid (contains_own l x B _ (w.alloc (.cells #[.string id, .slice av l.length cv, vp] 44)) (h.alloc _) hl)
  obtain ⟨V, hV⟩ : ∃ V, V = hasB l x := ⟨_, rfl⟩
  rw [← hV] at CT ⊢
  clear hV h
  go_enter Tryz.func291, Tryz.ntmps291
  go_wp2_with fail
  refine CT.out.mono ?_
  rintro e w1 ⟨rfl, rfl⟩
  go_wp2
  go_ret
  exact ⟨rfl, (Below.refl _ _).alloc (Nat.le_refl _) _⟩

def pcs (p : Pr) : List Value := [.string p.key, .string p.val]
def prCells (l : List Pr) : List Value := (l.map pcs).flatten
theorem prCells_get (l : List Pr) (k : Nat) (p : Pr) (h : l[k]? = some p) : (prCells l)[k * 2]? = some (.string p.key) ∧ (prCells l)[k * 2 + 1]? = some (.string p.val) := by
  have h2 : ∀ r ∈ l.map pcs, r.length = 2 := by intro r hr; obtain ⟨q, _, rfl⟩ := List.mem_map.1 hr; rfl
  have hr : (l.map pcs)[k]? = some (pcs p) := by rw [List.getElem?_map, h]; rfl
  exact ⟨flat_get 2 _ h2 k 0 _ _ hr rfl, flat_get 2 _ h2 k 1 _ _ hr rfl⟩

def GtPost (V : Bool) (w : World) (e : Ending) (w' : World) : Prop := ∃ u : ByteArray, e = .returned (.tuple #[.string u, .bool V]) ∧ Below w.heap.size w w'

set_option maxRecDepth 100000 in
set_option maxHeartbeats 1000000 in
theorem get_own (l : List Pr) (x id : ByteArray) (B : Nat) (v vc : Value) (w : World) (h : w.ownsRow B 61 2 v l.length (prCells l)) (hl : l.length ≤ 100000) :
    Calls Tryz.prog 46 #[.agg #[.string id, vc, v], .string x] w (GtPost (hasB (l.map Pr.key) x) w) := by
  obtain ⟨av, cv, rfl⟩ := own_slice h
  obtain ⟨V, hV⟩ : ∃ V, V = hasB (l.map Pr.key) x := ⟨_, rfl⟩
  rw [← hV]
  have H := Lib.hid h
  have HV := Lib.hid hV
  clear hV h
  obtain ⟨w1, hw1⟩ : ∃ w1, w1 = w.alloc (.cells #[.string id, vc, .slice av l.length cv] 44) := ⟨_, rfl⟩
  have B1 : Hid (Below w.heap.size w w1) := by show Below _ _ _; rw [hw1]; exact (Below.refl _ _).alloc (Nat.le_refl _) _
  go_enter Tryz.func46, Tryz.ntmps46
  go_wp2
  rw [← hw1]
  clear hw1
  go_loopw [11] (fun vi wr => ∃ k : Nat, k ≤ l.length ∧ vi = .int .i64 k ∧ V = hasB ((l.map Pr.key).drop k) x ∧ Below w.heap.size w wr) (fun i _ => l.length - (intOf i).toNat)
  case atStart => exact ⟨0, Nat.zero_le _, rfl, HV.out, B1.out⟩
  case round =>
    obtain ⟨k, hk, rfl, hv, hbel⟩ := hrel
    by_cases hlt : k < l.length
    · obtain ⟨p, hp⟩ : ∃ p, l[k]? = some p := ⟨_, List.getElem?_eq_getElem hlt⟩
      obtain ⟨g, cap, hve, hcap⟩ := own_form H.out (by omega)
      obtain ⟨rfl, rfl⟩ : av = some ⟨g, 0, none⟩ ∧ cv = cap := by simpa using hve
      have hH := own_below H.out hbel
      have c0 : wr.cell? ⟨g, k * 2, none⟩ = some (.string p.key) := by rw [hH.cellAt (k * 2) (by omega)]; exact (prCells_get l k p hp).1
      have c1 : wr.cell? ⟨g, k * 2 + 1, none⟩ = some (.string p.val) := by rw [hH.cellAt (k * 2 + 1) (by omega)]; exact (prCells_get l k p hp).2
      rw [hasB_drop (l.map Pr.key) k p.key x (by rw [List.getElem?_map, hp]; rfl)] at hv
      have HVK := Lib.hid hv
      have HB := Lib.hid hbel
      clear hv hp hve HV hbel hH
      by_cases he : p.key = x
      · subst he
        have q1 : (p.key.toList == p.key.toList) = true := beq_self_eq_true _
        go_wp2
        go_ret2
        exact ⟨p.val, by rw [HVK.out]; simp, below_trans_size HB.out ((Below.refl _ _).alloc (Nat.le_refl _) _)⟩
      · have q1 : (p.key.toList == x.toList) = false := str_ne he
        have HVK2 : Hid (V = hasB ((l.map Pr.key).drop (k + 1)) x) := by show V = _; rw [HVK.out]; simp [he]
        clear HVK he
        go_wp2
        go_roundw
        case rel => exact ⟨k + 1, by omega, by go_num, HVK2.out, below_trans_size HB.out ((Below.refl _ _).alloc (Nat.le_refl _) _)⟩
        case measure => simp [intOf]; omega
    · have HVK : Hid (V = false) := by show V = false; rw [hv, List.drop_eq_nil_of_le (by simp; omega)]; rfl
      have HB := Lib.hid hbel
      clear hv HV hbel
      go_wp2
      go_ret2
      exact ⟨⟨#[]⟩, by rw [HVK.out]; rfl, HB.out⟩
end Go.Proofs.YtjobjicdfoklpaaGreatDoor

namespace Go.Proofs.YtjobjicdfoklpaaGreatDoor
open Go.RowKit
set_option linter.unusedVariables false
set_option linter.unusedSimpArgs false

/-- Below B only block b has changed. -/
structure Kx (B b : Nat) (w w' : World) : Prop where
  os : w'.os = w.os
  tape : w'.tape = w.tape
  output : w'.output = w.output
  size : w.heap.size ≤ w'.heap.size
  block : ∀ k, k < B → k ≠ b → w'.heap[k]? = w.heap[k]?
section
variable {B b : Nat} {w w' w1 w2 : World}
theorem Kx.refl (B b : Nat) (w : World) : Kx B b w w := ⟨rfl, rfl, rfl, Nat.le_refl _, fun _ _ _ => rfl⟩
theorem Kx.trans (h : Kx B b w w1) (k : Kx B b w1 w2) : Kx B b w w2 :=
  ⟨k.os.trans h.os, k.tape.trans h.tape, k.output.trans h.output, Nat.le_trans h.size k.size, fun i h1 h2 => (k.block i h1 h2).trans (h.block i h1 h2)⟩
theorem Kx.of (h : Below w.heap.size w w1) (hB : B ≤ w.heap.size) : Kx B b w w1 := ⟨h.os, h.tape, h.output, h.size, fun i h1 _ => h.block i (by omega)⟩
theorem Kx.grown {row : Option Nat} (h : w.grownBy w1 row) (hB : B ≤ w.heap.size) (hr : ∀ g, row = some g → B ≤ g) : Kx B b w w1 :=
  ⟨h.os, h.tape, h.output, h.size, fun i h1 _ => h.block i (by omega) (fun e => by have := hr i e.symm; omega)⟩
theorem Kx.set (w : World) (j : Nat) (u : Value) : Kx B b w (w.setCell ⟨b, j, none⟩ u) :=
  ⟨rfl, rfl, rfl, by simp [World.setCell], fun i _ h2 => Below.heap_setCell w ⟨b, j, none⟩ u i h2⟩
end

/-- The attribute a lies in block b; its rows are of one's own, at B or above. -/
structure AtO (B b : Nat) (a : At) (vc vp : Value) (w : World) : Prop where
  ab : AB b [.string a.id, vc, vp] w
  cls : w.ownsRow B 9 1 vc a.cls.length (a.cls.map Value.string)
  prs : w.ownsRow B 61 2 vp a.prs.length (prCells a.prs)
  lt : b < B
  le : B ≤ w.heap.size
section
variable {B b : Nat} {a : At} {vc vp v1 : Value} {w w1 w2 : World}
theorem AtO.below (h : AtO B b a vc vp w) (hb : Below w.heap.size w w1) : AtO B b a vc vp w1 :=
  ⟨(hb.block b h.ab.lt).trans h.ab, own_below h.cls hb, own_below h.prs hb, h.lt, Nat.le_trans h.le hb.size⟩
theorem AtO.apart (h : AtO B b a vc vp w) : vc.ownBlock = none ∨ vc.ownBlock ≠ vp.ownBlock := by
  cases hc : vc.ownBlock with
  | none => exact .inl rfl
  | some g =>
    right
    intro e
    obtain ⟨c1, f1, e1⟩ := Lib.ownsRow_kind h.cls g hc
    obtain ⟨c2, f2, e2⟩ := Lib.ownsRow_kind h.prs g e.symm
    rw [e1] at e2
    simp at e2
theorem AtO.apart' (h : AtO B b a vc vp w) : vp.ownBlock = none ∨ vp.ownBlock ≠ vc.ownBlock := by
  rcases h.apart with h1 | h1
  · cases hc : vp.ownBlock with
    | none => exact .inl rfl
    | some g => right; rw [h1]; simp
  · exact .inr fun e => h1 e.symm
theorem AtO.at3 (h : AtO B b a vc vp w) : w.cell? ⟨b, 0, none⟩ = some (.string a.id) ∧ w.cell? ⟨b, 1, none⟩ = some vc ∧ w.cell? ⟨b, 2, none⟩ = some vp :=
  ⟨h.ab.cell 0 _ rfl, h.ab.cell 1 _ rfl, h.ab.cell 2 _ rfl⟩
theorem AtO.pushC {x : ByteArray} {o : Obj} (h : AtO B b a vc vp w) (hg : (w.alloc o).grownBy w1 vc.ownBlock) (hown : w1.ownsRow B 9 1 v1 (a.cls.length + 1) (a.cls.map Value.string ++ [.string x])) :
    w1.frozen? ⟨b, 1, none⟩ = false ∧ w1.cell? ⟨b, 1, none⟩ = some vc ∧ AtO B b ⟨a.id, a.cls ++ [x], a.prs⟩ v1 vp (w1.setCell ⟨b, 1, none⟩ v1) ∧ Kx B b w (w1.setCell ⟨b, 1, none⟩ v1) := by
  have hal : Below w.heap.size w (w.alloc o) := (Below.refl _ _).alloc (Nat.le_refl _) _
  have h0 := h.below hal
  have hr : ∀ g, vc.ownBlock = some g → B ≤ g := fun g hgv => (h.cls.lt g hgv).1
  have hab1 : AB b [.string a.id, vc, vp] w1 := (hg.block b h0.ab.lt (fun e => by have := hr b e.symm; have := h.lt; omega)).trans h0.ab
  refine ⟨hab1.free 1, hab1.cell 1 _ rfl, ⟨hab1.set 1 v1, ?_, ?_, h.lt, ?_⟩, ?_⟩
  · exact ownsRow_setCell_below (by simpa using hown) h.lt v1
  · exact ownsRow_setCell_below (h0.prs.kept hg h.apart') h.lt v1
  · exact Nat.le_trans h0.le (by simpa [World.setCell] using hg.size)
  · exact ((Kx.of hal h.le).trans (Kx.grown hg h0.le hr)).trans (Kx.set w1 1 v1)
theorem AtO.pushP {x : Pr} {o : Obj} (h : AtO B b a vc vp w) (hg : (w.alloc o).grownBy w1 vp.ownBlock) (hown : w1.ownsRow B 61 2 v1 (a.prs.length + 1) (prCells a.prs ++ pcs x)) :
    w1.frozen? ⟨b, 2, none⟩ = false ∧ w1.cell? ⟨b, 2, none⟩ = some vp ∧ AtO B b ⟨a.id, a.cls, a.prs ++ [x]⟩ vc v1 (w1.setCell ⟨b, 2, none⟩ v1) ∧ Kx B b w (w1.setCell ⟨b, 2, none⟩ v1) := by
  have hal : Below w.heap.size w (w.alloc o) := (Below.refl _ _).alloc (Nat.le_refl _) _
  have h0 := h.below hal
  have hr : ∀ g, vp.ownBlock = some g → B ≤ g := fun g hgv => (h.prs.lt g hgv).1
  have hab1 : AB b [.string a.id, vc, vp] w1 := (hg.block b h0.ab.lt (fun e => by have := hr b e.symm; have := h.lt; omega)).trans h0.ab
  refine ⟨hab1.free 2, hab1.cell 2 _ rfl, ⟨hab1.set 2 v1, ?_, ?_, h.lt, ?_⟩, ?_⟩
  · exact ownsRow_setCell_below (h0.cls.kept hg h.apart) h.lt v1
  · refine ownsRow_setCell_below ?_ h.lt v1
    have e : prCells (a.prs ++ [x]) = prCells a.prs ++ pcs x := by simp [prCells]
    rw [e]
    simpa using hown
  · exact Nat.le_trans h0.le (by simpa [World.setCell] using hg.size)
  · exact ((Kx.of hal h.le).trans (Kx.grown hg h0.le hr)).trans (Kx.set w1 2 v1)
theorem AtO.setId (h : AtO B b a vc vp w) (x : ByteArray) : w.frozen? ⟨b, 0, none⟩ = false ∧ AtO B b ⟨x, a.cls, a.prs⟩ vc vp (w.setCell ⟨b, 0, none⟩ (.string x)) ∧ Kx B b w (w.setCell ⟨b, 0, none⟩ (.string x)) :=
  ⟨h.ab.free 0, ⟨h.ab.set 0 _, ownsRow_setCell_below h.cls h.lt _, ownsRow_setCell_below h.prs h.lt _, h.lt, by simpa [World.setCell] using h.le⟩, Kx.set w 0 _⟩
end

def AcPost (B b : Nat) (a a' : At) (bad : Prop) (w : World) (e : Ending) (w' : World) : Prop :=
  ∃ n : Int, e = .returned (.int .i64 n) ∧ Kx B b w w' ∧ ((n = 0 ∧ ¬ bad ∧ ∃ vc vp, AtO B b a' vc vp w') ∨ (n ≠ 0 ∧ bad))

set_option maxRecDepth 100000 in
set_option maxHeartbeats 2000000 in
theorem addClass_any (B b : Nat) (a : At) (x : ByteArray) (vc vp : Value) (w : World) (h : AtO B b a vc vp w) (hc : a.cls.length ≤ 100000) :
    Calls Tryz.prog 279 #[.pointer (some ⟨b, 0, none⟩), .string x] w (AcPost B b a ⟨a.id, a.cls ++ [x], a.prs⟩ (hasB a.cls x = true ∨ 32 ≤ a.cls.length) w) := by
  obtain ⟨i0, hi0, hz0, hz1, hz2⟩ := info_parts infoS
  obtain ⟨av, cv, rfl⟩ := own_slice h.cls
  obtain ⟨p0, p1, p2⟩ := h.at3
  have HA := Lib.hid h
  have HH := Lib.hid (has_own a.cls x a.id B _ vp w h.cls hc)
  obtain ⟨V, hV⟩ : ∃ V, V = hasB a.cls x := ⟨_, rfl⟩
  rw [← hV] at HH
  have HV := Lib.hid hV
  clear hV h
  cases V with
  | true =>
    go_enter Tryz.func279, Tryz.ntmps279
    go_wp2_with fail
    refine HH.out.mono ?_
    rintro e w1 ⟨rfl, hb1⟩
    have HB := Lib.hid hb1
    clear hb1 p0 p1 p2
    go_wp2
    go_ret
    exact ⟨_, rfl, Kx.of HB.out HA.out.le, .inr ⟨by decide, .inl HV.out.symm⟩⟩
  | false =>
    by_cases h32 : 32 ≤ a.cls.length
    · have q1 : decide ((32 : Int) ≤ (a.cls.length : Int)) = true := by simp; omega
      go_enter Tryz.func279, Tryz.ntmps279
      go_wp2_with fail
      refine HH.out.mono ?_
      rintro e w1 ⟨rfl, hb1⟩
      have HA1 := Lib.hid (HA.out.below hb1)
      have HB := Lib.hid hb1
      clear hb1 p0 p1 p2
      obtain ⟨p0, p1, p2⟩ := HA1.out.at3
      go_wp2
      go_ret
      exact ⟨_, rfl, Kx.of HB.out HA.out.le, .inr ⟨by decide, .inr h32⟩⟩
    · have q1 : decide ((32 : Int) ≤ (a.cls.length : Int)) = false := by simp; omega
      go_enter Tryz.func279, Tryz.ntmps279
      go_wp2_with fail
      refine HH.out.mono ?_
      rintro e w1 ⟨rfl, hb1⟩
      have HA1 := Lib.hid (HA.out.below hb1)
      have HB := Lib.hid hb1
      clear hb1 p0 p1 p2
      obtain ⟨p0, p1, p2⟩ := HA1.out.at3
      go_wp2_with (at_builtin; refine wpList_append_any _ rfl (.tmp 20) (.tmp 22) 40 rfl B 9 i0 _ 1 16 Tryz.underlying40 hi0 hz0 hz1 hz2 rfl (by decide) (.slice av a.cls.length cv) a.cls.length (a.cls.map Value.string) rfl (HA1.out.cls.alloc _) (w1.heap.size + 1) (some ⟨w1.heap.size, 0, none⟩) 1 1 [.string x] rfl ?g1 ?g2 ?g3 ?g4 ?g5 ?_)
      case g1 => exact ⟨rfl, fun _ => ⟨_, rfl, by simp, new_cells w1 [.string x] _⟩⟩
      case g2 => intro u hu; simp at hu; subst hu; rfl
      case g3 => unfold maxLen; omega
      case g4 => omega
      case g5 => have := HA1.out.le; simp; omega
      intro v1 w2 hown hg _
      obtain ⟨a1, c1, rfl⟩ := own_slice hown
      obtain ⟨fz, fc, HR, HK⟩ := HA1.out.pushC hg hown
      have HR := Lib.hid HR
      have HK := Lib.hid HK
      clear hown hg p0 p1 p2
      go_wp2
      go_ret
      exact ⟨_, rfl, (Kx.of HB.out HA.out.le).trans HK.out, .inl ⟨rfl, by rintro (h | h); (rw [← HV.out] at h; cases h); omega, _, _, HR.out⟩⟩

set_option maxRecDepth 100000 in
set_option maxHeartbeats 2000000 in
theorem addPair_any (B b : Nat) (a : At) (x y : ByteArray) (vc vp : Value) (w : World) (h : AtO B b a vc vp w) (hc : a.prs.length ≤ 100000) :
    Calls Tryz.prog 281 #[.pointer (some ⟨b, 0, none⟩), .string x, .string y] w (AcPost B b a ⟨a.id, a.cls, a.prs ++ [⟨x, y⟩]⟩ (hasB (keysOf a) x = true ∨ 32 ≤ a.prs.length) w) := by
  obtain ⟨i0, hi0, hz0, hz1, hz2⟩ := info_parts infoPr
  obtain ⟨av, cv, rfl⟩ := own_slice h.prs
  obtain ⟨p0, p1, p2⟩ := h.at3
  have HA := Lib.hid h
  have HH := Lib.hid (get_own a.prs x a.id B _ vc w h.prs hc)
  obtain ⟨V, hV⟩ : ∃ V, V = hasB (keysOf a) x := ⟨_, rfl⟩
  have hV2 : hasB (a.prs.map Pr.key) x = V := hV.symm
  rw [hV2] at HH
  have HV := Lib.hid hV
  clear hV hV2 h
  cases V with
  | true =>
    go_enter Tryz.func281, Tryz.ntmps281
    go_wp2_with fail
    refine HH.out.mono ?_
    rintro e w1 ⟨u, rfl, hb1⟩
    have HB := Lib.hid hb1
    clear hb1 p0 p1 p2
    go_wp2
    go_ret
    exact ⟨_, rfl, Kx.of HB.out HA.out.le, .inr ⟨by decide, .inl HV.out.symm⟩⟩
  | false =>
    by_cases h32 : 32 ≤ a.prs.length
    · have q1 : decide ((32 : Int) ≤ (a.prs.length : Int)) = true := by simp; omega
      go_enter Tryz.func281, Tryz.ntmps281
      go_wp2_with fail
      refine HH.out.mono ?_
      rintro e w1 ⟨u, rfl, hb1⟩
      have HA1 := Lib.hid (HA.out.below hb1)
      have HB := Lib.hid hb1
      clear hb1 p0 p1 p2
      obtain ⟨p0, p1, p2⟩ := HA1.out.at3
      go_wp2
      go_ret
      exact ⟨_, rfl, Kx.of HB.out HA.out.le, .inr ⟨by decide, .inr h32⟩⟩
    · have q1 : decide ((32 : Int) ≤ (a.prs.length : Int)) = false := by simp; omega
      go_enter Tryz.func281, Tryz.ntmps281
      go_wp2_with fail
      refine HH.out.mono ?_
      rintro e w1 ⟨u, rfl, hb1⟩
      have HA1 := Lib.hid (HA.out.below hb1)
      have HB := Lib.hid hb1
      clear hb1 p0 p1 p2
      obtain ⟨p0, p1, p2⟩ := HA1.out.at3
      go_wp2_with (at_builtin; refine wpList_append_any _ rfl (.tmp 28) (.tmp 32) 22 rfl B 61 i0 _ 2 32 Tryz.underlying22 hi0 hz0 hz1 hz2 rfl (by decide) (.slice av a.prs.length cv) a.prs.length (prCells a.prs) rfl (HA1.out.prs.alloc _) (w1.heap.size + 1) (some ⟨w1.heap.size, 0, none⟩) 1 1 [.string x, .string y] rfl ?g1 ?g2 ?g3 ?g4 ?g5 ?_)
      case g1 => exact ⟨rfl, fun _ => ⟨_, rfl, by simp, new_cells w1 [.string x, .string y] _⟩⟩
      case g2 => intro u hu; simp at hu; rcases hu with rfl | rfl <;> rfl
      case g3 => unfold maxLen; omega
      case g4 => omega
      case g5 => have := HA1.out.le; simp; omega
      intro v1 w2 hown hg _
      obtain ⟨a1, c1, rfl⟩ := own_slice hown
      obtain ⟨fz, fc, HR, HK⟩ := HA1.out.pushP (x := ⟨x, y⟩) hg hown
      have HR := Lib.hid HR
      have HK := Lib.hid HK
      clear hown hg p0 p1 p2
      go_wp2
      go_ret
      exact ⟨_, rfl, (Kx.of HB.out HA.out.le).trans HK.out, .inl ⟨rfl, by rintro (h | h); (rw [← HV.out] at h; cases h); omega, _, _, HR.out⟩⟩
end Go.Proofs.YtjobjicdfoklpaaGreatDoor

namespace Go.Proofs.YtjobjicdfoklpaaGreatDoor
open Go.RowKit
set_option linter.unusedVariables false
set_option linter.unusedSimpArgs false

def RiPost (B b : Nat) (a : At) (s : ByteArray) (i : Nat) (w : World) (e : Ending) (w' : World) : Prop :=
  ∃ (t n : Int), e = .returned (.tuple #[.int .i64 t, .int .i64 n]) ∧ Kx B b w w' ∧
    ((n = 0 ∧ ∃ (a' : At) (q : Nat), q ≤ s.size ∧ t = q ∧ itemL a (frm s i) = some (a', frm s q) ∧ a'.cls.length ≤ 32 ∧ a'.prs.length ≤ 32 ∧ ∃ vc vp, AtO B b a' vc vp w') ∨ (n ≠ 0 ∧ itemL a (frm s i) = none))
theorem item_form (a : At) (s : ByteArray) (i j : Nat) (h : afterSign (frm s i) = frm s j) (hj : j ≤ s.size) :
    itemL a (frm s i) = if nameOk (s.extract j (wEndI s j)) = false then none
      else if (frm s i).head? = some 35 then (if emptyS a.id = false then none else some (⟨s.extract j (wEndI s j), a.cls, a.prs⟩, frm s (wEndI s j)))
      else if (frm s i).head? = some 46 then (if hasB a.cls (s.extract j (wEndI s j)) = true then none else if 32 ≤ a.cls.length then none
        else some (⟨a.id, a.cls ++ [s.extract j (wEndI s j)], a.prs⟩, frm s (wEndI s j)))
      else if (frm s (wEndI s j)).head? = some 61 then (match valueL (frm s (wEndI s j)).tail with
        | none => none
        | some (v, r) => if hasB (keysOf a) (s.extract j (wEndI s j)) = true then none else if 32 ≤ a.prs.length then none
          else some (⟨a.id, a.cls, a.prs ++ [⟨s.extract j (wEndI s j), v⟩]⟩, r))
      else none := by
  unfold itemL
  rw [h, word_text s j hj, frm_wEnd]
  rfl

set_option maxRecDepth 100000 in
set_option maxHeartbeats 4000000 in
theorem readItem_any (B b : Nat) (a : At) (s : ByteArray) (i : Nat) (vc vp : Value) (w : World) (h : AtO B b a vc vp w) (hc : a.cls.length ≤ 32) (hp : a.prs.length ≤ 32) (hs : s.size ≤ 100000) (hi : i < s.size) :
    Calls Tryz.prog 269 #[.pointer (some ⟨b, 0, none⟩), .string s, .int .i64 i] w (RiPost B b a s i w) := by
  obtain ⟨p0, p1, p2⟩ := h.at3
  have HA := Lib.hid h
  have hcn := frm_cons s i hi
  clear h
  by_cases h35 : s[i] = 35
  · have q1 : ((s[i].toNat : Int) == 35) = true := by rw [h35]; rfl
    have hsg : afterSign (frm s i) = frm s (i + 1) := by rw [hcn, h35]; rfl
    have HIT := item_form a s i (i + 1) hsg (by omega)
    rw [hcn, h35, List.head?_cons, if_pos rfl] at HIT
    rw [← h35, ← hcn] at HIT
    have HIT := Lib.hid HIT
    have WE : Hid (∀ w, Calls Tryz.prog 119 #[.string s, .int .i64 ((i : Int) + 1)] w fun e w' => e = .returned (.int .i64 (wEndI s (i + 1) : Nat)) ∧ w = w') := fun w => wordEndI_any s (i + 1) w (by omega) (by omega)
    have hwl := wEndI_le s (i + 1) (by omega)
    have hwg : i + 1 ≤ wEndI s (i + 1) := Nat.le_add_right _ _
    generalize wEndI s (i + 1) = T at *
    have hvs : (s.extract (i + 1) T).size ≤ 1000000000 := by rw [ByteArray.size_extract]; omega
    have NM := Lib.hid (fun w => name_any (s.extract (i + 1) T) w hvs)
    generalize nameOk (s.extract (i + 1) T) = NX at *
    clear hcn hsg hvs h35
    cases NX with
    | false =>
      go_enter Tryz.func269, Tryz.ntmps269
      go_wp2_with fail
      refine (WE.out _).mono ?_
      rintro e w1 ⟨rfl, rfl⟩
      go_wp2_with fail
      refine (NM.out _).mono ?_
      rintro e w2 ⟨rfl, rfl⟩
      go_wp2
      go_ret2
      exact ⟨_, _, rfl, Kx.refl _ _ _, .inr ⟨by decide, HIT.out⟩⟩
    | true =>
      have HIT2 : Hid (itemL a (frm s i) = if emptyS a.id = false then none else some (⟨s.extract (i + 1) T, a.cls, a.prs⟩, frm s T)) := HIT.out
      cases hem : emptyS a.id with
      | false =>
        have hie : a.id.toList.isEmpty = false := by rw [emp_eq]; exact hem
        have HIT3 : Hid (itemL a (frm s i) = none) := by show _ = _; rw [HIT2.out, if_pos hem]
        clear HIT HIT2 hem
        go_enter Tryz.func269, Tryz.ntmps269
        go_wp2_with fail
        refine (WE.out _).mono ?_
        rintro e w1 ⟨rfl, rfl⟩
        go_wp2_with fail
        refine (NM.out _).mono ?_
        rintro e w2 ⟨rfl, rfl⟩
        go_wp2
        go_ret2
        exact ⟨_, _, rfl, Kx.refl _ _ _, .inr ⟨by decide, HIT3.out⟩⟩
      | true =>
        have hie : a.id.toList.isEmpty = true := by rw [emp_eq]; exact hem
        have HIT3 : Hid (itemL a (frm s i) = some (⟨s.extract (i + 1) T, a.cls, a.prs⟩, frm s T)) := by show _ = _; rw [HIT2.out, hem]; rfl
        obtain ⟨fz, HR, HK⟩ := HA.out.setId (s.extract (i + 1) T)
        have HR := Lib.hid HR
        have HK := Lib.hid HK
        clear HIT HIT2 hem
        go_enter Tryz.func269, Tryz.ntmps269
        go_wp2_with fail
        refine (WE.out _).mono ?_
        rintro e w1 ⟨rfl, rfl⟩
        go_wp2_with fail
        refine (NM.out _).mono ?_
        rintro e w2 ⟨rfl, rfl⟩
        go_wp2
        go_ret2
        exact ⟨_, _, rfl, HK.out, .inl ⟨rfl, _, T, hwl, rfl, HIT3.out, hc, hp, _, _, HR.out⟩⟩
  · have q1 : ((s[i].toNat : Int) == 35) = false := by
      rw [beq_eq_false_iff_ne]; intro e; exact h35 (by rw [← UInt8.toNat_inj]; show _ = 35; omega)
    by_cases h46 : s[i] = 46
    · have q2 : ((s[i].toNat : Int) == 46) = true := by rw [h46]; rfl
      have hsg : afterSign (frm s i) = frm s (i + 1) := by rw [hcn, h46]; rfl
      have HIT := item_form a s i (i + 1) hsg (by omega)
      rw [hcn, h46, List.head?_cons, if_neg (show ¬ (some (46 : UInt8) = some 35) by decide), if_pos rfl] at HIT
      rw [← h46, ← hcn] at HIT
      have HIT := Lib.hid HIT
      have WE : Hid (∀ w, Calls Tryz.prog 119 #[.string s, .int .i64 ((i : Int) + 1)] w fun e w' => e = .returned (.int .i64 (wEndI s (i + 1) : Nat)) ∧ w = w') := fun w => wordEndI_any s (i + 1) w (by omega) (by omega)
      have hwl := wEndI_le s (i + 1) (by omega)
      have hwg : i + 1 ≤ wEndI s (i + 1) := Nat.le_add_right _ _
      generalize wEndI s (i + 1) = T at *
      have hvs : (s.extract (i + 1) T).size ≤ 1000000000 := by rw [ByteArray.size_extract]; omega
      have NM := Lib.hid (fun w => name_any (s.extract (i + 1) T) w hvs)
      have AC := Lib.hid (addClass_any B b a (s.extract (i + 1) T) vc vp w HA.out (by omega))
      generalize nameOk (s.extract (i + 1) T) = NX at *
      clear hcn hsg hvs h35 h46 p0 p1 p2
      cases NX with
      | false =>
        go_enter Tryz.func269, Tryz.ntmps269
        go_wp2_with fail
        refine (WE.out _).mono ?_
        rintro e w1 ⟨rfl, rfl⟩
        go_wp2_with fail
        refine (NM.out _).mono ?_
        rintro e w2 ⟨rfl, rfl⟩
        go_wp2
        go_ret2
        exact ⟨_, _, rfl, Kx.refl _ _ _, .inr ⟨by decide, HIT.out⟩⟩
      | true =>
        go_enter Tryz.func269, Tryz.ntmps269
        go_wp2_with fail
        refine (WE.out _).mono ?_
        rintro e w1 ⟨rfl, rfl⟩
        go_wp2_with fail
        refine (NM.out _).mono ?_
        rintro e w2 ⟨rfl, rfl⟩
        go_wp2_with fail
        refine AC.out.mono ?_
        rintro e w3 ⟨n, rfl, hk, hres⟩
        have HK := Lib.hid hk
        have HRES := Lib.hid hres
        clear hk hres
        go_wp2
        go_ret2
        refine ⟨_, _, rfl, HK.out, ?_⟩
        rcases HRES.out with ⟨h1, h2, vc', vp', h3⟩ | ⟨h1, h2⟩
        · refine .inl ⟨h1, ⟨a.id, a.cls ++ [s.extract (i + 1) T], a.prs⟩, T, hwl, rfl, ?_, ?_, hp, _, _, h3⟩
          · rw [HIT.out, if_neg (by decide), if_neg (fun e => h2 (.inl e)), if_neg (fun e => h2 (.inr e))]
          · simp only [List.length_append, List.length_singleton]
            have : ¬ 32 ≤ a.cls.length := fun e => h2 (.inr e)
            omega
        · refine .inr ⟨h1, ?_⟩
          rw [HIT.out, if_neg (by decide)]
          by_cases h4 : hasB a.cls (s.extract (i + 1) T) = true
          · rw [if_pos h4]
          · rw [if_neg h4, if_pos (h2.resolve_left h4)]
    · have q2 : ((s[i].toNat : Int) == 46) = false := by
        rw [beq_eq_false_iff_ne]; intro e; exact h46 (by rw [← UInt8.toNat_inj]; show _ = 46; omega)
      have hsg : afterSign (frm s i) = frm s i := by
        unfold afterSign
        rw [hcn, List.head?_cons, if_neg]
        rintro (h | h)
        · exact h35 (Option.some.inj h)
        · exact h46 (Option.some.inj h)
      have HIT := item_form a s i i hsg (by omega)
      rw [show (frm s i).head? = some s[i] from frm_head s i hi, if_neg (fun e => h35 (Option.some.inj e)), if_neg (fun e => h46 (Option.some.inj e))] at HIT
      have HIT := Lib.hid HIT
      have WE : Hid (∀ w, Calls Tryz.prog 119 #[.string s, .int .i64 (i : Int)] w fun e w' => e = .returned (.int .i64 (wEndI s i : Nat)) ∧ w = w') := fun w => wordEndI_any s i w (by omega) (by omega)
      have hwl := wEndI_le s i (by omega)
      have hwg : i ≤ wEndI s i := Nat.le_add_right _ _
      generalize wEndI s i = T at *
      have hvs : (s.extract i T).size ≤ 1000000000 := by rw [ByteArray.size_extract]; omega
      have NM := Lib.hid (fun w => name_any (s.extract i T) w hvs)
      generalize nameOk (s.extract i T) = NX at *
      clear hcn hsg hvs h35 h46 p0 p1 p2
      cases NX with
      | false =>
        go_enter Tryz.func269, Tryz.ntmps269
        go_wp2_with fail
        refine (WE.out _).mono ?_
        rintro e w1 ⟨rfl, rfl⟩
        go_wp2_with fail
        refine (NM.out _).mono ?_
        rintro e w2 ⟨rfl, rfl⟩
        go_wp2
        go_ret2
        exact ⟨_, _, rfl, Kx.refl _ _ _, .inr ⟨by decide, HIT.out⟩⟩
      | true =>
        by_cases hT : T < s.size
        · have hcT := frm_cons s T hT
          have q3 : decide ((s.size : Int) ≤ (T : Int)) = false := by simp; omega
          by_cases h61 : s[T] = 61
          · have q4 : ((s[T].toNat : Int) != 61) = false := by rw [h61]; rfl
            have HIT2 : Hid (itemL a (frm s i) = match valueL (frm s (T + 1)) with
              | none => none
              | some (v, r) => if hasB (keysOf a) (s.extract i T) = true then none else if 32 ≤ a.prs.length then none
                else some (⟨a.id, a.cls, a.prs ++ [⟨s.extract i T, v⟩]⟩, r)) := by
              show _ = _
              rw [HIT.out, if_neg (by decide), hcT, h61]
              rfl
            have RV : Hid (∀ w, Calls Tryz.prog 280 #[.string s, .int .i64 ((T : Int) + 1)] w (RvPost s (T + 1) w)) := fun w => readValue_any s (T + 1) w (by omega) (by omega)
            clear HIT hcT h61
            go_enter Tryz.func269, Tryz.ntmps269
            go_wp2_with fail
            refine (WE.out _).mono ?_
            rintro e w1 ⟨rfl, rfl⟩
            go_wp2_with fail
            refine (NM.out _).mono ?_
            rintro e w2 ⟨rfl, rfl⟩
            go_wp2_with fail
            refine (RV.out _).mono ?_
            rintro e w3 ⟨⟨v, n, bb, rfl, hres⟩, hbel⟩
            have HA3 := Lib.hid (HA.out.below hbel)
            have HK3 := Lib.hid (Kx.of (b := b) hbel HA.out.le)
            have HRES := Lib.hid hres
            clear hres hbel
            cases bb with
            | false =>
              have HIT3 : Hid (itemL a (frm s i) = none) := by
                show _ = _
                rcases HRES.out with ⟨h1, _⟩ | ⟨_, h1⟩
                · cases h1
                · rw [HIT2.out, h1]
              clear HIT2
              go_wp2
              go_ret2
              exact ⟨_, _, rfl, HK3.out, .inr ⟨by decide, HIT3.out⟩⟩
            | true =>
              obtain ⟨q, hq, rfl, HVq⟩ : ∃ q : Nat, q ≤ s.size ∧ n = q ∧ Hid (valueL (frm s (T + 1)) = some (v, frm s q)) := by
                rcases HRES.out with ⟨_, h⟩ | ⟨h1, _⟩
                · exact h
                · cases h1
              have AP := Lib.hid (addPair_any B b a (s.extract i T) v vc vp w3 HA3.out (by omega))
              have HIT3 : Hid (itemL a (frm s i) = if hasB (keysOf a) (s.extract i T) = true then none else if 32 ≤ a.prs.length then none
                else some (⟨a.id, a.cls, a.prs ++ [⟨s.extract i T, v⟩]⟩, frm s q)) := by show _ = _; rw [HIT2.out, HVq.out]
              clear HIT2 HVq HRES
              go_wp2_with fail
              refine AP.out.mono ?_
              rintro e w4 ⟨n, rfl, hk, hres⟩
              have HK := Lib.hid hk
              have HRES := Lib.hid hres
              clear hk hres
              go_wp2
              go_ret2
              refine ⟨_, _, rfl, HK3.out.trans HK.out, ?_⟩
              rcases HRES.out with ⟨h1, h2, vc', vp', h3⟩ | ⟨h1, h2⟩
              · refine .inl ⟨h1, ⟨a.id, a.cls, a.prs ++ [⟨s.extract i T, v⟩]⟩, q, hq, rfl, ?_, hc, ?_, _, _, h3⟩
                · rw [HIT3.out, if_neg (fun e => h2 (.inl e)), if_neg (fun e => h2 (.inr e))]
                · simp only [List.length_append, List.length_singleton]
                  have : ¬ 32 ≤ a.prs.length := fun e => h2 (.inr e)
                  omega
              · refine .inr ⟨h1, ?_⟩
                rw [HIT3.out]
                by_cases h4 : hasB (keysOf a) (s.extract i T) = true
                · rw [if_pos h4]
                · rw [if_neg h4, if_pos (h2.resolve_left h4)]
          · have q4 : ((s[T].toNat : Int) != 61) = true := by rw [bne_iff_ne]; intro e; exact h61 (by rw [← UInt8.toNat_inj]; show _ = 61; omega)
            have HIT2 : Hid (itemL a (frm s i) = none) := by
              show _ = _
              rw [HIT.out, if_neg (by decide), frm_head s T hT, if_neg (fun e => h61 (Option.some.inj e))]
            clear HIT hcT h61
            go_enter Tryz.func269, Tryz.ntmps269
            go_wp2_with fail
            refine (WE.out _).mono ?_
            rintro e w1 ⟨rfl, rfl⟩
            go_wp2_with fail
            refine (NM.out _).mono ?_
            rintro e w2 ⟨rfl, rfl⟩
            go_wp2
            go_ret2
            exact ⟨_, _, rfl, Kx.refl _ _ _, .inr ⟨by decide, HIT2.out⟩⟩
        · have q3 : decide ((s.size : Int) ≤ (T : Int)) = true := by simp; omega
          have HIT2 : Hid (itemL a (frm s i) = none) := by
            show _ = _
            rw [HIT.out, if_neg (by decide), frm_end s T (by omega), if_neg (by simp)]
          clear HIT
          go_enter Tryz.func269, Tryz.ntmps269
          go_wp2_with fail
          refine (WE.out _).mono ?_
          rintro e w1 ⟨rfl, rfl⟩
          go_wp2_with fail
          refine (NM.out _).mono ?_
          rintro e w2 ⟨rfl, rfl⟩
          go_wp2
          go_ret2
          exact ⟨_, _, rfl, Kx.refl _ _ _, .inr ⟨by decide, HIT2.out⟩⟩
end Go.Proofs.YtjobjicdfoklpaaGreatDoor
