/- Words and widths of joined words, plainly: a string's words are what lies between its bytes 32 and 10; widths add up at such bytes. -/
import Derived.Test.YtgjhfjplalcnbaaDoorPlLines
import Derived.Lib.TrimUEq
namespace Go.Proofs.YtgjhfjplalcnbaaDoor
open Go.Lib

/-- A byte of white space. -/
def spB (c : UInt8) : Bool := c.toNat == 32 || c.toNat == 10
/-- What lies between such bytes. -/
def splitW : List UInt8 → List UInt8 → List (List UInt8)
  | [], cur => if cur = [] then [] else [cur]
  | c :: t, cur => if spB c = true then (if cur = [] then splitW t [] else cur :: splitW t []) else splitW t (cur ++ [c])
theorem splitW_word : ∀ (x rest cur : List UInt8), (∀ c ∈ x, spB c = false) → splitW (x ++ rest) cur = splitW rest (cur ++ x)
  | [], rest, cur, _ => by simp
  | c :: t, rest, cur, h => by
    rw [List.cons_append, splitW, if_neg (by simp [h c List.mem_cons_self]), splitW_word t rest _ (fun d hd => h d (List.mem_cons_of_mem _ hd))]
    simp

/-- The byte of a list at a place. -/
theorem dec_high (s : ByteArray) (i : Nat) (_hi : i < s.size) (h : 128 ≤ (s.get! i).toNat) :
    128 ≤ (Utf8.decode s i).1 ∧ ∀ k, k < (Utf8.decode s i).2 → 128 ≤ (s.get! (i + k)).toNat := by
  rw [decode_at]
  have g1 := UInt8.toNat_lt (s.get! (i + 1))
  have g2 := UInt8.toNat_lt (s.get! (i + 2))
  have g3 := UInt8.toNat_lt (s.get! (i + 3))
  generalize hb0 : (s.get! i).toNat = b0 at *
  generalize hb1 : (s.get! (i + 1)).toNat = b1 at *
  generalize hb2 : (s.get! (i + 2)).toNat = b2 at *
  generalize hb3 : (s.get! (i + 3)).toNat = b3 at *
  unfold decodeN
  have one : ∀ k, k < 1 → 128 ≤ (s.get! (i + k)).toNat := fun k hk => by
    obtain rfl : k = 0 := by omega
    rw [Nat.add_zero, hb0]; exact h
  rw [if_neg (by omega)]
  split
  · rename_i hc
    split
    · refine ⟨by simp only; omega, fun k hk => ?_⟩
      simp only at hk
      have : k = 0 ∨ k = 1 := by omega
      rcases this with rfl | rfl
      · exact one 0 (by omega)
      · rw [hb1]; omega
    · exact ⟨by simp, one⟩
  · split
    · rename_i hc
      split
      · refine ⟨by simp only; omega, fun k hk => ?_⟩
        simp only at hk
        have : k = 0 ∨ k = 1 ∨ k = 2 := by omega
        rcases this with rfl | rfl | rfl
        · exact one 0 (by omega)
        · rw [hb1]; omega
        · rw [hb2]; omega
      · exact ⟨by simp, one⟩
    · split
      · rename_i hc
        split
        · refine ⟨by simp only; omega, fun k hk => ?_⟩
          simp only at hk
          have : k = 0 ∨ k = 1 ∨ k = 2 ∨ k = 3 := by omega
          rcases this with rfl | rfl | rfl | rfl
          · exact one 0 (by omega)
          · rw [hb1]; omega
          · rw [hb2]; omega
          · rw [hb3]; omega
        · exact ⟨by simp, one⟩
      · exact ⟨by simp, one⟩
theorem dec_low (s : ByteArray) (i : Nat) (h : (s.get! i).toNat < 128) : Utf8.decode s i = ((s.get! i).toNat, 1) := by
  rw [decode_at]; unfold decodeN; rw [if_pos h]

/-- The bytes of a string from one place to another. -/
theorem get_list (s : ByteArray) (i : Nat) (h : i < s.size) : s.data.toList[i]? = some (s.get! i) := by
  have h' : i < s.data.toList.length := by simpa using h
  rw [List.getElem?_eq_getElem h']
  congr 1
  cases s with | mk bs =>
  show bs.toList[i] = bs[i]!
  rw [getElem!_pos bs i h]
  simp

/-- The loop of the reference is the division at bytes. -/
theorem rw_split (s : ByteArray) : ∀ (f i fr : Nat) (acc : List ByteArray), fr ≤ i → i ≤ s.size → s.size ≤ i + f →
    (wEnd s (rw38 s f i fr acc)).map (·.data.toList) = acc.map (·.data.toList) ++ splitW (s.data.toList.drop i) ((s.data.toList.take i).drop fr)
  | f, i, fr, acc, h1, h2, h3 => by
    by_cases hi : i < s.size
    · obtain ⟨f, rfl⟩ : ∃ f', f = f' + 1 := ⟨f - 1, by omega⟩
      have hd := dec_le s i hi
      have hw := width_pos s i
      have hsz : s.data.toList.length = s.size := Array.length_toList
      have hex : (s.extract fr i).data.toList = (s.data.toList.take i).drop fr := by
        simp [ByteArray.data_extract, Array.toList_extract, List.drop_take]
      have hne : (((s.data.toList.take i).drop fr) = []) ↔ ¬ fr < i := by
        rw [List.drop_eq_nil_iff, List.length_take, hsz]; omega
      by_cases hb : (s.get! i).toNat < 128
      · have hdec := dec_low s i hb
        have hdr : s.data.toList.drop i = s.get! i :: s.data.toList.drop (i + 1) := by
          rw [List.drop_eq_getElem_cons (by omega)]
          congr 1
          have := get_list s i hi
          rw [List.getElem?_eq_getElem (by omega)] at this
          exact Option.some.inj this
        have hsp : isSp (Utf8.decode s i).1 = spB (s.get! i) := by
          rw [hdec]; unfold isSp spB
          simp only
          rw [Bool.eq_iff_iff]; simp; omega
        have ht1 : s.data.toList.take (i + 1) = s.data.toList.take i ++ [s.get! i] := by
          rw [List.take_add_one, get_list s i hi]; rfl
        rw [rw38, if_pos hi, hsp, hdec]
        simp only
        rw [hdr, splitW]
        cases hs : spB (s.get! i)
        · simp only [Bool.false_eq_true, if_false]
          rw [rw_split s f (i + 1) fr acc (by omega) (by omega) (by omega), ht1]
          rw [List.drop_append_of_le_length (by rw [List.length_take, hsz]; omega)]
        · simp only [if_true]
          rw [rw_split s f (i + 1) (i + 1) _ (Nat.le_refl _) (by omega) (by omega)]
          have hnil : (s.data.toList.take (i + 1)).drop (i + 1) = [] := by
            rw [List.drop_eq_nil_iff, List.length_take]; omega
          rw [hnil]
          by_cases hfi : fr < i
          · rw [if_pos hfi, if_neg (by rw [hne]; omega)]
            rw [List.map_append, List.map_cons, List.map_nil, hex, List.append_assoc]; rfl
          · rw [if_neg hfi, if_pos (by rw [hne]; exact hfi)]
      · have hh := dec_high s i hi (by omega)
        have hsp : isSp (Utf8.decode s i).1 = false := by
          unfold isSp
          have := hh.1
          rw [Bool.or_eq_false_iff, beq_eq_false_iff_ne, beq_eq_false_iff_ne]
          omega
        rw [rw38, if_pos hi, hsp]
        simp only [Bool.false_eq_true, if_false]
        generalize Utf8.decode s i = d at *
        obtain ⟨d1, d2⟩ := d
        simp only at hd hw hh ⊢
        rw [rw_split s f (i + d2) fr acc (by omega) hd (by omega)]
        have hdr : s.data.toList.drop i = (s.data.toList.drop i).take d2 ++ s.data.toList.drop (i + d2) := by
          rw [← List.drop_drop, List.take_append_drop]
        have hx : ∀ c ∈ (s.data.toList.drop i).take d2, spB c = false := by
          intro c hc
          obtain ⟨k, hk, e⟩ := List.mem_iff_getElem.1 hc
          have hk2 : k < d2 := by simp at hk; omega
          have : (s.data.toList.drop i)[k]? = some c := by
            rw [← e, ← List.getElem?_eq_getElem, List.getElem?_take, if_pos hk2]
          rw [List.getElem?_drop, get_list s (i + k) (by omega)] at this
          have e2 := Option.some.inj this
          have := hh.2 k hk2
          unfold spB
          rw [← e2, Bool.or_eq_false_iff, beq_eq_false_iff_ne, beq_eq_false_iff_ne]
          omega
        rw [hdr, splitW_word _ _ _ hx]
        congr 2
        rw [List.take_add, List.drop_append_of_le_length (by rw [List.length_take, hsz]; omega)]
    · have he : i = s.size := by omega
      subst he
      have hsz : s.data.toList.length = s.size := Array.length_toList
      rw [rw38_end s _ _ _ _ hi]
      rw [List.drop_eq_nil_of_le (by omega), List.take_of_length_le (by omega), splitW]
      unfold wEnd
      simp only
      by_cases hf : fr < s.size
      · rw [if_pos hf, if_neg (by rw [List.drop_eq_nil_iff]; omega)]
        have hex : (s.extract fr s.size).data.toList = s.data.toList.drop fr := by
          simp only [ByteArray.data_extract, Array.toList_extract, List.extract_eq_take_drop]
          rw [List.take_of_length_le (by rw [List.length_drop, hsz]; omega)]
        rw [List.map_append, List.map_cons, List.map_nil, hex]
      · rw [if_neg hf, if_pos (by rw [List.drop_eq_nil_iff]; omega)]
        simp
termination_by f => f
end Go.Proofs.YtgjhfjplalcnbaaDoor
