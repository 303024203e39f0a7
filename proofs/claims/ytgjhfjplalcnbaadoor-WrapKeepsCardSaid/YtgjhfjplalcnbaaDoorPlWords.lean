/- The words of a string, plainly: the loop of the reference, and that it gives the fields of the library. -/
import Derived.Lib.FieldsP
import Derived.Lib.TrimU
namespace Go.Proofs.YtgjhfjplalcnbaaDoor
open Go.Lib

def isSp (c : Nat) : Bool := (c : Int) == 32 || (c : Int) == 10

theorem dec_le (s : ByteArray) (i : Nat) (h : i < s.size) : i + (Utf8.decode s i).2 ≤ s.size := by
  have := decodeN_le_n' (s.size - i) (s.get! i).toNat (s.get! (i + 1)).toNat (s.get! (i + 2)).toNat (s.get! (i + 3)).toNat (by omega)
  rw [decode_at]; omega

/-- The loop of the reference from the byte i on: the words so far, and where the open one begins. -/
def rw38 (s : ByteArray) : Nat → Nat → Nat → List ByteArray → List ByteArray × Nat
  | 0, _, fr, acc => (acc, fr)
  | f + 1, i, fr, acc =>
    if i < s.size then
      (if isSp (Utf8.decode s i).1 then rw38 s f (i + (Utf8.decode s i).2) (i + (Utf8.decode s i).2) (if fr < i then acc ++ [s.extract fr i] else acc)
       else rw38 s f (i + (Utf8.decode s i).2) fr acc)
    else (acc, fr)

theorem rw38_end (s : ByteArray) (f i fr : Nat) (acc : List ByteArray) (h : ¬ i < s.size) : rw38 s f i fr acc = (acc, fr) := by
  cases f <;> simp [rw38, h]
theorem rw38_sp (s : ByteArray) (f i fr : Nat) (acc : List ByteArray) (h : i < s.size) (hs : isSp (Utf8.decode s i).1 = true) :
    rw38 s (f + 1) i fr acc = rw38 s f (i + (Utf8.decode s i).2) (i + (Utf8.decode s i).2) (if fr < i then acc ++ [s.extract fr i] else acc) := by
  rw [rw38, if_pos h, if_pos hs]
theorem rw38_no (s : ByteArray) (f i fr : Nat) (acc : List ByteArray) (h : i < s.size) (hs : isSp (Utf8.decode s i).1 = false) :
    rw38 s (f + 1) i fr acc = rw38 s f (i + (Utf8.decode s i).2) fr acc := by
  rw [rw38, if_pos h, if_neg (by simp [hs])]

/-- What is done behind the loop. -/
def wEnd (s : ByteArray) (r : List ByteArray × Nat) : List ByteArray := if r.2 < s.size then r.1 ++ [s.extract r.2 s.size] else r.1
def words38 (s : ByteArray) : List ByteArray := wEnd s (rw38 s s.size 0 0 [])

theorem rw_last (s : ByteArray) (f fr : Nat) (acc : List ByteArray) (st : Option Nat) (sp : List (Nat × Nat)) (h4 : acc = sp.map (fun x => s.extract x.1 x.2)) (h5 : st = if fr < s.size then some fr else none) :
    (closeSpans s (spansFromP isSp s f s.size st sp)).map (fun x => s.extract x.1 x.2) = wEnd s (rw38 s f s.size fr acc) := by
  rw [rw38_end s _ _ _ _ (Nat.lt_irrefl _), spansFromP_end _ _ _ _ _ _ (Nat.lt_irrefl _)]
  show _ = if fr < s.size then acc ++ [s.extract fr s.size] else acc
  by_cases h : fr < s.size
  · rw [if_pos h] at h5 ⊢
    subst h5; simp [closeSpans, h4]
  · rw [if_neg h] at h5 ⊢
    subst h5; simp [closeSpans, h4]

theorem rw_spans (s : ByteArray) : ∀ (f i fr : Nat) (acc : List ByteArray) (st : Option Nat) (sp : List (Nat × Nat)), fr ≤ i → i ≤ s.size → s.size ≤ i + f →
    acc = sp.map (fun x => s.extract x.1 x.2) → (st = if fr < i then some fr else none) →
    (closeSpans s (spansFromP isSp s f i st sp)).map (fun x => s.extract x.1 x.2) = wEnd s (rw38 s f i fr acc)
  | 0, i, fr, acc, st, sp, h1, h2, h3, h4, h5 => by
    have hi : i = s.size := by omega
    subst hi
    exact rw_last s 0 fr acc st sp h4 h5
  | f + 1, i, fr, acc, st, sp, h1, h2, h3, h4, h5 => by
    by_cases hi : i < s.size
    · have hd := dec_le s i hi
      have hw : 1 ≤ (Utf8.decode s i).2 := width_pos s i
      unfold spansFromP rw38
      rw [if_pos hi, if_pos hi]
      by_cases hp : isSp (Utf8.decode s i).1
      · rw [if_pos hp, if_pos hp]
        by_cases h : fr < i
        · rw [if_pos h] at h5 ⊢
          subst h5
          exact rw_spans s f _ _ _ _ _ (Nat.le_refl _) hd (by omega) (by simp [h4]) (by rw [if_neg (by omega)])
        · rw [if_neg h] at h5 ⊢
          subst h5
          exact rw_spans s f _ _ _ _ _ (Nat.le_refl _) hd (by omega) h4 (by rw [if_neg (by omega)])
      · rw [if_neg hp, if_neg hp]
        by_cases h : fr < i
        · rw [if_pos h] at h5
          subst h5
          exact rw_spans s f _ _ _ _ _ (by omega) hd (by omega) h4 (by rw [if_pos (by omega)])
        · rw [if_neg h] at h5
          subst h5
          have hfi : fr = i := by omega
          subst hfi
          exact rw_spans s f _ _ _ _ _ (by omega) hd (by omega) h4 (by rw [if_pos (by omega)])
    · have he : i = s.size := by omega
      subst he
      exact rw_last s _ fr acc st sp h4 h5

theorem fields_words (s : ByteArray) : goFieldsP isSp s = words38 s :=
  rw_spans s s.size 0 0 [] none [] (Nat.le_refl _) (Nat.zero_le _) (by omega) rfl rfl

theorem rw38_len (s : ByteArray) : ∀ (f i fr : Nat) (acc : List ByteArray), (rw38 s f i fr acc).1.length ≤ acc.length + f
  | 0, _, _, _ => by simp [rw38]
  | f + 1, i, fr, acc => by
    rw [rw38]
    split
    · split
      · refine Nat.le_trans (rw38_len s f _ _ _) ?_
        split <;> simp <;> omega
      · exact Nat.le_trans (rw38_len s f _ _ _) (by omega)
    · simp
end Go.Proofs.YtgjhfjplalcnbaaDoor
