/- Plain part: different anchors for texts: the first free number. -/
import Derived.Test.YtjolhiofllpejaaDoorPlFold
import Derived.Test.YtjolhiofllpejaaDoorMem
import Derived.Lib.ItoaNum
namespace Go.Proofs.YtjolhiofllpejaaDoor

def numB (base : ByteArray) (n : Nat) : ByteArray := (base ++ ⟨#[45]⟩) ++ ⟨(Lib.decDigits n).toArray⟩

def valD (l : List UInt8) : Nat := l.foldl (fun a c => a * 10 + (c.toNat - 48)) 0
theorem valD_snoc (l : List UInt8) (c : UInt8) : valD (l ++ [c]) = valD l * 10 + (c.toNat - 48) := by simp [valD]
theorem valD_dec (n : Nat) : valD (Lib.decDigits n) = n := by
  induction n using Nat.strongRecOn with
  | _ n ih =>
    rw [Lib.decDigits]
    split
    · have : (UInt8.ofNat (48 + n)).toNat = 48 + n := by simp; omega
      simp only [valD, List.foldl_cons, List.foldl_nil, this]; omega
    · rw [valD_snoc, ih (n / 10) (by omega)]
      have : (UInt8.ofNat (48 + n % 10)).toNat = 48 + n % 10 := by simp; omega
      rw [this]; omega
theorem numB_list (base : ByteArray) (n : Nat) : (numB base n).data.toList = base.data.toList ++ (45 :: Lib.decDigits n) := by
  simp [numB]
theorem numB_inj (base : ByteArray) (m n : Nat) (h : numB base m = numB base n) : m = n := by
  have e := congrArg (fun b => b.data.toList) h
  simp only [numB_list] at e
  have e := List.append_cancel_left e
  simp only [List.cons.injEq, true_and] at e
  have := congrArg valD e
  rwa [valD_dec, valD_dec] at this

/-- The texts that are tried for an anchor, in their order. -/
def cand (base : ByteArray) (n : Nat) : ByteArray := if n = 0 then base else numB base n
theorem cand_inj (base : ByteArray) (m n : Nat) (h : cand base m = cand base n) : m = n := by
  have hs : ∀ k, numB base k ≠ base := by
    intro k e
    have e := congrArg (fun b => b.data.toList.length) e
    simp [numB_list] at e
  unfold cand at h
  split at h <;> split at h
  · omega
  · exact absurd h.symm (hs n)
  · exact absurd h (hs m)
  · exact numB_inj base m n h

theorem nodup_len {α : Type} [DecidableEq α] : ∀ (l T : List α), l.Nodup → (∀ x ∈ l, x ∈ T) → l.length ≤ T.length
  | [], _, _, _ => Nat.zero_le _
  | a :: l, T, hn, hs => by
    have ha : a ∈ T := hs a (by simp)
    have hn' := List.nodup_cons.1 hn
    have h := nodup_len l (T.erase a) hn'.2 (fun x hx => (List.mem_erase_of_ne (fun e => hn'.1 (by rw [← e]; exact hx))).2 (hs x (by simp [hx])))
    rw [List.length_erase_of_mem ha] at h
    have : 0 < T.length := List.length_pos_of_mem ha
    simp; omega

def hasB (T : List ByteArray) (x : ByteArray) : Bool := T.any fun y => decide (y = x)
theorem hasB_iff (T : List ByteArray) (x : ByteArray) : hasB T x = true ↔ x ∈ T := by
  unfold hasB
  rw [List.any_eq_true]
  constructor
  · rintro ⟨y, hy, h⟩; rw [← of_decide_eq_true h]; exact hy
  · intro h; exact ⟨x, h, decide_eq_true rfl⟩
theorem hasB_no (T : List ByteArray) (x : ByteArray) : hasB T x = false ↔ x ∉ T := by
  rw [← hasB_iff, Bool.not_eq_true]
def firstF (T : List ByteArray) (base : ByteArray) : Nat → Nat → Nat
  | 0, n => n
  | f + 1, n => if hasB T (cand base n) then firstF T base f (n + 1) else n
/-- The number of the first text that is free. -/
def idx (T : List ByteArray) (base : ByteArray) : Nat := firstF T base (T.length + 1) 0
theorem firstF_up (T : List ByteArray) (base : ByteArray) : ∀ (f n : Nat), (∀ j, j < n → cand base j ∈ T) → n ≤ firstF T base f n ∧ (∀ j, j < firstF T base f n → cand base j ∈ T) ∧ (cand base (firstF T base f n) ∉ T ∨ firstF T base f n = n + f)
  | 0, n, h => ⟨Nat.le_refl _, h, .inr rfl⟩
  | f + 1, n, h => by
    rw [firstF]
    split
    · rename_i hm
      rw [hasB_iff] at hm
      have := firstF_up T base f (n + 1) (fun j hj => by
        rcases Nat.lt_or_ge j n with h' | h'
        · exact h j h'
        · have : j = n := by omega
          rw [this]; exact hm)
      exact ⟨by omega, this.2.1, this.2.2.imp id (fun e => by omega)⟩
    · rename_i hm
      rw [hasB_iff] at hm
      exact ⟨Nat.le_refl _, h, .inl hm⟩
theorem idx_spec (T : List ByteArray) (base : ByteArray) : cand base (idx T base) ∉ T ∧ (∀ j, j < idx T base → cand base j ∈ T) ∧ idx T base ≤ T.length := by
  obtain ⟨_, h2, h3⟩ := firstF_up T base (T.length + 1) 0 (fun j hj => by omega)
  change ∀ j, j < idx T base → cand base j ∈ T at h2
  have hle : idx T base ≤ T.length := by
    have hn : ((List.range (idx T base)).map (cand base)).Nodup := by
      rw [List.nodup_iff_pairwise_ne, List.pairwise_map]
      exact List.Pairwise.imp (fun hab e => hab (cand_inj base _ _ e)) (List.nodup_iff_pairwise_ne.1 List.nodup_range)
    have := nodup_len _ T hn (fun x hx => by
      obtain ⟨j, hj, rfl⟩ := List.mem_map.1 hx
      exact h2 j (List.mem_range.1 hj))
    simpa using this
  refine ⟨?_, h2, hle⟩
  rcases h3 with h3 | h3
  · exact h3
  · change idx T base = 0 + (T.length + 1) at h3
    omega
theorem idx_eq (T : List ByteArray) (base : ByteArray) (r : Nat) (h1 : cand base r ∉ T) (h2 : ∀ j, j < r → cand base j ∈ T) : idx T base = r := by
  obtain ⟨k1, k2, _⟩ := idx_spec T base
  rcases Nat.lt_trichotomy (idx T base) r with h | h | h
  · exact absurd (h2 _ h) k1
  · exact h
  · exact absurd (k2 _ h) h1
theorem idx_congr (T T' : List ByteArray) (base : ByteArray) (h : ∀ x, x ∈ T ↔ x ∈ T') : idx T base = idx T' base := by
  obtain ⟨k1, k2, _⟩ := idx_spec T' base
  exact idx_eq T base _ (fun e => k1 ((h _).1 e)) (fun j hj => (h _).2 (k2 j hj))
theorem idx_lt (T : List ByteArray) (base : ByteArray) (j : Nat) (h : j ≤ idx T base) : cand base j ∈ T ↔ j < idx T base := by
  obtain ⟨k1, k2, _⟩ := idx_spec T base
  constructor
  · intro hm
    rcases Nat.lt_or_ge j (idx T base) with h' | h'
    · exact h'
    · have : j = idx T base := by omega
      exact absurd (this ▸ hm) k1
  · exact k2 j

/-- The anchor of a base where the texts T are used. -/
def nextA (T : List ByteArray) (base : ByteArray) : ByteArray := cand base (idx T base)
/-- The anchors of bases, one after the other. -/
def allG : List ByteArray → List ByteArray → List ByteArray
  | [], _ => []
  | b :: bs, T => nextA T b :: allG bs (nextA T b :: T)
def allA (l used : List ByteArray) : List ByteArray := allG (l.map slugS) used
theorem allG_congr : ∀ (bs T T' : List ByteArray), (∀ x, x ∈ T ↔ x ∈ T') → allG bs T = allG bs T'
  | [], _, _, _ => rfl
  | b :: bs, T, T', h => by
    have e : nextA T b = nextA T' b := by unfold nextA; rw [idx_congr T T' b h]
    rw [allG, allG, e, allG_congr bs (nextA T' b :: T) (nextA T' b :: T') (fun x => by simp [h x])]
theorem allG_len : ∀ (bs T : List ByteArray), (allG bs T).length = bs.length
  | [], _ => rfl
  | b :: bs, T => by rw [allG, List.length_cons, allG_len bs]; rfl
/-- What the loop has collected after k rounds, and with which texts in use. -/
def outTo (bs T : List ByteArray) (k : Nat) : List ByteArray := (allG bs T).take k
theorem allG_get : ∀ (bs T : List ByteArray) (k : Nat) (b : ByteArray), bs[k]? = some b → (allG bs T)[k]? = some (nextA ((outTo bs T k).reverse ++ T) b)
  | [], _, _, _, h => by simp at h
  | x :: bs, T, 0, b, h => by simp at h; subst h; simp [allG, outTo]
  | x :: bs, T, k + 1, b, h => by
    have h' : bs[k]? = some b := by simpa using h
    have ih := allG_get bs (nextA T x :: T) k b h'
    rw [allG, List.getElem?_cons_succ, ih]
    simp only [outTo, allG, List.take_succ_cons, List.reverse_cons, List.append_assoc, List.cons_append, List.nil_append]
theorem outTo_succ (bs T : List ByteArray) (k : Nat) (b : ByteArray) (h : bs[k]? = some b) : outTo bs T (k + 1) = outTo bs T k ++ [nextA ((outTo bs T k).reverse ++ T) b] := by
  unfold outTo
  rw [List.take_add_one, allG_get bs T k b h]
  rfl
theorem outTo_all (bs T : List ByteArray) : outTo bs T bs.length = allG bs T := by
  unfold outTo
  rw [← allG_len bs T, List.take_length]
theorem outTo_len (bs T : List ByteArray) (k : Nat) (h : k ≤ bs.length) : (outTo bs T k).length = k := by
  unfold outTo; rw [List.length_take, allG_len]; omega
end Go.Proofs.YtjolhiofllpejaaDoor
