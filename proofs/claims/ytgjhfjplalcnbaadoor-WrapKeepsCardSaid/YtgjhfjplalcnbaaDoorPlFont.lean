/- The widths of code points and of strings, plainly. -/
import Derived.Test.YtgjhfjplalcnbaaDoorPlWords
namespace Go.Proofs.YtgjhfjplalcnbaaDoor

def asciiW : List Nat := [30, 25, 50, 50, 50, 85, 70, 25, 30, 30, 50, 50, 25, 30, 25, 30,
  50, 50, 50, 50, 50, 50, 50, 50, 50, 50, 25, 25, 50, 50, 50, 50,
  85, 70, 70, 70, 70, 70, 70, 70, 70, 30, 50, 70, 70, 85, 70, 70,
  70, 70, 70, 70, 70, 70, 70, 85, 70, 70, 70, 30, 30, 30, 50, 50,
  25, 50, 50, 50, 50, 50, 30, 50, 50, 25, 25, 50, 25, 85, 50, 50,
  50, 50, 30, 50, 30, 50, 50, 85, 50, 50, 50, 50, 25, 50, 50]
def wideB (c : Nat) : Bool := decide ((4352 ≤ c ∧ c ≤ 4447) ∨ (11904 ≤ c ∧ c ≤ 42191) ∨ (44032 ≤ c ∧ c ≤ 55203) ∨ (63744 ≤ c ∧ c ≤ 64255) ∨ (65072 ≤ c ∧ c ≤ 65103) ∨ (65281 ≤ c ∧ c ≤ 65376))
def widthC (c : Nat) : Nat :=
  if c < 32 ∨ c = 127 ∨ (55296 ≤ c ∧ c ≤ 57343) ∨ 1114111 < c then 0
  else if c < 127 then asciiW.getD (c - 32) 0
  else if wideB c = true then 100 else 60

def amongB (c : Nat) (l : List UInt8) : Bool := l.any fun b => b.toNat == c
def am1 : List UInt8 := [33, 39, 44, 46, 58, 59, 124, 96, 105, 106, 108]
def am2 : List UInt8 := [32, 40, 41, 45, 47, 91, 92, 93, 102, 114, 116, 73]
def am3 : List UInt8 := [109, 119, 77, 87, 37, 64]
theorem ascii_among : ∀ k : Fin 95, asciiW.getD k.val 0 = if amongB (k.val + 32) am1 then 25 else if amongB (k.val + 32) am2 then 30 else if amongB (k.val + 32) am3 then 85 else if (65 ≤ k.val + 32 ∧ k.val + 32 ≤ 90 ∧ k.val + 32 ≠ 74) ∨ k.val + 32 = 38 then 70 else 50 := by decide
theorem ascii_le : ∀ k : Fin 95, 25 ≤ asciiW.getD k.val 0 ∧ asciiW.getD k.val 0 ≤ 85 := by decide
theorem widthC_le (c : Nat) : widthC c ≤ 100 := by
  unfold widthC
  split
  · omega
  · split
    · rename_i h1 h2
      have := ascii_le ⟨c - 32, by omega⟩
      simp only at this
      omega
    · split <;> omega
theorem widthC_ascii (c : Nat) (h : 32 ≤ c) (h' : c < 127) : widthC c = asciiW.getD (c - 32) 0 := by
  unfold widthC; rw [if_neg (by omega), if_pos h']
theorem widthC_zero (c : Nat) (h : c < 32 ∨ c = 127 ∨ (55296 ≤ c ∧ c ≤ 57343) ∨ 1114111 < c) : widthC c = 0 := by
  unfold widthC; rw [if_pos h]
theorem widthC_high (c : Nat) (h : 127 < c) (h1 : ¬ (55296 ≤ c ∧ c ≤ 57343)) (h2 : c ≤ 1114111) : widthC c = if wideB c = true then 100 else 60 := by
  unfold widthC; rw [if_neg (by omega), if_neg (by omega)]

/-- The width of a string from the byte i on. -/
def wideFrom (s : ByteArray) : Nat → Nat → Nat
  | 0, _ => 0
  | f + 1, i => if i < s.size then widthC (Utf8.decode s i).1 + wideFrom s f (i + (Utf8.decode s i).2) else 0
def wideS (s : ByteArray) : Nat := wideFrom s s.size 0
theorem wideFrom_end (s : ByteArray) (f i : Nat) (h : ¬ i < s.size) : wideFrom s f i = 0 := by cases f <;> simp [wideFrom, h]
theorem wideFrom_on (s : ByteArray) (f i : Nat) (h : i < s.size) : wideFrom s (f + 1) i = widthC (Utf8.decode s i).1 + wideFrom s f (i + (Utf8.decode s i).2) := by rw [wideFrom, if_pos h]
theorem wideFrom_le (s : ByteArray) : ∀ f i, wideFrom s f i ≤ 100 * f
  | 0, _ => by simp [wideFrom]
  | f + 1, i => by
    rw [wideFrom]; split
    · have := widthC_le (Utf8.decode s i).1
      have := wideFrom_le s f (i + (Utf8.decode s i).2)
      omega
    · omega
theorem wideS_le (s : ByteArray) : wideS s ≤ 100 * s.size := wideFrom_le s s.size 0
end Go.Proofs.YtgjhfjplalcnbaaDoor
