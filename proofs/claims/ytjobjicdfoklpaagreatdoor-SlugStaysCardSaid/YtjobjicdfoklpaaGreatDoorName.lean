/- Contracts of attr.letter, inName, wordEnd, Name. -/
import Derived.Test.YtjobjicdfoklpaaGreatDoorCharsC
namespace Go.Proofs.YtjobjicdfoklpaaGreatDoor
open Go.RowKit
set_option linter.unusedVariables false
set_option linter.unusedSimpArgs false

def ltrC (c : Nat) : Bool := inR c 97 122 || inR c 65 90
def nmC (c : Nat) : Bool := (decide (c = 45) || decide (c = 95) || decide (c = 46) || decide (c = 58)) || (ltrC c || inR c 48 57)

set_option maxRecDepth 100000 in
set_option maxHeartbeats 1000000 in
theorem aLetter_any (c : Nat) (w : World) (hc : c < 256) :
    Calls Tryz.prog 118 #[.int .u8 (c : Int)] w fun e w' => e = .returned (.bool (ltrC c)) ∧ w = w' := by
  go_enter Tryz.func118, Tryz.ntmps118
  go_wp2
  all_goals
    go_ret
    refine ⟨ret_bool ?_, rfl⟩
    unfold ltrC inR
    rw [Bool.eq_iff_iff]
    simp
    (try omega)

set_option maxRecDepth 100000 in
set_option maxHeartbeats 1000000 in
theorem inName_any (c : Nat) (w : World) (hc : c < 256) :
    Calls Tryz.prog 169 #[.int .u8 (c : Int)] w fun e w' => e = .returned (.bool (nmC c)) ∧ w = w' := by
  have LT := Lib.hid (fun w => aLetter_any c w hc)
  by_cases h : c = 45 ∨ c = 95 ∨ c = 46 ∨ c = 58
  · have hv : nmC c = true := by unfold nmC; rcases h with h | h | h | h <;> simp [h]
    rw [hv]
    clear hv
    rcases h with rfl | rfl | rfl | rfl
    all_goals
      go_enter Tryz.func169, Tryz.ntmps169
      go_wp2
      go_ret
      exact ⟨rfl, rfl⟩
  · have e1 : ((c : Int) == 45) = false := by rw [beq_eq_false_iff_ne]; omega
    have e2 : ((c : Int) == 95) = false := by rw [beq_eq_false_iff_ne]; omega
    have e3 : ((c : Int) == 46) = false := by rw [beq_eq_false_iff_ne]; omega
    have e4 : ((c : Int) == 58) = false := by rw [beq_eq_false_iff_ne]; omega
    have hv : nmC c = (ltrC c || inR c 48 57) := by
      unfold nmC
      rw [show (decide (c = 45) || decide (c = 95) || decide (c = 46) || decide (c = 58)) = false by simp; omega]
      rfl
    have HV := Lib.hid hv
    generalize nmC c = V at *
    clear hv h
    cases hl : ltrC c with
    | true =>
      rw [hl] at LT
      go_enter Tryz.func169, Tryz.ntmps169
      go_wp2_with fail
      refine (LT.out _).mono ?_
      rintro e w1 ⟨rfl, rfl⟩
      go_wp2
      go_ret
      exact ⟨by rw [HV.out, hl]; rfl, rfl⟩
    | false =>
      rw [hl] at LT
      rw [hl] at HV
      by_cases h48 : 48 ≤ c
      · have q1 : decide ((48 : Int) ≤ (c : Int)) = true := by simp; omega
        go_enter Tryz.func169, Tryz.ntmps169
        go_wp2_with fail
        refine (LT.out _).mono ?_
        rintro e w1 ⟨rfl, rfl⟩
        go_wp2
        go_ret
        refine ⟨?_, rfl⟩
        rw [HV.out]
        refine ret_bool ?_
        rw [Bool.eq_iff_iff]
        simp [inR]
        omega
      · have q1 : decide ((48 : Int) ≤ (c : Int)) = false := by simp; omega
        go_enter Tryz.func169, Tryz.ntmps169
        go_wp2_with fail
        refine (LT.out _).mono ?_
        rintro e w1 ⟨rfl, rfl⟩
        go_wp2
        go_ret
        refine ⟨?_, rfl⟩
        rw [HV.out]
        refine ret_bool ?_
        rw [Bool.eq_iff_iff]
        simp [inR]
        omega

def nmB (c : UInt8) : Bool := nmC c.toNat
theorem tw_len (p : UInt8 → Bool) : ∀ (l : List UInt8) (k : Nat), k ≤ l.length → (∀ j x, j < k → l[j]? = some x → p x = true) → (∀ x, l[k]? = some x → p x = false) → (l.takeWhile p).length = k
  | [], k, h, _, _ => by simp at h; subst h; rfl
  | x :: l, 0, _, _, h2 => by rw [List.takeWhile_cons, h2 x rfl]; rfl
  | x :: l, k + 1, h, h1, h2 => by
    rw [List.takeWhile_cons, h1 0 x (by omega) rfl]
    simp
    exact tw_len p l k (by simpa using h) (fun j y hj hy => h1 (j + 1) y (by omega) (by simpa using hy)) (fun y hy => h2 y (by simpa using hy))
def wEnd0 (s : ByteArray) : Nat := (s.data.toList.takeWhile nmB).length
theorem byte_get (s : ByteArray) (k : Nat) (h : k < s.size) : s.data.toList[k]? = some s[k] := by
  rw [List.getElem?_eq_getElem (by simpa using h)]; rfl

set_option maxRecDepth 100000 in
set_option maxHeartbeats 1000000 in
theorem wordEnd_any (s : ByteArray) (w : World) (hs : s.size ≤ 1000000000) :
    Calls Tryz.prog 119 #[.string s, .int .i64 0] w fun e w' => e = .returned (.int .i64 (wEnd0 s : Nat)) ∧ w = w' := by
  obtain ⟨V, hV⟩ : ∃ V, V = wEnd0 s := ⟨_, rfl⟩
  rw [← hV]
  have HV := Lib.hid hV
  clear hV
  go_enter Tryz.func119, Tryz.ntmps119
  go_wp2
  go_loop [1] (fun vi => ∃ k : Nat, k ≤ s.size ∧ vi = .int .i64 k ∧ ∀ j x, j < k → s.data.toList[j]? = some x → nmB x = true) (fun i => s.size - (intOf i).toNat)
  case atStart => exact ⟨0, Nat.zero_le _, rfl, fun j x hj => by omega⟩
  case round =>
    obtain ⟨k, hk, rfl, hall⟩ := hrel
    have HA := Lib.hid hall
    clear hall
    by_cases hlt : k < s.size
    · have hgl := UInt8.toNat_lt s[k]
      have IN := Lib.hid (fun w => inName_any s[k].toNat w hgl)
      have HG := Lib.hid (byte_get s k hlt)
      cases hn : nmC s[k].toNat with
      | true =>
        rw [hn] at IN
        have HN := Lib.hid hn
        clear hn
        go_wp2_with fail
        refine (IN.out _).mono ?_
        rintro e w1 ⟨rfl, rfl⟩
        go_wp2
        go_round
        case rel =>
          refine ⟨k + 1, by omega, by go_num, fun j x hj hx => ?_⟩
          rcases Nat.lt_or_ge j k with h | h
          · exact HA.out j x h hx
          · have : j = k := by omega
            subst this
            rw [HG.out] at hx
            obtain rfl := Option.some.inj hx
            exact HN.out
        case measure => simp [intOf]; omega
      | false =>
        rw [hn] at IN
        have hw : V = k := by
          rw [HV.out]
          exact tw_len nmB _ k (by simpa using hk) HA.out (fun x hx => by rw [HG.out] at hx; obtain rfl := Option.some.inj hx; exact hn)
        have HW := Lib.hid hw
        clear hn hw
        go_wp2_with fail
        refine (IN.out _).mono ?_
        rintro e w1 ⟨rfl, rfl⟩
        go_wp2
        go_ret
        exact ⟨by rw [HW.out]; rfl, rfl⟩
    · have hw : V = k := by
        rw [HV.out]
        refine tw_len nmB _ k (by simpa using hk) HA.out (fun x hx => ?_)
        have := (List.getElem?_eq_some_iff.1 hx).1
        have e : s.data.toList.length = s.size := by simp
        omega
      have HW := Lib.hid hw
      clear hw
      go_wp2
      go_ret
      exact ⟨by rw [HW.out]; rfl, rfl⟩

/-- Is a text a name? -/
def nameOk (s : ByteArray) : Bool := decide (1 ≤ s.size) && decide (s.size ≤ 60) && (match s.data.toList with | [] => false | c :: _ => ltrC c.toNat) && decide (wEnd0 s = s.size)

set_option maxRecDepth 100000 in
set_option maxHeartbeats 1000000 in
theorem name_any (s : ByteArray) (w : World) (hs : s.size ≤ 1000000000) :
    Calls Tryz.prog 68 #[.string s] w fun e w' => e = .returned (.bool (nameOk s)) ∧ w = w' := by
  by_cases h0 : s.size = 0
  · have hv : nameOk s = false := by unfold nameOk; simp [h0]
    rw [hv]
    have e0 : ((s.size : Int) == 0) = true := by simp [h0]
    clear hv h0
    go_enter Tryz.func68, Tryz.ntmps68
    go_wp2
    go_ret
    exact ⟨rfl, rfl⟩
  have e0 : ((s.size : Int) == 0) = false := by rw [beq_eq_false_iff_ne]; omega
  by_cases h60 : 60 < s.size
  · have hv : nameOk s = false := by unfold nameOk; simp; omega
    rw [hv]
    have e1 : decide ((60 : Int) < (s.size : Int)) = true := by simp; omega
    clear hv
    go_enter Tryz.func68, Tryz.ntmps68
    go_wp2
    go_ret
    exact ⟨rfl, rfl⟩
  have e1 : decide ((60 : Int) < (s.size : Int)) = false := by simp; omega
  have hp : 0 < s.size := by omega
  have hg := byte_get s 0 hp
  obtain ⟨c, hc⟩ : ∃ c, s[0] = c := ⟨_, rfl⟩
  rw [hc] at hg
  have hcl := UInt8.toNat_lt c
  have LT := Lib.hid (fun w => aLetter_any c.toNat w hcl)
  have WE := Lib.hid (fun w => wordEnd_any s w hs)
  have hl : s.data.toList = c :: s.data.toList.tail := by
    cases h : s.data.toList with
    | nil => rw [h] at hg; simp at hg
    | cons a l => rw [h] at hg; simp at hg; rw [hg]; rfl
  have hv : nameOk s = (ltrC c.toNat && decide (wEnd0 s = s.size)) := by
    unfold nameOk
    rw [hl, decide_eq_true (show 1 ≤ s.size by omega), decide_eq_true (show s.size ≤ 60 by omega)]
    rfl
  have HV := Lib.hid hv
  generalize nameOk s = V at *
  generalize wEnd0 s = E at *
  clear hv hl hg
  cases hlt : ltrC c.toNat with
  | false =>
    rw [hlt] at LT
    rw [hlt] at HV
    go_enter Tryz.func68, Tryz.ntmps68
    go_wp2_with fail
    refine (LT.out _).mono ?_
    rintro e w1 ⟨rfl, rfl⟩
    go_wp2
    go_ret
    exact ⟨by rw [HV.out]; rfl, rfl⟩
  | true =>
    rw [hlt] at LT
    rw [hlt] at HV
    go_enter Tryz.func68, Tryz.ntmps68
    go_wp2_with fail
    refine (LT.out _).mono ?_
    rintro e w1 ⟨rfl, rfl⟩
    go_wp2_with fail
    refine (WE.out _).mono ?_
    rintro e w1 ⟨rfl, rfl⟩
    go_wp2
    go_ret
    refine ⟨?_, rfl⟩
    rw [HV.out]
    refine ret_bool ?_
    rw [Bool.eq_iff_iff]
    simp
    (try omega)
end Go.Proofs.YtjobjicdfoklpaaGreatDoor
