/- The contract of publisherref38.joined: words with gaps between them. -/
import Derived.Test.YtgjhfjplalcnbaaDoorPlJoin
import Derived.Test.YtgjhfjplalcnbaaDoorCenter
import Derived.Deep.DeepCutAuto
import Derived.Outline
namespace Go.Proofs.YtgjhfjplalcnbaaDoor
open Go.RowKit
set_option linter.unusedVariables false

def gapOf (each more i : Nat) : Nat := if i ≤ more then each + 1 else each
theorem jB_round (g : Nat → Nat) (l : List ByteArray) (k : Nat) (x : ByteArray) (hk : l[k]? = some x) (m : Nat) (hm : m = if k = 0 then 0 else g k) :
    jB g (l.take k) ++ spacesB m ++ x = jB g (l.take (k + 1)) := by
  have hl : k < l.length := (List.getElem?_eq_some_iff.1 hk).1
  have ht : l.take (k + 1) = l.take k ++ [x] := by rw [List.take_add_one, hk]; rfl
  have hlen : (l.take k).length = k := by simp; omega
  rw [ht, jB_snoc, hlen, hm]
  congr 2
  unfold spacesB
  split <;> rfl
theorem jB_take_le (g : Nat → Nat) (l : List ByteArray) (k : Nat) : (jB g (l.take k)).size ≤ (jB g l).size := by
  have := jB_len_le g (l.drop k) (l.take k)
  rwa [List.take_append_drop] at this

set_option maxRecDepth 100000 in
set_option maxHeartbeats 1000000 in
theorem joined_any (w : World) (b off cap : Nat) (l : List ByteArray) (each more : Nat) (hn : l.length ≤ 100000) (hc : l.length ≤ cap) (he : each ≤ 1000000) (hmo : more ≤ 1000000) (hcells : ∀ j x, l[j]? = some x → w.cell? ⟨b, off + j, none⟩ = some (.string x)) (hsz : (jB (gapOf each more) l).size ≤ 1000000000) :
    Calls Tryd.prog 23 #[.slice (some ⟨b, off, none⟩) l.length cap, .int .i64 each, .int .i64 more] w fun e w' => e = .returned (.string (jB (gapOf each more) l)) ∧ w = w' := by
  have HC := Lib.hid hcells
  have HTL := Lib.hid (jB_take_le (gapOf each more) l)
  have HRD := Lib.hid (jB_round (gapOf each more) l)
  clear hcells
  go_enter Tryd.func23, Tryd.ntmps23
  go_wp2
  go_loop [7, 8] (fun v i => ∃ k : Nat, k ≤ l.length ∧ i = .int .i64 k ∧ v = .string (jB (gapOf each more) (l.take k))) (fun _ i => l.length - (intOf i).toNat)
  case atStart => exact ⟨0, Nat.zero_le _, rfl, rfl⟩
  case round =>
    obtain ⟨k, hk, rfl, rfl⟩ := hrel
    by_cases hlt : k < l.length
    · obtain ⟨x, hx⟩ : ∃ x, l[k]? = some x := ⟨_, List.getElem?_eq_getElem hlt⟩
      have c0 := HC.out k x hx
      obtain ⟨N, hN⟩ : ∃ N, N = gapOf each more k := ⟨_, rfl⟩
      have hNb : N ≤ 1000001 := by rw [hN]; unfold gapOf; split <;> omega
      have hk1 := HTL.out k
      have hk2 := HTL.out (k + 1)
      have HR := Lib.hid (HRD.out k x hx)
      rw [← hN] at HR
      generalize hJ : jB (gapOf each more) (l.take k) = J at *
      generalize hJ' : jB (gapOf each more) (l.take (k + 1)) = J' at *
      have HJ' := Lib.hid hJ'
      have HN := Lib.hid hN
      clear hN hx hJ hJ'
      go_upto_if 20 with (fail)
      go_cut [9] (fun s9 wx => s9 = .int .i64 N ∧ w = wx)
      case first =>
        by_cases hkm : k ≤ more
        · have e1 : decide ((k : Int) ≤ (more : Int)) = true := by simp; omega
          go_wp2_with fail
          go_meet
          exact ⟨by rw [HN.out, gapOf, if_pos hkm]; go_num, rfl⟩
        · have e1 : decide ((k : Int) ≤ (more : Int)) = false := by simp; omega
          go_wp2_with fail
          go_meet
          exact ⟨by rw [HN.out, gapOf, if_neg hkm], rfl⟩
      case rest =>
        obtain ⟨rfl, rfl⟩ := hcut
        go_wp2
        go_loop [7, 10] (fun v i => ∃ m : Nat, m ≤ N ∧ (k = 0 → m = 0) ∧ i = .int .i64 m ∧ v = .string (J ++ spacesB m)) (fun _ i => N - (intOf i).toNat)
        case atStart => exact ⟨0, Nat.zero_le _, fun _ => rfl, rfl, by rw [show J ++ spacesB 0 = J from by apply ByteArray.ext; simp [spacesB]]⟩
        case round =>
          obtain ⟨m, hm, hm0, rfl, rfl⟩ := hrel
          have HM := Lib.hid hm0
          clear hm0
          have hss : (J ++ spacesB m).size = J.size + m := by rw [ByteArray.size_append, spacesB_size]
          by_cases hgo : 0 < k ∧ m < N
          · obtain ⟨g1, g2⟩ := hgo
            have e1 : decide ((0 : Int) < (k : Int)) = true := by simp; omega
            have e2 : decide ((m : Int) < (N : Int)) = true := by simp; omega
            have e3 : decide (m < N) = true := by simp; omega
            have HS : Hid ((J ++ spacesB m) ++ ⟨#[32]⟩ = J ++ spacesB (m + 1)) := by
              show (J ++ spacesB m) ++ ⟨#[32]⟩ = J ++ spacesB (m + 1)
              rw [← spacesB_succ, ByteArray.append_assoc]
            go_wp2
            go_round
            case rel => exact ⟨m + 1, by omega, fun h => by omega, by go_num, by rw [← HS.out]⟩
            case measure => simp [intOf]; omega
          · have hmm : m = if k = 0 then 0 else N := by
              have := HM.out
              split <;> omega
            have HJ := Lib.hid (HR.out m hmm)
            have hsz3 : (J ++ spacesB m ++ x).size ≤ 1000000000 := by rw [HJ.out]; omega
            have hsz4 : (J ++ spacesB m).size + x.size ≤ 1000000000 := by rw [← ByteArray.size_append]; exact hsz3
            clear hsz3 hss
            have HG := Lib.hid hgo
            by_cases hk0 : 0 < k
            · have e1 : decide ((0 : Int) < (k : Int)) = true := by simp; omega
              have e2 : decide ((m : Int) < (N : Int)) = false := by simp; omega
              have e3 : decide (m < N) = false := by simp; omega
              clear hgo hmm
              go_wp2
              go_round
              case rel => exact ⟨k + 1, by omega, by go_num, by rw [HJ.out, ← HJ'.out]⟩
              case measure => simp [intOf]; omega
            · have e1 : decide ((0 : Int) < (k : Int)) = false := by simp; omega
              clear hgo hmm
              go_wp2
              go_round
              case rel => exact ⟨k + 1, by omega, by go_num, by rw [HJ.out, ← HJ'.out]⟩
              case measure => simp [intOf]; omega
    · have hkl : k = l.length := by omega
      have HT : Hid (l.take k = l) := by show l.take k = l; rw [hkl]; exact List.take_length
      clear hkl
      rw [HT.out]
      go_wp2
      go_ret
      exact ⟨rfl, rfl⟩
end Go.Proofs.YtgjhfjplalcnbaaDoor
