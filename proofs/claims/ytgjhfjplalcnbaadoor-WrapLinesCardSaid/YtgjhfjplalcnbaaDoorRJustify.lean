/- The contract of publisherref38.Justify: the plain justified line. -/
import Derived.Test.YtgjhfjplalcnbaaDoorJustify
namespace Go.Proofs.YtgjhfjplalcnbaaDoor
open Go.RowKit
set_option linter.unusedVariables false

set_option maxRecDepth 100000 in
theorem joined_empty (w : World) (a : Option Addr) (cap : Nat) (each more : Int) :
    Calls Tryd.prog 23 #[.slice a 0 cap, .int .i64 each, .int .i64 more] w fun e w' => e = .returned (.string ⟨#[]⟩) ∧ w = w' := by
  go_enter Tryd.func23, Tryd.ntmps23
  go_wp2
  refine wp_loop_rounds 1 ?_
  rw [rounds_succ]
  go_wp2
  go_ret
  exact ⟨rfl, rfl⟩

/-- joined at whatever slice of strings. -/
theorem joined_all (w : World) (v : Value) (l : List ByteArray) (each more : Nat) (hs : Sees w 1 v l.length (l.map Value.string)) (hn : l.length ≤ 100000) (he : each ≤ 1000000) (hmo : more ≤ 1000000) (hsz : (jB (gapOf each more) l).size ≤ 1000000000) :
    Calls Tryd.prog 23 #[v, .int .i64 each, .int .i64 more] w fun e w' => e = .returned (.string (jB (gapOf each more) l)) ∧ w = w' := by
  obtain ⟨-, a, cap, rfl, p1, p2, p3⟩ := hs
  rcases p3 with p3 | ⟨b, off, rfl, p3⟩
  · obtain rfl := List.length_eq_zero_iff.1 p3
    exact joined_empty w a cap each more
  · exact joined_any w b off cap l each more hn p1 he hmo (fun j x hx => p3 j _ (by simp [hx])) hsz

set_option maxRecDepth 100000 in
set_option maxHeartbeats 1000000 in
theorem rjustify_any (s : ByteArray) (wd : Int) (w : World) (hs : s.size ≤ 400) (hwd : wd ≤ 40000) (hlo : -9223372036854775808 ≤ wd) :
    Calls Tryd.prog 14 #[.string s, .int .i64 wd] w fun e w' => e = .returned (.string (justS s wd wideS)) ∧ Below w.heap.size w w' := by
  have hmin : min wd 1048576 = wd := by omega
  have hwl := words_len s
  have hj1 := jB_size_le (fun _ => 1) 1 (fun _ => Nat.le_refl _) s hs
  have hj2 := fun k n (hk : k ≤ 1400) => jB_size_le (gapJ k n) 1402 (gapJ_le k n 1400 hk) s hs
  have W0 := Lib.hid (rwords_any s w (by omega))
  obtain ⟨V, hV⟩ : ∃ V, V = justS s wd wideS := ⟨_, rfl⟩
  rw [← hV]
  unfold justS at hV
  have HV := Lib.hid hV
  have HJ2 := Lib.hid hj2
  clear hV hj2
  generalize words38 s = l at *
  have hone : jB (gapOf 1 0) l = jB (fun _ => 1) l := jB_congr l (fun j hj => by unfold gapOf; rw [if_neg (by omega)])
  go_enter Tryd.func14, Tryd.ntmps14
  go_wp2_with fail
  refine W0.out.mono ?_
  rintro e w1 ⟨v, rfl, hown, hb1⟩
  have hse := Sees.of_own hown
  have HS := Lib.hid hse
  have J1 := Lib.hid (joined_all w1 v l 1 0 hse (by omega) (by omega) (by omega) (by rw [hone]; omega))
  rw [hone] at J1
  have HO := Lib.hid hone
  clear hown W0 hone
  obtain ⟨-, a, cap, rfl, p1, p2, -⟩ := hse
  unfold maxLen at p2
  have W3 := Lib.hid (fun w => rwideS_any (jB (fun _ => 1) l) w (by omega) (by omega))
  have hyb := wideS_le (jB (fun _ => 1) l)
  have W1 := Lib.hid (fun w => rwideS_any ⟨#[32]⟩ w (by decide) (by decide))
  rw [wide_sp] at W1
  generalize wideS (jB (fun _ => 1) l) = y at *
  generalize hS : jB (fun _ => 1) l = S at *
  have HSS := Lib.hid hS
  clear hS
  go_wp2_with fail
  refine J1.out.mono ?_
  rintro e w2 ⟨rfl, rfl⟩
  go_wp2_with fail
  refine (W3.out _).mono ?_
  rintro e w3 ⟨rfl, hb3⟩
  go_wp2_with fail
  refine (W1.out _).mono ?_
  rintro e w4 ⟨rfl, hb4⟩
  have hb14 := below_trans_size hb3 hb4
  have hb04 := below_trans_size hb1 hb14
  clear J1 W3 W1
  by_cases hl2 : l.length < 2
  · have hV2 : V = S := by rw [HV.out, if_pos hl2]
    subst hV2
    have e1 : decide ((l.length : Int) - 1 < 1) = true := by simp; omega
    go_wp2
    go_ret
    exact ⟨rfl, hb04⟩
  have e1 : decide ((l.length : Int) - 1 < 1) = false := by simp; omega
  obtain ⟨K, hK⟩ : ∃ K, K = addJ wd y := ⟨_, rfl⟩
  have hKb : K ≤ 1400 := by rw [hK]; exact addJ_le wd y hwd
  have hV2 : V = jB (gapJ K (l.length - 1)) l := by rw [HV.out, if_neg hl2, hK]
  have HV2 := Lib.hid hV2
  have HK := Lib.hid hK
  clear hV2 hK HV
  by_cases hneg : wd < 0
  · have hK0 : K = 0 := by rw [HK.out]; unfold addJ; split <;> omega
    have hVS : V = S := by
      rw [HV2.out, hK0, ← HSS.out]
      exact jB_congr l (fun j hj => gapJ_zero _ j hj)
    subst hVS
    have e3 : decide (wd < 0) = true := by simpa using hneg
    go_wp2
    go_ret
    exact ⟨rfl, hb04⟩
  have e3 : decide (wd < 0) = false := by simpa using hneg
  rw [show wrap64 (wd - (y : Int)) = wd - (y : Int) from IntWalk.wrap64_in _ ⟨by omega, by omega⟩]
  by_cases hr30 : wd - y < 30
  · have hK0 : K = 0 := by rw [HK.out]; unfold addJ; split <;> omega
    have hVS : V = S := by
      rw [HV2.out, hK0, ← HSS.out]
      exact jB_congr l (fun j hj => gapJ_zero _ j hj)
    subst hVS
    have e4 : decide (wd - (y : Int) < 30) = true := by simpa using hr30
    go_wp2
    go_ret
    exact ⟨rfl, hb04⟩
  · have e4 : decide (wd - (y : Int) < 30) = false := by simpa using hr30
    have hKq : (wd - (y : Int)) / 30 = (K : Int) := by
      rw [HK.out]; unfold addJ; rw [if_pos (by omega), Int.toNat_of_nonneg (by omega)]
    obtain ⟨n, hn⟩ : ∃ n, n = l.length - 1 := ⟨_, rfl⟩
    have hn2 : (l.length : Int) - 1 = (n : Int) := by omega
    have hn1 : 1 ≤ n := by omega
    rw [← hn] at HV2
    have hdv := Nat.div_le_self K n
    have hmd := Nat.mod_lt K (show n > 0 by omega)
    obtain ⟨Q, hQ⟩ : ∃ Q, Q = K / n := ⟨_, rfl⟩
    obtain ⟨R, hR⟩ : ∃ R, R = K % n := ⟨_, rfl⟩
    have hq : (K : Int) / (n : Int) = (Q : Int) := by rw [hQ]; rfl
    have hr : (K : Int) % (n : Int) = (R : Int) := by rw [hR]; rfl
    rw [← hQ] at hdv
    rw [← hR] at hmd
    have hgJ : gapJ K n = gapOf (1 + Q) R := by rw [gapJ_of, ← hQ, ← hR]
    have J2 : Hid (∀ w', Below w1.heap.size w1 w' → Calls Tryd.prog 23 #[.slice a l.length cap, .int .i64 (1 + (Q : Int)), .int .i64 R] w' fun e w'' => e = .returned (.string V) ∧ w'' = w') := fun w' hb => by
      have h := joined_all w' (.slice a l.length cap) l (1 + Q) R (HS.out.below hb) (by omega) (by omega) (by omega) (by rw [← hgJ]; have := HJ2.out K n hKb; omega)
      rw [← hgJ, ← HV2.out] at h
      rw [show ((1 + Q : Nat) : Int) = 1 + (Q : Int) from by omega] at h
      exact h.mono fun e w'' ⟨h1, h2⟩ => ⟨h1, h2.symm⟩
    have h0 : 0 ≤ wd - (y : Int) := by omega
    have HN := Lib.hid hn
    have HN2 := Lib.hid hn2
    clear hQ hR hgJ hn HJ2
    go_wp2_with fail
    rw [hKq]
    have s1 : IntKind.i64.wrap (1 + (Q : Int)) = 1 + (Q : Int) := IntWalk.i64_in _ (by omega)
    have hb4' : ∀ q, Below w1.heap.size w1 (w4.drewN q) := fun q => below_dN hb14 q
    have HB4 := Lib.hid hb4'
    have n0 : ((n : Int) == 0) = false := by rw [beq_eq_false_iff_ne]; omega
    clear hb4'
    go_quiet ((go_at_call 23; exact Calls.quiet_of_same (J2.out _ (HB4.out _))))
    go_wp2
    go_ret
    exact ⟨rfl, below_dN hb04 _⟩
end Go.Proofs.YtgjhfjplalcnbaaDoor
