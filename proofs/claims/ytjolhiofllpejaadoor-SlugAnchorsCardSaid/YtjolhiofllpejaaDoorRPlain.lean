/- The contract of publisherref04.Plain. -/
import Derived.Test.YtjolhiofllpejaaDoorDocPl
import Derived.WalkLawsBesides
import Derived.Lib.Strings
namespace Go.Proofs.YtjolhiofllpejaaDoor
open Go.RowKit
set_option linter.unusedVariables false

/-- The kinds that Plain tells apart. -/
theorem plain_kinds (k : Int) : (k = 1 ∨ k = 4 ∨ k = 5) ∨ (k = 2 ∨ k = 3) ∨ (k = 6 ∨ k = 7 ∨ k = 8 ∨ k = 9 ∨ k = 10 ∨ k = 11) ∨ k = 16 ∨ (k ≠ 1 ∧ k ≠ 4 ∧ k ≠ 5 ∧ k ≠ 2 ∧ k ≠ 3 ∧ k ≠ 6 ∧ k ≠ 7 ∧ k ≠ 8 ∧ k ≠ 9 ∧ k ≠ 10 ∧ k ≠ 11 ∧ k ≠ 16) := by omega
theorem str_app (a b : List UInt8) : (⟨a.toArray⟩ : ByteArray) ++ ⟨b.toArray⟩ = ⟨(a ++ b).toArray⟩ := by
  apply ByteArray.ext; simp
theorem str_app' (a : List UInt8) (x : ByteArray) : (⟨a.toArray⟩ : ByteArray) ++ x = ⟨(a ++ x.data.toList).toArray⟩ := by
  apply ByteArray.ext; simp

set_option maxRecDepth 100000 in
set_option maxHeartbeats 4000000 in
theorem rPlain_any (n : Nat) : ∀ (l : List Inl) (ok : Nat → Prop) (v : Value) (w : World), Inl.szL l ≤ n → Rd ok w (inlsD l) [v] → (Inl.plainL l).length ≤ 1000000000 →
    Calls Tryd.prog 42 #[v] w fun e w' => e = .returned (.string ⟨(Inl.plainL l).toArray⟩) ∧ w = w' := by
  induction n using Nat.strongRecOn with
  | _ n ih =>
    intro l ok v w hn hrd hlen
    obtain ⟨a, cap, hv, hs⟩ := Rd.sl_open hrd
    obtain rfl : v = .slice a l.length cap := by simpa using hv
    have hcap : l.length ≤ cap := by simpa using hs.le
    have hmx := hs.max
    have HS := Lib.hid hs
    have HZ : Hid (Inl.plainL (l.take 0) = []) := by show Inl.plainL [] = []; rw [Inl.plainL]
    have IH := Lib.hid ih
    clear hs hv hrd ih
    unfold maxLen at hmx
    go_enter Tryd.func42, Tryd.ntmps42
    go_wp2
    go_loop [3, 4] (fun v i => ∃ k : Nat, k ≤ l.length ∧ i = .int .i64 k ∧ v = .string ⟨(Inl.plainL (l.take k)).toArray⟩) (fun _ i => l.length - (intOf i).toNat)
    case atStart => exact ⟨0, Nat.zero_le _, rfl, by rw [HZ.out]⟩
    case round =>
      obtain ⟨k, hk, rfl, rfl⟩ := hrel
      by_cases hlt : k < l.length
      · obtain ⟨x, hx⟩ : ∃ x, l[k]? = some x := ⟨_, List.getElem?_eq_getElem hlt⟩
        obtain ⟨kd, t, d, ti, at_, ar, ci, ks⟩ := x
        obtain ⟨b, off, vc, vp, va, vi, vk, rfl, hok, hbl, hc, hR⟩ := inls_at HS.out hx
        obtain ⟨c0, c1, c2, -, -, -, -, -, -, c9⟩ := hc
        have hkids := hR.kids
        have hsz := Inl.szL_get l k _ hx
        rw [Inl.sz] at hsz
        have HT := Lib.hid (Inl.plainL_take l k _ hx)
        have hle := Inl.plain_le l k _ hx
        have ik := fun h => IH.out (Inl.szL ks) (by omega) ks ok vk w (Nat.le_refl _) hkids h
        have IK := Lib.hid ik
        clear hx hkids hR ik
        generalize hacc : Inl.plainL (l.take k) = acc at *
        generalize hacc' : Inl.plainL (l.take (k + 1)) = acc' at *
        have HA' := Lib.hid hacc'
        clear hacc hacc'
        rcases plain_kinds kd with (rfl | rfl | rfl) | (rfl | rfl) | (rfl | rfl | rfl | rfl | rfl | rfl) | rfl | h
        · have hp : (Inl.mk 1 t d ti at_ ar ci ks).plain = t.data.toList := by rw [Inl.plain]; simp
          rw [hp] at HT hle
          have hle2 : acc.length + t.size ≤ 1000000000 := by rw [Lib.size_eq]; omega
          clear hp hle IK
          go_wp2
          go_round
          case rel => exact ⟨k + 1, by omega, by go_num, by rw [HA'.out, HT.out, str_app']⟩
          case measure => simp [intOf]; omega
        · have hp : (Inl.mk 4 t d ti at_ ar ci ks).plain = t.data.toList := by rw [Inl.plain]; simp
          rw [hp] at HT hle
          have hle2 : acc.length + t.size ≤ 1000000000 := by rw [Lib.size_eq]; omega
          clear hp hle IK
          go_wp2
          go_round
          case rel => exact ⟨k + 1, by omega, by go_num, by rw [HA'.out, HT.out, str_app']⟩
          case measure => simp [intOf]; omega
        · have hp : (Inl.mk 5 t d ti at_ ar ci ks).plain = t.data.toList := by rw [Inl.plain]; simp
          rw [hp] at HT hle
          have hle2 : acc.length + t.size ≤ 1000000000 := by rw [Lib.size_eq]; omega
          clear hp hle IK
          go_wp2
          go_round
          case rel => exact ⟨k + 1, by omega, by go_num, by rw [HA'.out, HT.out, str_app']⟩
          case measure => simp [intOf]; omega
        · have hp : (Inl.mk 2 t d ti at_ ar ci ks).plain = [32] := by rw [Inl.plain]; simp
          rw [hp] at HT hle
          simp only [List.length_cons, List.length_nil] at hle
          clear hp IK
          go_wp2
          go_round
          case rel => exact ⟨k + 1, by omega, by go_num, by rw [HA'.out, HT.out]; exact congrArg Value.string (str_app acc [32])⟩
          case measure => simp [intOf]; omega
        · have hp : (Inl.mk 3 t d ti at_ ar ci ks).plain = [32] := by rw [Inl.plain]; simp
          rw [hp] at HT hle
          simp only [List.length_cons, List.length_nil] at hle
          clear hp IK
          go_wp2
          go_round
          case rel => exact ⟨k + 1, by omega, by go_num, by rw [HA'.out, HT.out]; exact congrArg Value.string (str_app acc [32])⟩
          case measure => simp [intOf]; omega
        · have hp : (Inl.mk 6 t d ti at_ ar ci ks).plain = Inl.plainL ks := by rw [Inl.plain]; simp
          rw [hp] at HT hle
          have IK2 := Lib.hid (IK.out (by omega))
          clear hp IK
          generalize Inl.plainL ks = pk at *
          go_wp2_with fail
          refine IK2.out.mono ?_
          rintro e w1 ⟨rfl, rfl⟩
          go_wp2
          go_round
          case rel => exact ⟨k + 1, by omega, by go_num, by rw [HA'.out, HT.out]; exact congrArg Value.string (str_app acc pk)⟩
          case measure => simp [intOf]; omega
        · have hp : (Inl.mk 7 t d ti at_ ar ci ks).plain = Inl.plainL ks := by rw [Inl.plain]; simp
          rw [hp] at HT hle
          have IK2 := Lib.hid (IK.out (by omega))
          clear hp IK
          generalize Inl.plainL ks = pk at *
          go_wp2_with fail
          refine IK2.out.mono ?_
          rintro e w1 ⟨rfl, rfl⟩
          go_wp2
          go_round
          case rel => exact ⟨k + 1, by omega, by go_num, by rw [HA'.out, HT.out]; exact congrArg Value.string (str_app acc pk)⟩
          case measure => simp [intOf]; omega
        · have hp : (Inl.mk 8 t d ti at_ ar ci ks).plain = Inl.plainL ks := by rw [Inl.plain]; simp
          rw [hp] at HT hle
          have IK2 := Lib.hid (IK.out (by omega))
          clear hp IK
          generalize Inl.plainL ks = pk at *
          go_wp2_with fail
          refine IK2.out.mono ?_
          rintro e w1 ⟨rfl, rfl⟩
          go_wp2
          go_round
          case rel => exact ⟨k + 1, by omega, by go_num, by rw [HA'.out, HT.out]; exact congrArg Value.string (str_app acc pk)⟩
          case measure => simp [intOf]; omega
        · have hp : (Inl.mk 9 t d ti at_ ar ci ks).plain = Inl.plainL ks := by rw [Inl.plain]; simp
          rw [hp] at HT hle
          have IK2 := Lib.hid (IK.out (by omega))
          clear hp IK
          generalize Inl.plainL ks = pk at *
          go_wp2_with fail
          refine IK2.out.mono ?_
          rintro e w1 ⟨rfl, rfl⟩
          go_wp2
          go_round
          case rel => exact ⟨k + 1, by omega, by go_num, by rw [HA'.out, HT.out]; exact congrArg Value.string (str_app acc pk)⟩
          case measure => simp [intOf]; omega
        · have hp : (Inl.mk 10 t d ti at_ ar ci ks).plain = Inl.plainL ks := by rw [Inl.plain]; simp
          rw [hp] at HT hle
          have IK2 := Lib.hid (IK.out (by omega))
          clear hp IK
          generalize Inl.plainL ks = pk at *
          go_wp2_with fail
          refine IK2.out.mono ?_
          rintro e w1 ⟨rfl, rfl⟩
          go_wp2
          go_round
          case rel => exact ⟨k + 1, by omega, by go_num, by rw [HA'.out, HT.out]; exact congrArg Value.string (str_app acc pk)⟩
          case measure => simp [intOf]; omega
        · have hp : (Inl.mk 11 t d ti at_ ar ci ks).plain = Inl.plainL ks := by rw [Inl.plain]; simp
          rw [hp] at HT hle
          have IK2 := Lib.hid (IK.out (by omega))
          clear hp IK
          generalize Inl.plainL ks = pk at *
          go_wp2_with fail
          refine IK2.out.mono ?_
          rintro e w1 ⟨rfl, rfl⟩
          go_wp2
          go_round
          case rel => exact ⟨k + 1, by omega, by go_num, by rw [HA'.out, HT.out]; exact congrArg Value.string (str_app acc pk)⟩
          case measure => simp [intOf]; omega
        · have hp : (Inl.mk 16 t d ti at_ ar ci ks).plain = d.data.toList := by rw [Inl.plain]; simp
          rw [hp] at HT hle
          have hle2 : acc.length + d.size ≤ 1000000000 := by rw [Lib.size_eq]; omega
          clear hp hle IK
          go_wp2
          go_round
          case rel => exact ⟨k + 1, by omega, by go_num, by rw [HA'.out, HT.out, str_app']⟩
          case measure => simp [intOf]; omega
        · obtain ⟨h1, h4, h5, h2, h3, h6, h7, h8, h9, h10, h11, h16⟩ := h
          have hp : (Inl.mk kd t d ti at_ ar ci ks).plain = [] := by rw [Inl.plain]; simp [h1, h2, h3, h4, h5, h6, h7, h8, h9, h10, h11, h16]
          rw [hp] at HT
          have f1 := beq_false_of_ne h1
          have f2 := beq_false_of_ne h2
          have f3 := beq_false_of_ne h3
          have f4 := beq_false_of_ne h4
          have f5 := beq_false_of_ne h5
          have f6 := beq_false_of_ne h6
          have f7 := beq_false_of_ne h7
          have f8 := beq_false_of_ne h8
          have f9 := beq_false_of_ne h9
          have f10 := beq_false_of_ne h10
          have f11 := beq_false_of_ne h11
          have f16 := beq_false_of_ne h16
          clear hp h1 h2 h3 h4 h5 h6 h7 h8 h9 h10 h11 h16 IK hle
          go_wp2
          go_round
          case rel => exact ⟨k + 1, by omega, by go_num, by rw [HA'.out, HT.out, List.append_nil]⟩
          case measure => simp [intOf]; omega
      · have hkl : k = l.length := by omega
        have hE : Inl.plainL (l.take k) = Inl.plainL l := by rw [hkl, List.take_length]
        have HE := Lib.hid hE
        clear hkl hE
        go_wp2
        go_ret
        exact ⟨by rw [← HE.out]; rfl, rfl⟩
end Go.Proofs.YtjolhiofllpejaaDoor
