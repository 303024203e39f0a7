/- The contract of publisherref01.at: the code point at a byte is the one that UTF-8 decoding gives. -/
import Derived.Test.YtjolhiofllpejaaDoorChars
import Derived.Test.YtjolhiofllpejaaDoorMem
import Derived.RegionTactic
import Derived.ChangeAlike
namespace Go.Proofs.YtjolhiofllpejaaDoor
open Go.RowKit
set_option linter.unusedVariables false

def PairIs (f : Nat) (s : ByteArray) (i : Int) (d1 d2 : Int) : Prop :=
  ∀ w : World, Calls Tryd.prog f #[.string s, .int .i64 i] w fun e w' => e = .returned (.agg #[.int .i64 d1, .int .i64 d2]) ∧ Below w.heap.size w w'

theorem bcell {W w1 : World} (hb : Below W.heap.size W w1) : (∀ b o, b < W.heap.size → w1.cell? ⟨b, o, none⟩ = W.cell? ⟨b, o, none⟩) ∧ (∀ b o, b < W.heap.size → w1.frozen? ⟨b, o, none⟩ = W.frozen? ⟨b, o, none⟩) :=
  ⟨fun b o h => hb.cell (p := ⟨b, o, none⟩) h, fun b o h => hb.frozen (p := ⟨b, o, none⟩) h⟩

set_option maxRecDepth 100000 in
set_option maxHeartbeats 400000 in
theorem at_any (s : ByteArray) (i : Nat) (hs : s.size ≤ 140737488355328) (hi : i < s.size) :
    PairIs 52 s i (Utf8.decode s i).1 (Utf8.decode s i).2 := by
  intro w
  have hbl := bt_lt s i
  have hw : wrap64 (s[i].toNat : Int) = (bt s i : Int) := by rw [bt_eq s i hi]; exact IntWalk.wrap64_in _ ⟨by omega, by omega⟩
  by_cases c1 : bt s i < 128
  · rw [dec_one s i c1]
    go_enter Tryd.func52, Tryd.ntmps52
    go_wp2
    exact bodyPost_ret (v := .agg #[.int .i64 (bt s i), .int .i64 1]) (by simp [results, Tryd.results52, go_sem]) rfl ⟨rfl, (Below.refl _ _).alloc (Nat.le_refl _) _⟩
  by_cases c2 : bt s i < 194
  · rw [dec_bad s i (by omega) (.inl c2)]
    go_enter Tryd.func52, Tryd.ntmps52
    go_wp2
    exact bodyPost_ret (v := .agg #[.int .i64 65533, .int .i64 1]) (by simp [results, Tryd.results52, go_sem]) rfl ⟨rfl, (Below.refl _ _).alloc (Nat.le_refl _) _⟩
  by_cases c3 : bt s i ≤ 223
  · obtain ⟨D1, D2⟩ := dec_two s i hi (by omega) c3
    have x1 := moreV_bd s (i + 1) 128 191 (by omega)
    have M1 := more_is s (i + 1) 128 191 (↑i + 1) (by omega) hs (by omega) (by omega) (by omega)
    generalize moreV s (i + 1) 128 191 = x at *
    generalize Utf8.decode s i = d at *
    obtain ⟨d1, d2⟩ := d
    have E1 := Lib.hid D1
    have E2 := Lib.hid D2
    clear D1 D2
    go_enter Tryd.func52, Tryd.ntmps52
    go_wp2_with fail
    refine (M1 _).mono ?_
    rintro e w' ⟨rfl, rfl⟩
    by_cases hx : x < 0
    · obtain ⟨rfl, rfl⟩ := Prod.mk.inj (E1.out hx)
      go_wp2
      exact bodyPost_ret (v := .agg #[.int .i64 65533, .int .i64 1]) (by simp [results, Tryd.results52, go_sem]) rfl ⟨rfl, (Below.refl _ _).alloc (Nat.le_refl _) _⟩
    · go_wp2
      refine bodyPost_ret (v := .agg #[.int .i64 ((bt s i - 192) * 64 + x), .int .i64 2]) (by simp [results, Tryd.results52, go_sem]) rfl ⟨?_, (Below.refl _ _).alloc (Nat.le_refl _) _⟩
      obtain ⟨r1, r2⟩ := E2.out (by omega)
      exact pair_ret r1 (by simp only [r2]; rfl)
  by_cases c4 : bt s i ≤ 239
  · have T := (three_any s i · hs hi (by omega) c4)
    generalize Utf8.decode s i = d at *
    obtain ⟨d1, d2⟩ := d
    have T := Lib.hid T
    go_enter Tryd.func52, Tryd.ntmps52
    go_wp2_with fail
    refine (T.out _).mono ?_
    rintro e w' ⟨rfl, hb⟩
    obtain ⟨hc, hf⟩ := bcell hb
    go_wp2
    refine bodyPost_ret (v := .agg #[.int .i64 d1, .int .i64 d2]) (by simp [results, Tryd.results52, go_sem, hc]) rfl ⟨rfl, ?_⟩
    exact ((((Below.refl _ _).alloc (Nat.le_refl _) _).trans (hb.mono (by simp))).setCell (by simp) _).setCell (by simp) _
  by_cases c5 : bt s i ≤ 244
  · have T := (four_any s i · hs hi (by omega) c5)
    generalize Utf8.decode s i = d at *
    obtain ⟨d1, d2⟩ := d
    have T := Lib.hid T
    go_enter Tryd.func52, Tryd.ntmps52
    go_wp2_with fail
    refine (T.out _).mono ?_
    rintro e w' ⟨rfl, hb⟩
    obtain ⟨hc, hf⟩ := bcell hb
    go_wp2
    refine bodyPost_ret (v := .agg #[.int .i64 d1, .int .i64 d2]) (by simp [results, Tryd.results52, go_sem, hc]) rfl ⟨rfl, ?_⟩
    exact ((((Below.refl _ _).alloc (Nat.le_refl _) _).trans (hb.mono (by simp))).setCell (by simp) _).setCell (by simp) _
  rw [dec_bad s i (by omega) (.inr (by omega))]
  go_enter Tryd.func52, Tryd.ntmps52
  go_wp2
  exact bodyPost_ret (v := .agg #[.int .i64 65533, .int .i64 1]) (by simp [results, Tryd.results52, go_sem]) rfl ⟨rfl, (Below.refl _ _).alloc (Nat.le_refl _) _⟩

end Go.Proofs.YtjolhiofllpejaaDoor
