/- Proved: the tied card of publisherlaw21.SlugDiffers: it returns true at every two lists of strings, and the arguments read as before; the tables of the library are what the program's text lays. No other condition. -/
import Derived.Test.YtjolhiofllpejaaDoorLaidPow
import Derived.Test.YtjolhiofllpejaaDoorAwakeS
import Derived.Test.YtjolhiofllpejaaDoorRSlugOf
import Derived.Test.YtjolhiofllpejaaDoorShort
import Derived.Test.YtjolhiofllpejaaDoorOpen
import Derived.Test.YtjolhiofllpejaaDoorPlSlug
import Derived.Test.YtjolhiofllpejaaDoorCards
import Derived.Test.YtjolhiofllpejaaDoorTie
import Derived.ShutString
import Derived.Deep.QuietTactic
import Derived.BigQuiet
import Derived.ChangeOld
import Derived.SevenTiedAt
namespace Go.Proofs.YtjolhiofllpejaaDoor.LawSlugDiffers
open Go.ChangeShapes Go.WideShapes Go.ChangeAt Go.RowKit
open Go.ChangeMaps (open_string shut_string)
set_option linter.unusedVariables false

set_option maxRecDepth 100000 in
set_option maxHeartbeats 2000000 in
theorem walk (l used : List ByteArray) (v1 v2 : Value) (w : World) (h1 : Sees w 1 v1 l.length (l.map Value.string)) (h2 : Sees w 1 v2 used.length (used.map Value.string)) (ht : PT w) :
    Calls Tryd.prog 7 #[v1, v2] w fun e w' => e = .returned (.bool true) ∧ Below w.heap.size w w' := by
  have S1 := Lib.hid (short_any l v1 w h1)
  have S2 := Lib.hid (short_any used v2 w h2)
  have HT := Lib.hid ht
  have H1 := Lib.hid h1
  have H2 := Lib.hid h2
  obtain ⟨-, a, cap, rfl, -, -, -⟩ := h1
  obtain ⟨-, a2, cap2, rfl, -, -, -⟩ := h2
  clear ht
  cases e1 : shortB l with
  | false =>
    rw [e1] at S1
    clear S2 H1 H2
    go_enter Tryd.func7, Tryd.ntmps7
    go_wp2_with fail
    refine S1.out.mono ?_
    rintro e w1 ⟨rfl, rfl⟩
    go_wp2_with fail
    refine (awake_any _ HT.out).mono ?_
    rintro e w1 ⟨rfl, hb⟩
    go_wp2
    go_ret
    exact ⟨rfl, hb⟩
  | true =>
  rw [e1] at S1
  cases e2 : shortB used with
  | false =>
    rw [e2] at S2
    clear H1 H2
    go_enter Tryd.func7, Tryd.ntmps7
    go_wp2_with fail
    refine S1.out.mono ?_
    rintro e w1 ⟨rfl, rfl⟩
    go_wp2_with fail
    refine S2.out.mono ?_
    rintro e w1 ⟨rfl, rfl⟩
    go_wp2_with fail
    refine (awake_any _ HT.out).mono ?_
    rintro e w1 ⟨rfl, hb⟩
    go_wp2
    go_ret
    exact ⟨rfl, hb⟩
  | true =>
  rw [e2] at S2
  obtain ⟨u1, u2⟩ := shortB_spec e1
  obtain ⟨u3, u4⟩ := shortB_spec e2
  have C1 := Lib.hid (slAll_any l used _ _ w H1.out H2.out (by omega) (by omega) (fun x hx => Nat.le_trans (u2 x hx) (by decide)) (fun x hx => Nat.le_trans (u4 x hx) (by decide)) HT.out)
  have hal := allA_len l used
  have hE := Lib.hid (fun (k : Nat) (y : ByteArray) (h : (allA l used)[k]? = some y) => allA_each l used k y h (by omega))
  have HU := Lib.hid (fun (w1 : World) (hb : Below w.heap.size w w1) => H2.out.below hb)
  generalize allA l used = X at *
  clear H1 H2 u2 u4 e1 e2
  have hll : ((X.length : Int) == l.length) = true := by simp [hal]
  go_enter Tryd.func7, Tryd.ntmps7
  go_wp2_with fail
  refine S1.out.mono ?_
  rintro e w1 ⟨rfl, rfl⟩
  go_wp2_with fail
  refine S2.out.mono ?_
  rintro e w1 ⟨rfl, rfl⟩
  go_wp2_with fail
  refine C1.out.mono ?_
  rintro e w1 ⟨x1, rfl, o1, b1⟩
  obtain ⟨ax, cx, rfl⟩ := own_slice o1
  have SX := Sees.of_own o1
  have B1 := Lib.hid b1
  have SU := Lib.hid (HU.out w1 b1)
  clear o1 b1 C1 S1 S2 HU
  have HSX := Lib.hid SX
  obtain ⟨-, _, _, hx, p1, p2, p3⟩ := SX
  cases hx
  have P3 := Lib.hid p3
  clear p3
  unfold maxLen at p2
  go_wp2
  go_loopw [6] (fun i wr => ∃ k q : Nat, k ≤ X.length ∧ i = .int .i64 k ∧ wr = w1.drewN q) (fun i _ => X.length - (intOf i).toNat)
  case atStart => exact ⟨0, 0, Nat.zero_le _, rfl, rfl⟩
  case round =>
    obtain ⟨k, q, hk, rfl, rfl⟩ := hrel
    by_cases hlt : k < X.length
    · rcases P3.out with p3 | ⟨g1, o1, rfl, p3⟩
      · omega
      obtain ⟨y, hy⟩ : ∃ y, X[k]? = some y := ⟨_, List.getElem?_eq_getElem hlt⟩
      have c1 := p3 k (.string y) (by simp [hy])
      obtain ⟨n1, n2, n3⟩ := hE.out k y hy
      have hys : y.size ≤ 1000000000 := by
        unfold nameOk at n1
        simp only [Bool.and_eq_true, decide_eq_true_eq] at n1
        omega
      obtain ⟨wq, hwq⟩ : ∃ wq, wq = w1.drewN q := ⟨_, rfl⟩
      have cq : wq.cell? ⟨g1, o1 + k, none⟩ = some (.string y) := by rw [hwq]; exact c1
      have SQ : Sees wq 1 (.slice a2 used.length cap2) used.length (used.map Value.string) := by rw [hwq]; exact SU.out
      have N1 : Hid (∀ m, Calls Tryd.prog 18 #[.string y] (wq.drewN m) fun e w' => e = .returned (.bool true) ∧ w' = wq.drewN m) := fun m => (name_any y _ hys).mono fun _ _ h => ⟨by rw [h.1, n1], h.2.symm⟩
      have N2 : Hid (∀ m, Calls Tryd.prog 19 #[.slice a2 used.length cap2, .string y] (wq.drewN m) fun e w' => e = .returned (.bool false) ∧ w' = wq.drewN m) := fun m => (rHas_any used y _ (wq.drewN m) SQ).mono fun _ _ h => ⟨by rw [h.1, n2], h.2.symm⟩
      have hst : Sees w1 1 (.slice (some ⟨g1, o1, none⟩) k cx) k ((X.take k).map Value.string) := by
        refine ⟨by simp; omega, _, _, rfl, by omega, by unfold maxLen; omega, .inr ⟨g1, o1, rfl, fun j u hu => p3 j u ?_⟩⟩
        rw [List.getElem?_map] at hu ⊢
        rw [List.getElem?_take] at hu
        split at hu
        · exact hu
        · cases hu
      have hsq : Sees wq 1 (.slice (some ⟨g1, o1, none⟩) k cx) k ((X.take k).map Value.string) := by rw [hwq]; exact hst
      have hkt : (X.take k).length = k := by simp; omega
      have N3 : Hid (∀ m, Calls Tryd.prog 19 #[.slice (some ⟨g1, o1, none⟩) k cx, .string y] (wq.drewN m) fun e w' => e = .returned (.bool false) ∧ w' = wq.drewN m) := fun m => (rHas_any (X.take k) y _ (wq.drewN m) (by rw [hkt]; exact hsq)).mono fun _ _ h => ⟨by rw [h.1, n3], h.2.symm⟩
      rw [← hwq]
      have HQ := Lib.hid hwq
      clear c1 hwq hsq SQ hst hkt n1 n2 n3 hys hy p3 P3 hE HSX SU
      go_wp2_with fail
      go_quiet (first
        | (go_at_call 18; with_reducible exact Calls.quiet_of_same (N1.out _))
        | (go_at_call 19; with_reducible exact Calls.quiet_of_same (N2.out _))
        | (go_at_call 19; with_reducible exact Calls.quiet_of_same (N3.out _)))
      go_wp2
      go_roundw
      case rel => exact ⟨k + 1, q + nq, by omega, by go_num, by rw [HQ.out, World.drewN_drewN]⟩
      case measure => simp [intOf]; omega
    · clear P3 hE HSX SU
      go_wp2_with fail
      refine (awake_any _ (HT.out.below (below_dN B1.out q))).mono ?_
      rintro e w3 ⟨rfl, b3⟩
      go_wp2
      go_ret
      exact ⟨rfl, below_trans_size (below_dN B1.out q) b3⟩

set_option maxRecDepth 100000 in
theorem lifted (os : Os) (started : os.Started) (H : Type) (enc : TypeId × Value → H) :
    ReturnsInHanded {} Tryd.checked os 7 .any (fun w args => (Rows.slugDiffersSpec.pre enc Tryd.prog Tryd.f7 [] false w args ∧ laidMetH Tryd.prog laidF w) ∧ sizedMet enc Tryd.prog Tryd.f7 (OpenSpec.ofChange Rows.slugDiffersSpec) false w args)
      (Rows.slugDiffersSpec.post enc Tryd.prog Tryd.f7 false true false false) := by
  refine returnsInHanded_of_change_and (C := Tryd.checked) (X := fun w _ => laidMetH Tryd.prog laidF w) (fun _ _ _ hh h => h.of_heap hh) own started (by kernel_rfl) Tryd.func7
    (ChangeSpec.witness_shaped (enc := enc) (C := Tryd.checked) (os := os) (X := fun w _ => laidMetH Tryd.prog laidF w) false (World.doorLaid Tryd.prog 400 os) #[.slice none 0 0, .slice none 0 0] 8 rfl (World.shaped_of_RefB (by kernel_rfl) (by kernel_rfl)) (by kernel_rfl) (by kernel_rfl) (by kernel_rfl) (door_met os _)) ?_
  intro W base args ds gs before hval0 hW _ _ hL _
  have hval : ∀ (j : Nat) t v, Tryd.f7.params[j]? = some t → args[j]? = some v → Value.okWide Tryd.prog W .any base t v := hval0
  have hW' := hW
  obtain ⟨p, q, hA0, hV, rfl, hfz, hnd⟩ := hW
  have hA : DataW.TrodAll enc Tryd.prog W 0 (fun _ => true) true Tryd.f7.params.toList args.toList ds p := hA0
  rw [Tryd.params7] at hA hval
  obtain ⟨v0, vs0, d0, ds0, p0, q0, hargs, rfl, rfl, h0, r0⟩ := trodAll_cons hA
  obtain ⟨v1, vs1, d1, ds1, p1, q1, rfl, rfl, rfl, h1, r1⟩ := trodAll_cons r0
  obtain ⟨rfl, rfl, rfl⟩ := trodAll_nil r1
  obtain rfl : args = #[v0, v1] := by cases args; simp_all
  obtain ⟨rfl, rfl⟩ := trodVars_none hV
  obtain ⟨a0, n0, cap0, rfl⟩ := okWide_slice Tryd.underlying25 (hval 0 25 v0 rfl rfl)
  obtain ⟨a1, n1, cap1, rfl⟩ := okWide_slice Tryd.underlying25 (hval 1 25 v1 rfl rfl)
  have lt0 : ∀ x ∈ p0, x.block < W.heap.size := by obtain ⟨m, hm⟩ := h0; exact DataW.trod_lt m _ _ _ hm
  have lt1 : ∀ x ∈ p1, x.block < W.heap.size := by obtain ⟨m, hm⟩ := h1; exact DataW.trod_lt m _ _ _ hm
  obtain ⟨l0, k0, m0, s0⟩ := rd_strs h0.choose_spec
  obtain ⟨l1, k1, m1, s1⟩ := rd_strs h1.choose_spec
  have hT := of_laid hL
  clear hA0 hval0
  refine (walk l0 l1 _ _ W (Rd.sees s0) (Rd.sees s1) hT).mono fun e W' ⟨he, bel⟩ => ?_
  subst he
  exact ⟨_, rfl, _, _, _, [], _, [], hW', trodAll_mk1 (shut_bool Tryd.underlying4 _), (trodAll_cons_mk (Below.trod laidOut (by kernel_rfl) (of_decide_eq_true (by kernel_rfl)) h0 bel lt0) (trodAll_cons_mk (Below.trod laidOut (by kernel_rfl) (of_decide_eq_true (by kernel_rfl)) h1 bel lt1) trodAll_mk0)), rfl, bel.frame _, fun h => by cases h⟩

theorem over : Rows.SlugDiffersSaid :=
  OpenClaim.holds_of_wide 7 Tryd.f7 rfl rfl rfl rfl rfl rfl rfl ⟨rfl, rfl, rfl, rfl, rfl⟩ rfl rfl rfl rfl rfl (by kernel_rfl) Tryd.func7 (by kernel_rfl)
    (of_decide_eq_true (by kernel_rfl)) (by unfold Func.isWrapper; first | (rw [if_pos (by decide +kernel)]; kernel_rfl) | (rw [if_neg (by decide +kernel)]; exact ⟨rfl, rfl⟩))
    (fun os started H enc _ => lifted os started H enc)

theorem card_holds : Rows.SlugDiffersCardSaid :=
  Claim7.holds_tied_plain_at .later [] [.data, .data, .data] true Rows.slugDiffersCard.stood.harness false
    over (fun _ h => by cases h) (by kernel_rfl) (fun _ h => by cases h) slugDiffers_row_tie rfl ⟨rfl, rfl⟩ (by kernel_rfl) rfl
    (fun f fn hf hfn => by
      obtain rfl : f = 7 := Option.some.inj ((show Tryd.prog.funcNamed "publisher/publisherlaw21.SlugDiffers" = some 7 by kernel_rfl).symm.trans hf) |>.symm
      obtain rfl : fn = Tryd.f7 := (Option.some.inj (Tryd.func7.symm.trans hfn)).symm
      exact ⟨by kernel_rfl, fun j t ht => by
        rw [Tryd.params7] at ht
        have hm : t ∈ [25, 25] := by simpa using Array.mem_of_getElem? ht
        have hall : ([25, 25].all fun u => !Tryd.prog.wantsStandIn u) = true := by kernel_rfl
        exact (show Tryd.prog.wantsStandIn t = false by simpa using List.all_eq_true.1 hall t hm)⟩)
    (by kernel_rfl)
end Go.Proofs.YtjolhiofllpejaaDoor.LawSlugDiffers

namespace Go.Proofs.YtjolhiofllpejaaDoor
theorem slugDiffers_proved : Rows.SlugDiffersCardSaid := LawSlugDiffers.card_holds
#print axioms slugDiffers_proved
end Go.Proofs.YtjolhiofllpejaaDoor
