/- Proved: publisherlaw38.WrapBreaks returns true at every list of widths, every space and every width, and the arguments read as before. No condition. -/
import Derived.Test.YtgjhfjplalcnbaaRows
import Derived.Test.YtgjhfjplalcnbaaAwake
import Derived.Test.YtgjhfjplalcnbaaBreakAll
import Derived.ProofKit
import Derived.OpenShut
import Derived.ChangeOld
namespace Go.Proofs.Ytgjhfjplalcnbaa.LawBreaks
open Go.ChangeShapes Go.WideShapes Go.ChangeAt Go.RowKit
set_option linter.unusedVariables false

theorem own : ownKnob Try.prog.godebug = none := by kernel_rfl
theorem laidOut : laidOutB Try.prog = true := by kernel_rfl

set_option maxRecDepth 100000 in
set_option maxHeartbeats 1000000 in
theorem walk (a : Option Addr) (cap : Nat) (ws : List Int) (sp wd : Int) (w : World) (hs : Sees w 1 (.slice a ws.length cap) ws.length (IntsOf ws)) (hm : ws.length ≤ maxLen) :
    Calls Try.prog 4 #[.slice a ws.length cap, .int .i64 sp, .int .i64 wd] w fun e w' => e = .returned (.bool true) ∧ Below w.heap.size w w' := by
  unfold maxLen at hm
  by_cases h : 60 < ws.length
  · have e1 : decide ((60 : Int) < (ws.length : Int)) = true := by simp; omega
    clear hs
    go_enter Try.func4, Try.ntmps4
    go_wp2_with fail
    refine (awake_any _).mono ?_
    rintro e w1 ⟨rfl, hb⟩
    go_wp2
    go_ret
    exact ⟨rfl, hb⟩
  · have e1 : decide ((60 : Int) < (ws.length : Int)) = false := by simp; omega
    have HS := Lib.hid hs
    clear hs
    go_enter Try.func4, Try.ntmps4
    go_wp2_with fail
    refine (break_all _ _ ws sp wd HS.out (by omega)).mono ?_
    rintro e w1 (⟨hok, v, rfl, hown, b1⟩ | ⟨hno, rfl, b1⟩)
    · go_wp2_with fail
      refine (rbreak_all _ _ ws sp wd (HS.out.below b1) (by omega)).mono ?_
      rintro e w2 (⟨-, v2, rfl, hown2, b2⟩ | ⟨hno, -⟩)
      · have s1 := (Sees.of_own hown).below b2
        have s2 := Sees.of_own hown2
        have b12 := below_trans_size b1 b2
        have hfl := firsts_len ws.length (brT ws sp wd) ws.length 0
        have HFL : Hid ((brFirst ws sp wd).length ≤ ws.length) := hfl
        generalize brFirst ws sp wd = F at *
        generalize brCost ws sp wd = C at *
        obtain ⟨-, a1, cap1, rfl, p1, p2, p3⟩ := s1
        obtain ⟨-, a2, cap2, rfl, q1, q2, q3⟩ := s2
        have hfl := HFL.out
        clear hown hown2 hok
        have hcc : (C != C) = false := by simp
        have hll : ((F.length : Int) != F.length) = false := by simp
        rcases Nat.eq_zero_or_pos F.length with h0 | hpos
        · rw [h0] at *
          go_wp2
          refine wp_loop_rounds 1 ?_
          rw [rounds_succ]
          go_wp2_with fail
          refine (awake_any _).mono ?_
          rintro e w3 ⟨rfl, b3⟩
          go_wp2
          go_ret
          exact ⟨rfl, below_trans_size b12 b3⟩
        · rcases p3 with p3 | ⟨b1', o1, rfl, p3⟩
          · omega
          rcases q3 with q3 | ⟨b2', o2, rfl, q3⟩
          · omega
          go_wp2
          go_loopw [13] (fun i wr => ∃ k q : Nat, k ≤ F.length ∧ i = .int .i64 k ∧ wr = w2.drewN q) (fun i _ => F.length - (intOf i).toNat)
          case atStart => exact ⟨0, 0, Nat.zero_le _, rfl, rfl⟩
          case round =>
            obtain ⟨k, q, hk, rfl, rfl⟩ := hrel
            by_cases hlt : k < F.length
            · have c1 := p3 k (.int .i64 F[k]) (by simp [hlt])
              have c2 := q3 k (.int .i64 F[k]) (by simp [hlt])
              clear p3 q3
              generalize F[k] = y at *
              have hne : (y != y) = false := by simp
              go_wp2_with fail
              go_quiet (fail)
              go_wp2
              go_roundw
              case rel => exact ⟨k + 1, _, by omega, by go_num, rfl⟩
              case measure => simp [intOf]; omega
            · clear p3 q3
              go_wp2_with fail
              refine (awake_any _).mono ?_
              rintro e w3 ⟨rfl, b3⟩
              go_wp2
              go_ret
              exact ⟨rfl, below_trans_size (below_dN b12 q) b3⟩
      · exact absurd hok hno
    · go_wp2_with fail
      refine (rbreak_all _ _ ws sp wd (HS.out.below b1) (by omega)).mono ?_
      rintro e w2 (⟨hok, -⟩ | ⟨-, rfl, b2⟩)
      · exact absurd hok hno
      · have b12 := below_trans_size b1 b2
        go_wp2
        refine wp_loop_rounds 1 ?_
        rw [rounds_succ]
        go_wp2_with fail
        refine (awake_any _).mono ?_
        rintro e w3 ⟨rfl, b3⟩
        go_wp2
        go_ret
        exact ⟨rfl, below_trans_size b12 b3⟩

/-- What a slice of integers that came in gives. -/
theorem sees_of_row {w : World} {x : Addr} {len cap : Nat} {zs : List Int} (hl : len ≤ cap) (hm : cap ≤ maxLen) (hz : zs.length = cap) (hc : ∀ i, i < zs.length → w.cell? (x.add i) = some (.int .i64 (zs.getD i 0))) :
    Sees w 1 (.slice (some x) (zs.take len).length cap) (zs.take len).length (IntsOf (zs.take len)) := by
  have hlen : (zs.take len).length = len := by simp; omega
  refine ⟨by simp [IntsOf], some x, cap, rfl, by omega, hm, ?_⟩
  rcases Nat.eq_zero_or_pos len with h0 | hpos
  · exact .inl (by omega)
  · obtain ⟨b, off, spot⟩ := x
    have h := hc 0 (by omega)
    have hspot : spot = none := by simpa [Addr.add] using World.cell?_spot h
    subst hspot
    refine .inr ⟨b, off, rfl, fun j u hu => ?_⟩
    have hj : j < len := by
      have := (List.getElem?_eq_some_iff.1 hu).1
      simp [IntsOf] at this; omega
    have h := hc j (by omega)
    have e : ((⟨b, off, none⟩ : Addr).add j) = ⟨b, off + j, none⟩ := by unfold Addr.add; split <;> simp_all
    rw [e] at h
    rw [h]
    simp [IntsOf, hj] at hu
    obtain ⟨y, hy, rfl⟩ := hu
    rw [List.getD_eq_getElem?_getD, hy]; rfl

set_option maxRecDepth 100000 in
theorem lifted (os : Os) (started : os.Started) (H : Type) (enc : TypeId × Value → H) :
    ReturnsInHanded {} Try.checked os 4 .any (Rows.wrapBreaksSpec.pre6 enc Try.prog Try.f4 Rows.wrapBreaksRow.domain false) (Rows.wrapBreaksSpec.post enc Try.prog Try.f4 false true false false) := by
  refine returnsInHanded_of_change (C := Try.checked) own started (by kernel_rfl) Try.func4
    (ChangeSpec.witness6 (enc := enc) (C := Try.checked) false ⟨#[], #[.slice none 0 0, .int .i64 0, .int .i64 0], []⟩ 8 (by kernel_rfl) (by kernel_rfl) (by kernel_rfl) (by kernel_rfl)) ?_
  intro W base args ds gs before hval0 hW hcnd _
  have hval : ∀ (j : Nat) t v, Try.f4.params[j]? = some t → args[j]? = some v → Value.okWide Try.prog W .any base t v := hval0
  have hW' := hW
  obtain ⟨p, q, hA0, hV, rfl, hfz, hnd⟩ := hW
  have hA : DataW.TrodAll enc Try.prog W 0 (fun _ => true) true Try.f4.params.toList args.toList ds p := hA0
  rw [Try.params4] at hA hval
  obtain ⟨v0, vs0, d0, ds0, p0, q0, hargs, rfl, rfl, h0, r0⟩ := trodAll_cons hA
  obtain ⟨v1, vs1, d1, ds1, p1, q1, rfl, rfl, rfl, h1, r1⟩ := trodAll_cons r0
  obtain ⟨v2, vs2, d2, ds2, p2, q2, rfl, rfl, rfl, h2, r2⟩ := trodAll_cons r1
  obtain ⟨rfl, rfl, rfl⟩ := trodAll_nil r2
  obtain rfl : args = #[v0, v1, v2] := by cases args; simp_all
  obtain ⟨rfl, rfl⟩ := trodVars_none hV
  obtain ⟨a0, len0, cap0, rfl⟩ := okWide_slice Try.underlying27 (hval 0 27 v0 rfl rfl)
  have k0 := h0
  have lt0 : ∀ x ∈ p0, x.block < W.heap.size := by obtain ⟨m, hm⟩ := k0; exact DataW.trod_lt m _ _ _ hm
  obtain ⟨ws, hwl, hsee, hml⟩ : ∃ ws : List Int, ws.length = len0 ∧ Sees W 1 (.slice a0 ws.length cap0) ws.length (IntsOf ws) ∧ ws.length ≤ maxLen := by
    obtain ⟨fuel, hf⟩ := h0
    rcases open_ints Try.underlying27 Try.underlying3 (by kernel_rfl) hf with ⟨hcs, _⟩ | ⟨x, l, c, zs, hcs, _, hl, hm, hz, _, hcell, hwz⟩
    · simp [Value.cells] at hcs
      obtain ⟨rfl, rfl, rfl⟩ := hcs
      exact ⟨[], rfl, ⟨rfl, none, 0, rfl, Nat.le_refl _, Nat.zero_le _, .inl rfl⟩, Nat.zero_le _⟩
    · simp [Value.cells] at hcs
      obtain ⟨rfl, rfl, rfl⟩ := hcs
      have hz' : zs.length = cap0 := by simpa using hz
      exact ⟨zs.take len0, by simp; omega, sees_of_row hl hm hz' hcell, by simp; omega⟩
  subst hwl
  obtain ⟨a1, rfl, rfl, rfl, w1⟩ := open_int Try.underlying3 (hval 1 3 v1 rfl rfl) h1
  obtain ⟨a2, rfl, rfl, rfl, w2⟩ := open_int Try.underlying3 (hval 2 3 v2 rfl rfl) h2
  clear hA0 hval0
  refine (walk a0 cap0 ws a1 a2 W hsee hml).mono fun e W' ⟨he, bel⟩ => ?_
  subst he
  exact ⟨_, rfl, _, _, _, [], _, [], hW', trodAll_mk1 (shut_bool Try.underlying4 _), (trodAll_cons_mk (Below.trod laidOut (by kernel_rfl) (of_decide_eq_true (by kernel_rfl)) k0 bel lt0) (trodAll_cons_mk (shut_int Try.underlying3 w1) (trodAll_cons_mk (shut_int Try.underlying3 w2) trodAll_mk0))), rfl, bel.frame _, fun h => by cases h⟩

theorem over : Rows.wrapBreaksRow.holds Try.pinned (OpenSpec.ofChange Rows.wrapBreaksSpec) :=
  OpenClaim.holds_of_wide 4 Try.f4 rfl rfl rfl rfl rfl rfl rfl ⟨rfl, rfl, rfl, rfl, rfl⟩ rfl rfl rfl rfl rfl (by kernel_rfl) Try.func4 (by kernel_rfl)
    (of_decide_eq_true (by kernel_rfl)) (by unfold Func.isWrapper; first | (rw [if_pos (by decide +kernel)]; kernel_rfl) | (rw [if_neg (by decide +kernel)]; exact ⟨rfl, rfl⟩))
    (fun os started H enc _ => lifted os started H enc)
end Go.Proofs.Ytgjhfjplalcnbaa.LawBreaks

namespace Go.Proofs.Ytgjhfjplalcnbaa
theorem wrapBreaks_proved : Rows.WrapBreaksSaid := LawBreaks.over
#print axioms wrapBreaks_proved
end Go.Proofs.Ytgjhfjplalcnbaa
