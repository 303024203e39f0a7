/- The contract of the law's own cost of a division. -/
import Derived.Test.YtgjhfjplalcnbaaMem
import Derived.Test.YtgjhfjplalcnbaaPlBest
import Derived.Deep.DeepCutAuto
import Derived.Outline
namespace Go.Proofs.Ytgjhfjplalcnbaa
open Go.RowKit
set_option linter.unusedVariables false

def enOf (es : List Bool) (k : Nat) : Bool := es.getD k false

theorem cGo_fail (ws : List Int) (sp wd : Int) (en : Nat → Bool) (f i : Nat) (sum : Int) (n : Nat) (wide wA : Int) (hA : wA = if 0 < n then wide + sp else wide) (h : wd < wA + ws.getD i 0 ∧ 0 < n) :
    cGo ws sp wd en (f + 1) i sum n wide = (0, false) := by
  rw [cGo, ← hA, if_pos ⟨h.1, by omega⟩]
theorem cGo_end (ws : List Int) (sp wd : Int) (en : Nat → Bool) (f i : Nat) (sum : Int) (n : Nat) (wide wA : Int) (hA : wA = if 0 < n then wide + sp else wide) (h : ¬ (wd < wA + ws.getD i 0 ∧ 0 < n)) (he : i + 1 = ws.length ∨ en i = true) :
    cGo ws sp wd en (f + 1) i sum n wide = cGo ws sp wd en f (i + 1) (if i + 1 ≠ ws.length ∧ wA + ws.getD i 0 ≤ wd then sum + (wd - (wA + ws.getD i 0)) * (wd - (wA + ws.getD i 0)) else sum) 0 0 := by
  rw [cGo, ← hA, if_neg (fun h' => h ⟨h'.1, by omega⟩), if_pos he]
theorem cGo_on (ws : List Int) (sp wd : Int) (en : Nat → Bool) (f i : Nat) (sum : Int) (n : Nat) (wide wA : Int) (hA : wA = if 0 < n then wide + sp else wide) (h : ¬ (wd < wA + ws.getD i 0 ∧ 0 < n)) (he : ¬ (i + 1 = ws.length ∨ en i = true)) :
    cGo ws sp wd en (f + 1) i sum n wide = cGo ws sp wd en f (i + 1) sum (n + 1) (wA + ws.getD i 0) := by
  rw [cGo, ← hA, if_neg (fun h' => h ⟨h'.1, by omega⟩), if_neg he]

/-- At the head of each round. -/
def CRel (ws : List Int) (sp wd : Int) (es : List Bool) (R : Int × Bool) (vs vn vw vi : Value) : Prop :=
  ∃ (i n f : Nat) (sum wide : Int), i + f = ws.length ∧ n ≤ i ∧ (n = 0 → wide = 0) ∧ 0 ≤ wide ∧ wide ≤ 1048576 ∧ 0 ≤ sum ∧ sum ≤ i * 1099511627776 ∧ cGo ws sp wd (enOf es) f i sum n wide = R ∧
    vs = .int .i64 sum ∧ vn = .int .i64 n ∧ vw = .int .i64 wide ∧ vi = .int .i64 i

set_option maxRecDepth 100000 in
set_option maxHeartbeats 1000000 in
theorem cost_any (w : World) (bw ow capw : Nat) (ws : List Int) (sp wd : Int) (ve : Value) (es : List Bool) (hd : 1 ≤ wd ∧ wd ≤ 1048576) (hsp : 0 ≤ sp ∧ sp ≤ 1048576) (hws : ∀ x ∈ ws, (0 : Int) ≤ x ∧ x ≤ 1048576) (hn0 : 0 < ws.length) (hn : ws.length ≤ 4096) (hcap : ws.length ≤ capw)
    (hcw : ∀ j x, ws[j]? = some x → w.cell? ⟨bw, ow + j, none⟩ = some (.int .i64 x)) (he : Sees w 1 ve es.length (es.map Value.bool)) :
    Calls Try.prog 12 #[.slice (some ⟨bw, ow, none⟩) ws.length capw, .int .i64 sp, .int .i64 wd, ve] w fun e w' =>
      e = .returned (.tuple #[.int .i64 (cGo ws sp wd (enOf es) ws.length 0 0 0 0).1, .bool (cGo ws sp wd (enOf es) ws.length 0 0 0 0).2]) ∧ w = w' := by
  obtain ⟨-, ae, cape, rfl, p1, p2, p3⟩ := he
  obtain ⟨hd0, hd1⟩ := hd
  obtain ⟨hs0, hs1⟩ := hsp
  unfold maxLen at p2
  have HCW := Lib.hid hcw
  have HWS := Lib.hid hws
  have HES : Hid (∀ j x, es[j]? = some x → ∃ b off, ae = some ⟨b, off, none⟩ ∧ w.cell? ⟨b, off + j, none⟩ = some (.bool x)) := fun j x hx => by
    rcases p3 with p3 | ⟨b, off, rfl, hc⟩
    · have := (List.getElem?_eq_some_iff.1 hx).1; omega
    · exact ⟨b, off, rfl, hc j _ (by simp [hx])⟩
  clear hcw hws p3
  obtain ⟨R, hR⟩ : ∃ R, R = cGo ws sp wd (enOf es) ws.length 0 0 0 0 := ⟨_, rfl⟩
  rw [← hR]
  have HR := Lib.hid hR
  clear hR
  go_enter Try.func12, Try.ntmps12
  go_wp2
  go_loop [10, 11, 12, 13] (fun vs vn vw vi => CRel ws sp wd es R vs vn vw vi) (fun _ _ _ i => ws.length - (intOf i).toNat)
  case atStart => exact ⟨0, 0, ws.length, 0, 0, by omega, Nat.le_refl _, fun _ => rfl, by omega, by omega, by omega, by omega, HR.out.symm, rfl, rfl, rfl, rfl⟩
  case round =>
    obtain ⟨i, n, f, sum, wide, r1, r2, rz, r3, r4, r5, r6, r7, rfl, rfl, rfl, rfl⟩ := hrel
    have H1 := Lib.hid r1
    have HZ := Lib.hid rz
    have H7 := Lib.hid r7
    clear r1 r7 rz
    by_cases hil : i < ws.length
    · obtain ⟨f', rfl⟩ : ∃ f', f = f' + 1 := ⟨f - 1, by have := H1.out; omega⟩
      obtain ⟨y, hy⟩ : ∃ y, ws[i]? = some y := ⟨_, List.getElem?_eq_getElem hil⟩
      have hyd : ws.getD i 0 = y := by rw [List.getD_eq_getElem?_getD, hy]; rfl
      have c0 := HCW.out i _ hy
      obtain ⟨y0, y1⟩ := HWS.out _ (List.mem_of_getElem? hy)
      clear hy
      obtain ⟨wA, hwA⟩ : ∃ x, x = if 0 < n then wide + sp else wide := ⟨_, rfl⟩
      have hA0 : 0 ≤ wA ∧ wA ≤ 2097152 := by rw [hwA]; split <;> omega
      have hn1 : n + 1 ≤ 4097 := by omega
      have Ff := Lib.hid (fun h => (cGo_fail ws sp wd (enOf es) f' i sum n wide wA hwA h).symm.trans H7.out)
      have Fe := Lib.hid (fun h h' => (cGo_end ws sp wd (enOf es) f' i sum n wide wA hwA h h').symm.trans H7.out)
      have Fo := Lib.hid (fun h h' => (cGo_on ws sp wd (enOf es) f' i sum n wide wA hwA h h').symm.trans H7.out)
      rw [hyd] at Ff Fe Fo
      have HwA := Lib.hid hwA
      clear hyd hwA H7
      go_upto_if 22 with (fail)
      go_cut [12] (fun s12 wx => s12 = .int .i64 wA ∧ w = wx)
      case first =>
        by_cases hnn : 0 < n
        · have e : decide ((0 : Int) < (n : Int)) = true := by simp; omega
          go_wp2_with fail
          go_meet
          exact ⟨by rw [HwA.out, if_pos hnn], rfl⟩
        · have e : decide ((0 : Int) < (n : Int)) = false := by simp; omega
          go_wp2_with fail
          go_meet
          exact ⟨by rw [HwA.out, if_neg hnn], rfl⟩
      case rest =>
        obtain ⟨rfl, rfl⟩ := hcut
        obtain ⟨hA0, hA1⟩ := hA0
        by_cases hfail : wd < wA + y ∧ 0 < n
        · have hRf := Ff.out hfail
          subst hRf
          obtain ⟨k1, k2⟩ := hfail
          have e1 : decide (wd < wA + y) = true := by simpa using k1
          have e2 : decide ((1 : Int) < (n : Int) + 1) = true := by simp; omega
          go_wp2
          go_ret2
          exact ⟨rfl, rfl⟩
        · have HNF := Lib.hid hfail
          have hW1 : wA + y ≤ 1048576 := by
            by_cases hn0' : 0 < n
            · omega
            · have := HwA.out; rw [if_neg hn0'] at this
              have := HZ.out (by omega)
              omega
          clear hfail
          go_upto_region 9 with (fail)
          go_cut [40] (fun s40 wx => s40 = .bool false ∧ w = wx)
          case first =>
            by_cases k1 : wd < wA + y
            · have e1 : decide (wd < wA + y) = true := by simpa using k1
              have hn0' : ¬ 0 < n := fun h => HNF.out ⟨k1, h⟩
              have e2 : decide ((1 : Int) < (n : Int) + 1) = false := by simp; omega
              go_wp2_with fail
              go_meet
              exact ⟨rfl, rfl⟩
            · have e1 : decide (wd < wA + y) = false := by simpa using k1
              go_wp2_with fail
              go_meet
              exact ⟨rfl, rfl⟩
          case rest =>
            obtain ⟨rfl, rfl⟩ := hcut
            clear c0
            by_cases hlast : i + 1 = ws.length
            · have hRe := Lib.hid (Fe.out HNF.out (.inl hlast))
              rw [if_neg (by omega)] at hRe
              have e1 : ((i : Int) == (ws.length : Int) - 1) = true := by simp; omega
              have HL := Lib.hid hlast
              clear hlast Fe Fo Ff
              go_wp2
              go_round
              case rel => exact ⟨i + 1, 0, f', sum, 0, by have := H1.out; omega, by omega, fun _ => rfl, by omega, by omega, r5, by push_cast; omega, hRe.out, rfl, rfl, rfl, by go_num⟩
              case measure => simp [intOf]; omega
            · have e1 : ((i : Int) == (ws.length : Int) - 1) = false := by simp; omega
              by_cases hie : i < es.length
              · obtain ⟨x, hx⟩ : ∃ x, es[i]? = some x := ⟨_, List.getElem?_eq_getElem hie⟩
                obtain ⟨be, oe, rfl, ce⟩ := HES.out i x hx
                have hen : enOf es i = x := by unfold enOf; rw [List.getD_eq_getElem?_getD, hx]; rfl
                have e2 : decide ((i : Int) < (es.length : Int)) = true := by simp; omega
                clear hx
                cases x
                · have hRo := Lib.hid (Fo.out HNF.out (by rintro (h | h); exact hlast h; rw [hen] at h; exact absurd h (by decide)))
                  have HL := Lib.hid hlast
                  clear hen hlast Fe Fo Ff
                  go_wp2
                  go_round
                  case rel => exact ⟨i + 1, n + 1, f', sum, wA + y, by have := H1.out; omega, by omega, fun h => absurd h (by omega), by omega, hW1, r5, by push_cast; omega, hRo.out, rfl, by go_num, rfl, by go_num⟩
                  case measure => simp [intOf]; omega
                · have hRe := Lib.hid (Fe.out HNF.out (.inr hen))
                  have HL := Lib.hid hlast
                  clear hen Fe Fo Ff
                  by_cases hq : wA + y ≤ wd
                  · rw [if_pos ⟨hlast, hq⟩] at hRe
                    have hsq := sq_bd (x := wd - (wA + y)) (by omega) (by omega)
                    obtain ⟨hq0, hq1⟩ := hsq
                    have e3 : decide (wA + y ≤ wd) = true := by simpa using hq
                    clear hlast
                    go_wp2
                    go_round
                    case rel => exact ⟨i + 1, 0, f', _, 0, by have := H1.out; omega, by omega, fun _ => rfl, by omega, by omega, by omega, by push_cast; omega, hRe.out, rfl, rfl, rfl, by go_num⟩
                    case measure => simp [intOf]; omega
                  · rw [if_neg (fun h => hq h.2)] at hRe
                    have e3 : decide (wA + y ≤ wd) = false := by simpa using hq
                    clear hlast
                    go_wp2
                    go_round
                    case rel => exact ⟨i + 1, 0, f', sum, 0, by have := H1.out; omega, by omega, fun _ => rfl, by omega, by omega, r5, by push_cast; omega, hRe.out, rfl, rfl, rfl, by go_num⟩
                    case measure => simp [intOf]; omega
              · have hen : enOf es i = false := by unfold enOf; rw [List.getD_eq_getElem?_getD, List.getElem?_eq_none (by omega)]; rfl
                have e2 : decide ((i : Int) < (es.length : Int)) = false := by simp; omega
                have hRo := Lib.hid (Fo.out HNF.out (by rintro (h | h); exact hlast h; rw [hen] at h; exact absurd h (by decide)))
                have HL := Lib.hid hlast
                clear hen hlast Fe Fo Ff
                go_wp2
                go_round
                case rel => exact ⟨i + 1, n + 1, f', sum, wA + y, by have := H1.out; omega, by omega, fun h => absurd h (by omega), by omega, hW1, r5, by push_cast; omega, hRo.out, rfl, by go_num, rfl, by go_num⟩
                case measure => simp [intOf]; omega
    · have hf : f = 0 := by have := H1.out; omega
      subst hf
      have hRz := H7.out
      rw [cGo] at hRz
      have HRz := Lib.hid hRz
      clear hRz H7 H1
      go_wp2
      go_ret2
      exact ⟨by rw [← HRz.out]; rfl, rfl⟩

set_option maxRecDepth 100000 in
theorem cost_empty (w : World) (a : Option Addr) (cap : Nat) (sp wd : Int) (ve : Value) :
    Calls Try.prog 12 #[.slice a 0 cap, .int .i64 sp, .int .i64 wd, ve] w fun e w' => e = .returned (.tuple #[.int .i64 0, .bool true]) ∧ w = w' := by
  go_enter Try.func12, Try.ntmps12
  go_wp2
  refine wp_loop_rounds 1 ?_
  rw [rounds_succ]
  go_wp2
  go_ret2
  exact ⟨rfl, rfl⟩
end Go.Proofs.Ytgjhfjplalcnbaa
