/- Both Breaks at whatever arguments of at most 4096 words. -/
import Derived.Test.YtgjhfjplalcnbaaDoorRBreak
namespace Go.Proofs.YtgjhfjplalcnbaaDoor
open Go.RowKit
set_option linter.unusedVariables false

theorem brOk_dec (ws : List Int) (sp wd : Int) : BrOk ws sp wd ∨ (wd < 1 ∨ 1048576 < wd ∨ sp < 0 ∨ 1048576 < sp) ∨ ((1 ≤ wd ∧ wd ≤ 1048576 ∧ 0 ≤ sp ∧ sp ≤ 1048576) ∧ ¬ ∀ x ∈ ws, (0 : Int) ≤ x ∧ x ≤ 1048576) := by
  by_cases h : wd < 1 ∨ 1048576 < wd ∨ sp < 0 ∨ 1048576 < sp
  · exact .inr (.inl h)
  · by_cases h' : ∀ x ∈ ws, (0 : Int) ≤ x ∧ x ≤ 1048576
    · exact .inl ⟨by omega, by omega, h'⟩
    · exact .inr (.inr ⟨by omega, h'⟩)

def IntsOf (ws : List Int) : List Value := ws.map (Value.int .i64)

theorem ints_cells {w : World} {b off : Nat} {ws : List Int} (h : ∀ j u, (IntsOf ws)[j]? = some u → w.cell? ⟨b, off + j, none⟩ = some u) :
    ∀ j x, ws[j]? = some x → w.cell? ⟨b, off + j, none⟩ = some (.int .i64 x) :=
  fun j x hx => h j _ (by simp [IntsOf, hx])

theorem break_all (w : World) (vw : Value) (ws : List Int) (sp wd : Int) (hs : Sees w 1 vw ws.length (IntsOf ws)) (hn : ws.length ≤ 4096) :
    Calls Tryd.prog 18 #[vw, .int .i64 sp, .int .i64 wd] w fun e w' => (BrOk ws sp wd ∧ BrPost w ws sp wd e w') ∨ (¬ BrOk ws sp wd ∧ BrNo w e w') := by
  obtain ⟨-, a, cap, rfl, h1, h2, h3⟩ := hs
  rcases brOk_dec ws sp wd with hok | hr | ⟨hr, hb⟩
  · rcases Nat.eq_zero_or_pos ws.length with h0 | hpos
    · obtain rfl := List.length_eq_zero_iff.1 h0
      exact (break_empty w a cap sp wd hok.wd.1 hok.wd.2 hok.sp.1 hok.sp.2).mono fun e w' h => .inl ⟨hok, h⟩
    · rcases h3 with h3 | ⟨b, off, rfl, hc⟩
      · omega
      · exact (break_ok w b off cap ws sp wd hok hpos hn h1 h2 (ints_cells hc)).mono fun e w' h => .inl ⟨hok, h⟩
  · exact (break_range w a ws.length cap sp wd hr).mono fun e w' h => .inr ⟨fun hok => by have := hok.wd; have := hok.sp; omega, h⟩
  · rcases h3 with h3 | ⟨b, off, rfl, hc⟩
    · obtain rfl := List.length_eq_zero_iff.1 h3
      exact absurd (fun x hx => by cases hx) hb
    · exact (break_badw w b off cap ws sp wd hr.1 hr.2.1 hr.2.2.1 hr.2.2.2 hn h1 hb (ints_cells hc)).mono fun e w' h => .inr ⟨fun hok => hb hok.ws, h⟩

theorem rbreak_all (w : World) (vw : Value) (ws : List Int) (sp wd : Int) (hs : Sees w 1 vw ws.length (IntsOf ws)) (hn : ws.length ≤ 4096) :
    Calls Tryd.prog 22 #[vw, .int .i64 sp, .int .i64 wd] w fun e w' => (BrOk ws sp wd ∧ BrPost w ws sp wd e w') ∨ (¬ BrOk ws sp wd ∧ BrNo w e w') := by
  obtain ⟨-, a, cap, rfl, h1, h2, h3⟩ := hs
  rcases brOk_dec ws sp wd with hok | hr | ⟨hr, hb⟩
  · rcases Nat.eq_zero_or_pos ws.length with h0 | hpos
    · obtain rfl := List.length_eq_zero_iff.1 h0
      exact (rbreak_empty w a cap sp wd hok.wd.1 hok.wd.2 hok.sp.1 hok.sp.2).mono fun e w' h => .inl ⟨hok, h⟩
    · rcases h3 with h3 | ⟨b, off, rfl, hc⟩
      · omega
      · exact (rbreak_ok w b off cap ws sp wd hok hpos hn h1 (ints_cells hc)).mono fun e w' h => .inl ⟨hok, h⟩
  · exact (rbreak_range w a ws.length cap sp wd hr).mono fun e w' h => .inr ⟨fun hok => by have := hok.wd; have := hok.sp; omega, h⟩
  · rcases h3 with h3 | ⟨b, off, rfl, hc⟩
    · obtain rfl := List.length_eq_zero_iff.1 h3
      exact absurd (fun x hx => by cases hx) hb
    · exact (rbreak_badw w b off cap ws sp wd hr.1 hr.2.1 hr.2.2.1 hr.2.2.2 hn h1 hb (ints_cells hc)).mono fun e w' h => .inr ⟨fun hok => hb hok.ws, h⟩
end Go.Proofs.YtgjhfjplalcnbaaDoor
