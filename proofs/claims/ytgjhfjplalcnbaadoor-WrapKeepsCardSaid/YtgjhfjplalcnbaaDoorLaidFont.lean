/- What the row's listed variable gives: the table of font lies in memory. -/
import Derived.Test.YtgjhfjplalcnbaaDoorRows
import Derived.Test.YtgjhfjplalcnbaaDoorFont
import Derived.ProofKit
import Derived.LaidMore
import Derived.OpenShut
import Derived.Stop.Joined
namespace Go.Proofs.YtgjhfjplalcnbaaDoor
open Go.ChangeShapes Go.WideShapes Go.ChangeAt Go.RowKit
set_option linter.unusedVariables false

theorem own : ownKnob Tryd.prog.godebug = none := by kernel_rfl
theorem laidOut : laidOutB Tryd.prog = true := by kernel_rfl
theorem gAscii : Tryd.prog.globalNamed "publisher/font.ascii" = some 0 := by kernel_rfl
theorem tAscii : (Tryd.prog.globals[0]?).map (·.type) = some 69 := by kernel_rfl
theorem cAscii : Tryd.prog.cellsOf 5 = 1 := by kernel_rfl

abbrev laidF : List (String × DataW Unit) := [("publisher/font.ascii", Rows.laid_publisher_font_ascii)]

theorem door_met (os : Os) (args : Array Value) : laidMetH Tryd.prog laidF ((World.doorLaid Tryd.prog 400 os).forCall (fun _ _ => 0) ⟨#[], args, []⟩).memory :=
  laidMetH_of_parts3 (fuel := 8) (laidMet_of_run' 8 (by kernel_rfl) (by kernel_rfl)) (by kernel_rfl) (by kernel_rfl)

theorem datum_list {H : Type} : (Rows.laid_publisher_font_ascii : DataW H) = .agg (asciiW.map fun (n : Nat) => .lit (.int .u8 (n : Int))) := rfl

theorem byte_of_trod {H : Type} {enc : TypeId × Value → H} {P : Program} {w : World} {base : Nat} {sp : Nat → Bool} {held : Bool} {fuel : Nat} {t : TypeId} {k : IntKind} {c : Value} {y : DataW H × List MemPlace}
    (ht : P.underlying t = some (.int k)) (h : DataW.trod enc P w base sp held fuel t [c] = some y) : ∃ n, c = .int k n ∧ y = (.lit (.int k n), []) := by
  cases fuel with
  | zero => simp [DataW.trod] at h
  | succ fuel =>
    cases c <;> simp [DataW.trod, ht] at h
    rename_i k' n
    obtain ⟨⟨rfl, _⟩, rfl⟩ := h
    exact ⟨n, rfl, rfl⟩

theorem of_laid {W : World} (h : laidMetH Tryd.prog laidF W) : TabAt W := by
  rw [MakeChecks.laidMetH_plain _ _ _ (by kernel_rfl)] at h
  obtain ⟨ps, ⟨g0, t0, cs0, f0, p0, q0, hg0, ht0, hv0, hd0, _⟩, _⟩ := h
  obtain rfl := Option.some.inj (gAscii.symm.trans hg0)
  obtain rfl := Option.some.inj (tAscii.symm.trans ht0)
  obtain ⟨xs, m, rfl, hx, hlen, hn, hel⟩ := DataW.trod_array Tryd.underlying69 hd0
  rw [datum_list] at hx
  simp only [Prod.mk.injEq, DataW.agg.injEq] at hx
  have hcl : cs0.toList.length = 95 := by rw [hlen]; kernel_rfl
  have hcell : ∀ k, k < 95 → W.cell? ⟨0, k, none⟩ = some (.int .u8 ((asciiW.getD k 0 : Nat) : Int)) := by
    intro k hk
    have h1 := hel k hk
    rw [cAscii, Nat.mul_one] at h1
    obtain ⟨c, hc⟩ : ∃ c, cs0.toList[k]? = some c := ⟨_, List.getElem?_eq_getElem (by omega)⟩
    have h2 : (cs0.toList.drop k).take 1 = [c] := by
      rw [List.take_one, List.head?_drop, hc]; rfl
    rw [h2] at h1
    obtain ⟨y, hy⟩ : ∃ y, xs[k]? = some y := ⟨_, List.getElem?_eq_getElem (by omega)⟩
    rw [hy] at h1
    obtain ⟨n, rfl, rfl⟩ := byte_of_trod Tryd.underlying5 h1
    have h3 : (xs.map (·.1))[k]? = some (.lit (.int .u8 n)) := by rw [List.getElem?_map, hy]; rfl
    rw [← hx.1, List.getElem?_map] at h3
    have hvc := World.var?_cell hg0 hv0 k
    rw [hvc]
    have hc' : cs0[k]? = some (.int .u8 n) := by simpa using hc
    rw [hc', List.getD_eq_getElem?_getD]
    cases ha : asciiW[k]? with
    | none => rw [ha] at h3; simp at h3
    | some a =>
      rw [ha] at h3
      simp at h3
      rw [← h3]; rfl
  exact ⟨cell_lt (hcell 0 (by omega)), hcell⟩
end Go.Proofs.YtgjhfjplalcnbaaDoor
