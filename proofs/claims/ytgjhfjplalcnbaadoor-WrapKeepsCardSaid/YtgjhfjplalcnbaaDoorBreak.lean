/- The contract of wrap.Break at arguments in range: the first words of the lines of the best division, and its cost. -/
import Derived.Test.YtgjhfjplalcnbaaDoorBreakIn
namespace Go.Proofs.YtgjhfjplalcnbaaDoor
open Go.RowKit
set_option linter.unusedVariables false

theorem infoI : (Tryd.prog.info? 3).map (fun i => (i.zero, i.size, i.bytes)) = some (some (.int .i64 0), 1, 8) := by kernel_rfl
theorem infoD : (Tryd.prog.info? 53).map (fun i => (i.zero, i.size, i.bytes)) = some (some (.agg #[.int .i64 0, .int .i64 0, .int .i64 0]), 3, 24) := by kernel_rfl

theorem made3 (N : Nat) : (madeCells (Value.agg #[.int .i64 0, .int .i64 0, .int .i64 0]).cells (N * 3)).toList = dcells (fun _ => ⟨0, 0, 0⟩) N := by
  apply List.ext_getElem?
  intro i
  by_cases hi : i < N * 3
  · simp only [madeCells, dcells, Value.cells, Array.toList_map, Array.toList_range, List.getElem?_map, List.getElem?_range hi, Option.map_some]
    have h3 : i % 3 < 3 := by omega
    generalize i % 3 = r at *
    have : r = 0 ∨ r = 1 ∨ r = 2 := by omega
    rcases this with rfl | rfl | rfl <;> rfl
  · rw [List.getElem?_eq_none (by simp [madeCells]; omega), List.getElem?_eq_none (by simp [dcells_len]; omega)]

/-- The arguments of Break are in range. -/
structure BrOk (ws : List Int) (sp wd : Int) : Prop where
  wd : 1 ≤ wd ∧ wd ≤ 1048576
  sp : 0 ≤ sp ∧ sp ≤ 1048576
  ws : ∀ x ∈ ws, (0 : Int) ≤ x ∧ x ≤ 1048576

def BrPost (w : World) (ws : List Int) (sp wd : Int) (e : Ending) (w' : World) : Prop :=
  ∃ v, e = .returned (.tuple #[v, .int .i64 (brCost ws sp wd), .int .i64 0]) ∧ w'.ownsRow w.heap.size 3 1 v (brFirst ws sp wd).length ((brFirst ws sp wd).map (Value.int .i64)) ∧ Below w.heap.size w w'

/-- At the head of each round of the loop that follows the table. -/
def NRel (w0 wr : World) (n : Nat) (T : Nat → Dv) (F : List Int) (v vi : Value) : Prop :=
  ∃ (i f : Nat) (acc : List Int), i ≤ n ∧ n ≤ i + f ∧ acc.length ≤ i ∧ acc ++ firsts n T f i = F ∧ vi = .int .i64 i ∧ wr.ownsRow w0.heap.size 3 1 v acc.length (acc.map (Value.int .i64)) ∧ Below w0.heap.size w0 wr

/-- At the head of each round of the loop that fills the table. -/
def FRel (w0 wr : World) (B g : Nat) (ws : List Int) (sp wd : Int) (vi : Value) : Prop :=
  ∃ k : Nat, k ≤ ws.length ∧ vi = .int .i64 ((ws.length : Int) - 1 - k) ∧
    wr.ownsRow B 53 3 (.slice (some ⟨g, 0, none⟩) (ws.length + 1) (ws.length + 1)) (ws.length + 1) (dcells (tab ws sp wd ws.length k) (ws.length + 1)) ∧ w0.grownBy wr (some g)

set_option maxRecDepth 100000 in
set_option maxHeartbeats 1000000 in
theorem break_ok (w : World) (bw ow capw : Nat) (ws : List Int) (sp wd : Int) (hok : BrOk ws sp wd) (hn0 : 0 < ws.length) (hn : ws.length ≤ 4096) (hcap : ws.length ≤ capw) (hcm : capw ≤ maxLen)
    (hcw : ∀ j x, ws[j]? = some x → w.cell? ⟨bw, ow + j, none⟩ = some (.int .i64 x)) :
    Calls Tryd.prog 18 #[.slice (some ⟨bw, ow, none⟩) ws.length capw, .int .i64 sp, .int .i64 wd] w (BrPost w ws sp wd) := by
  obtain ⟨⟨hd0, hd1⟩, ⟨hs0, hs1⟩, hws⟩ := hok
  obtain ⟨iI, hiI, hzI0, hzI1, hzI2⟩ := info_parts infoI
  obtain ⟨iD, hiD, hzD0, hzD1, hzD2⟩ := info_parts infoD
  have HWS := Lib.hid hws
  have HCW := Lib.hid hcw
  have hbwl : bw < w.heap.size := cell_lt (hcw 0 _ (List.getElem?_eq_getElem hn0))
  clear hws hcw hcm
  go_enter Tryd.func18, Tryd.ntmps18
  go_wp2
  obtain ⟨w3, hw3⟩ : ∃ w3, w3 = ((w.alloc (.cells #[.slice (some ⟨bw, ow, none⟩) ws.length capw] 33)).alloc (.cells #[.int .i64 sp] 3)).alloc (.cells #[.int .i64 wd] 3) := ⟨_, rfl⟩
  rw [← hw3]
  have p0 : w3.cell? ⟨w.heap.size, 0, none⟩ = some (.slice (some ⟨bw, ow, none⟩) ws.length capw) := by rw [hw3]; simp [go_sem]
  have p1 : w3.cell? ⟨w.heap.size + 1, 0, none⟩ = some (.int .i64 sp) := by rw [hw3]; simp [go_sem]
  have p2 : w3.cell? ⟨w.heap.size + 1 + 1, 0, none⟩ = some (.int .i64 wd) := by rw [hw3]; simp [go_sem]
  have hs3 : w3.heap.size = w.heap.size + 3 := by rw [hw3]; simp
  have hb3 : Below w.heap.size w w3 := by rw [hw3]; exact (((Below.refl _ _).alloc (Nat.le_refl _) _).alloc (by simp) _).alloc (by simp; omega) _
  have HCW3 : Hid (∀ j x, ws[j]? = some x → w3.cell? ⟨bw, ow + j, none⟩ = some (.int .i64 x)) := fun j x h => by rw [hb3.cell (p := ⟨bw, ow + j, none⟩) hbwl]; exact HCW.out j x h
  have HS3 := Lib.hid hs3
  clear hs3 hw3 HCW
  go_loop [6, 32] (fun s6 i => ∃ k : Nat, k ≤ ws.length ∧ i = .int .i64 k ∧ s6 = .slice none 0 0) (fun _ i => ws.length - (intOf i).toNat)
  case atStart => exact ⟨0, Nat.zero_le _, rfl, rfl⟩
  case round =>
    obtain ⟨k, hk, rfl, rfl⟩ := hrel
    by_cases hlt : k < ws.length
    · obtain ⟨x, hwf⟩ : ∃ x, ws[k]? = some x := ⟨_, List.getElem?_eq_getElem hlt⟩
      have c0 := HCW3.out k _ hwf
      obtain ⟨b0, b1⟩ := HWS.out _ (List.mem_of_getElem? hwf)
      clear hwf
      go_wp2
      go_round
      case rel => exact ⟨k + 1, by omega, by go_num, rfl⟩
      case measure => simp [intOf]; omega
    · have hlf : decide (k < ws.length) = false := by simpa using hlt
      have q0 := cell_lt p0
      go_wp2_with (at_make; refine wpList_make_full _ rfl _ _ 51 rfl (w.heap.size + 4) 53 iD _ 3 Tryd.underlying51 hiD hzD0 hzD1 .i64 .i64 _ _ (ws.length + 1) rfl rfl ?m1 ?m2 ?m3 ?m4 ?m5 ?_)
      case m3 => omega
      case m4 => unfold maxLen; omega
      case m5 => have := HS3.out; omega
      intro w5 hown5 hgr5
      have g0 := cell_lt p0
      have g1 := cell_lt p1
      have g2 := cell_lt p2
      have r0 := hgr5.cell (past p0 _) (by simp)
      have r1 := hgr5.cell (past p1 _) (by simp)
      have r2 := hgr5.cell (past p2 _) (by simp)
      have r3 : w5.cell? ⟨w3.heap.size, 0, none⟩ = some (.int .i64 ws.length) := hgr5.cell (by simp [go_sem]) (by simp)
      have g5 : w3.heap.size + 1 < w5.heap.size := (hown5.lt _ rfl).2
      have hb5 : Below w.heap.size w w5 := (hb3.alloc (by omega) _).grown hgr5 (by simp; omega) (by simp)
      have HCW5 : Hid (∀ j x, ws[j]? = some x → w5.cell? ⟨bw, ow + j, none⟩ = some (.int .i64 x)) := fun j x h => hgr5.cell (past (HCW3.out j x h) _) (by simp)
      rw [show #[Value.int .i64 0, .int .i64 0, .int .i64 0] = (Value.agg #[.int .i64 0, .int .i64 0, .int .i64 0]).cells from rfl, made3] at hown5
      have g6 := cell_lt r3
      have HO5 := Lib.hid hown5
      clear hown5 hgr5 p0 p1 p2 HCW3
      go_wp2
      obtain ⟨w6, hw6⟩ : ∃ w6, w6 = w5.alloc (.cells #[.slice (some ⟨w3.heap.size + 1, 0, none⟩) (ws.length + 1) (ws.length + 1)] 51) := ⟨_, rfl⟩
      rw [← hw6]
      have t0 : w6.cell? ⟨w.heap.size, 0, none⟩ = some (.slice (some ⟨bw, ow, none⟩) ws.length capw) := by rw [hw6]; exact past r0 _
      have t1 : w6.cell? ⟨w.heap.size + 1, 0, none⟩ = some (.int .i64 sp) := by rw [hw6]; exact past r1 _
      have t2 : w6.cell? ⟨w.heap.size + 1 + 1, 0, none⟩ = some (.int .i64 wd) := by rw [hw6]; exact past r2 _
      have t3 : w6.cell? ⟨w3.heap.size, 0, none⟩ = some (.int .i64 ws.length) := by rw [hw6]; exact past r3 _
      have t4 : w6.cell? ⟨w5.heap.size, 0, none⟩ = some (.slice (some ⟨w3.heap.size + 1, 0, none⟩) (ws.length + 1) (ws.length + 1)) := by rw [hw6]; simp [go_sem]
      have hb6 : Below w.heap.size w w6 := by rw [hw6]; exact hb5.alloc (by omega) _
      have HCW6 : Hid (∀ j x, ws[j]? = some x → w6.cell? ⟨bw, ow + j, none⟩ = some (.int .i64 x)) := fun j x h => by rw [hw6]; exact past (HCW5.out j x h) _
      have HO6 : Hid (w6.ownsRow (w.heap.size + 4) 53 3 (.slice (some ⟨w3.heap.size + 1, 0, none⟩) (ws.length + 1) (ws.length + 1)) (ws.length + 1) (dcells (fun _ => ⟨0, 0, 0⟩) (ws.length + 1))) := by rw [hw6]; exact HO5.out.alloc _
      clear hw6 r0 r1 r2 r3 HO5 HCW5
      have HWW : Hid (∀ x ∈ ws, (0 : Int) ≤ x) := fun x hx => (HWS.out x hx).1
      go_loopw [14] (fun vi wr => FRel w6 wr (w.heap.size + 4) (w3.heap.size + 1) ws sp wd vi) (fun i _ => (intOf i + 1).toNat)
      case atStart => exact ⟨0, Nat.zero_le _, by go_num, HO6.out, World.grownBy.refl _ _⟩
      case round =>
        obtain ⟨k2, hk2, rfl, hown, hgr⟩ := hrel
        have HO := Lib.hid hown
        have HG := Lib.hid hgr
        clear hown hgr
        by_cases hkn : k2 < ws.length
        · obtain ⟨fr, hfr⟩ : ∃ fr : Nat, fr = ws.length - (k2 + 1) := ⟨_, rfl⟩
          have hfi : ((ws.length : Int) - 1 - k2) = (fr : Int) := by omega
          rw [hfi]
          have EX := Lib.hid (fun wr E hcw hown => extend_any wr w.heap.size w5.heap.size w3.heap.size (w.heap.size + 1 + 1) (w.heap.size + 1) (w3.heap.size + 1) bw ow capw ws sp wd E (tab ws sp wd ws.length k2) fr k2 (w.heap.size + 4) (by omega) (tab_ok ws sp wd ws.length hd1 hs0 HWW.out k2 (by omega)) hn ⟨hd0, hd1⟩ ⟨hs0, hs1⟩ HWS.out hcw (by omega) hown)
          have E : BrEnv wr w.heap.size w5.heap.size w3.heap.size (w.heap.size + 1 + 1) (w.heap.size + 1) (w3.heap.size + 1) (.slice (some ⟨bw, ow, none⟩) ws.length capw) ws sp wd :=
            ⟨HG.out.cell t0 (by simp; omega), HG.out.cell t4 (by simp; omega), HG.out.cell t3 (by simp), HG.out.cell t2 (by simp; omega), HG.out.cell t1 (by simp; omega), by omega, by omega, by omega, by omega, by omega⟩
          have hcwr : ∀ j x, ws[j]? = some x → wr.cell? ⟨bw, ow + j, none⟩ = some (.int .i64 x) := fun j x h => HG.out.cell (HCW6.out j x h) (by simp; omega)
          have XX := Lib.hid (EX.out wr E hcwr HO.out)
          have HT : Hid (upd (tab ws sp wd ws.length k2) fr (extH ws sp wd ws.length (tab ws sp wd ws.length k2) fr (k2 + 1) (fr + 1) (ws.getD fr 0) (tab ws sp wd ws.length k2 fr)) = tab ws sp wd ws.length (k2 + 1)) := by
            rw [tab, hfr, show ws.length - (k2 + 1) + 1 = ws.length - k2 from by omega]; rfl
          have HF := Lib.hid hfr
          have HFI := Lib.hid hfi
          have hfl : fr < ws.length := by omega
          clear hfr hfi EX E hcwr
          go_wp2_with fail
          refine XX.out.mono ?_
          rintro e w7 ⟨rfl, hown7, hgr7⟩
          rw [HT.out] at hown7
          have hG7 := grown_trans HG.out hgr7
          clear XX HT HO HG
          go_wp2
          go_roundw
          case rel => exact ⟨k2 + 1, by omega, by have := HF.out; go_num, hown7, hG7⟩
          case measure => simp [intOf]
        · have hkk : k2 = ws.length := by omega
          subst hkk
          have hlf2 : decide ((0 : Int) ≤ (ws.length : Int) - 1 - ws.length) = false := by simp; omega
          have hTab := tab_ok ws sp wd ws.length hd1 hs0 HWW.out ws.length (Nat.le_refl _)
          obtain ⟨F, hF⟩ : ∃ F, F = brFirst ws sp wd := ⟨_, rfl⟩
          have HF : Hid (firsts ws.length (tab ws sp wd ws.length ws.length) ws.length 0 = F) := hF.symm
          have HFF := Lib.hid hF
          have HCC : Hid (brCost ws sp wd = (tab ws sp wd ws.length ws.length 0).c) := rfl
          clear hF
          generalize tab ws sp wd ws.length ws.length = T at *
          have HTab := Lib.hid hTab
          clear hTab
          have u3 := HG.out.cell t3 (by simp)
          have u4 := HG.out.cell t4 (by simp; omega)
          have hbel : Below w.heap.size w wr := hb6.grown HG.out (by have := hb6.size; omega) (by simp; omega)
          have hsz := hbel.size
          have hcb := HO.out.cellAt (0 * 3 + 0) (by omega)
          rw [dcells_get _ _ _ _ (by omega) (by omega)] at hcb
          simp only [dpick, if_true, Nat.zero_mul, Nat.add_zero] at hcb
          clear t0 t1 t2 t3 t4 g0 g1 g2 g5 g6 HG
          have v3 := cell_lt u3
          have v4 := cell_lt u4
          have v5 := cell_lt hcb
          go_wp2
          obtain ⟨wo, hwo⟩ : ∃ wo : World, wo = wr := ⟨_, rfl⟩
          subst hwo
          go_loopw [6, 15] (fun v vi wz => NRel wo wz ws.length T F v vi) (fun _ i _ => ws.length - (intOf i).toNat)
          case atStart => exact ⟨0, ws.length, [], Nat.zero_le _, by omega, by simp, by simpa using HF.out, rfl, ⟨rfl, .inl ⟨rfl, rfl⟩⟩, Below.refl _ _⟩
          case round =>
            obtain ⟨i, f, acc, x1, x2, x3, x4, rfl, hown, hbel2⟩ := hrel
            have X4 := Lib.hid x4
            have hsz2 := hbel2.size
            clear x4
            have y3 : wr.cell? ⟨w3.heap.size, 0, none⟩ = some (.int .i64 ws.length) := by rw [hbel2.cell (p := ⟨w3.heap.size, 0, none⟩) v3]; exact u3
            have y4 : wr.cell? ⟨w5.heap.size, 0, none⟩ = some (.slice (some ⟨w3.heap.size + 1, 0, none⟩) (ws.length + 1) (ws.length + 1)) := by rw [hbel2.cell (p := ⟨w5.heap.size, 0, none⟩) v4]; exact u4
            by_cases hil : i < ws.length
            · have hci := HO.out.cellAt (i * 3 + 2) (by omega)
              rw [dcells_get _ _ _ _ (by omega) (by omega)] at hci
              simp only [dpick, Nat.reduceEqDiff, if_false] at hci
              have y5 : wr.cell? ⟨w3.heap.size + 1, i * 3 + 2, none⟩ = some (.int .i64 (T i).nx) := by rw [hbel2.cell (p := ⟨w3.heap.size + 1, i * 3 + 2, none⟩) v5]; exact hci
              have hnx := HTab.out.nx i (by omega) hil
              have hfn := Lib.hid (firsts_on ws.length T (f - 1) i hil)
              rw [show f - 1 + 1 = f from by omega] at hfn
              clear hci
              generalize (T i).nx = nx at *
              obtain ⟨m, rfl⟩ : ∃ m : Nat, nx = (m : Int) := ⟨nx.toNat, by omega⟩
              simp only [Int.toNat_natCast] at hfn
              have hi1 : (i : Int) < (ws.length : Int) + 1 := by omega
              go_wp2_with (at_builtin; refine wpList_append_own _ rfl _ _ 33 rfl wo.heap.size 3 iI (.int .i64 0) 1 8 Tryd.underlying33 hiI hzI0 hzI1 hzI2 rfl (by decide) _ _ _ rfl (hown.alloc _) ⟨wr.heap.size, 0, none⟩ 1 1 [.int .i64 i] rfl rfl ?c1 ?c2 ?c3 ?c4 ?c5 ?_)
              case c1 => exact new_one _ _ _
              case c2 => simp [Value.oneCell']
              case c3 => unfold maxLen; omega
              case c4 => omega
              case c5 => simp; omega
              intro v' w8 hown' hgrow _
              have hbel3 := below_app hbel2 hsz2 hown hgrow
              have z4 : w8.cell? ⟨w5.heap.size, 0, none⟩ = some (.slice (some ⟨w3.heap.size + 1, 0, none⟩) (ws.length + 1) (ws.length + 1)) := by rw [hbel3.cell (p := ⟨w5.heap.size, 0, none⟩) v4]; exact u4
              have z5 : w8.cell? ⟨w3.heap.size + 1, i * 3 + 2, none⟩ = some (.int .i64 m) := by rw [hbel3.cell (p := ⟨w3.heap.size + 1, i * 3 + 2, none⟩) v5, ← hbel2.cell (p := ⟨w3.heap.size + 1, i * 3 + 2, none⟩) v5]; exact y5
              clear y3 y4 y5
              go_wp2
              go_roundw
              case rel => exact ⟨m, f - 1, acc ++ [(i : Int)], by omega, by omega, by simp; omega, by rw [← X4.out, hfn.out]; simp, rfl, by simpa using hown', hbel3⟩
              case measure => simp [intOf]; omega
            · have hE := Lib.hid (firsts_end ws.length T f i hil)
              have y6 : wr.cell? ⟨w3.heap.size + 1, 0, none⟩ = some (.int .i64 (T 0).c) := by rw [hbel2.cell (p := ⟨w3.heap.size + 1, 0, none⟩) v5]; exact hcb
              have hi0 : (0 : Int) < (ws.length : Int) + 1 := by omega
              go_wp2_with fail
              go_quiet (fail)
              go_wp2
              go_ret3
              refine ⟨u6, by rw [HCC.out]; rfl, ?_, below_dN (below_trans_size hbel hbel2) _⟩
              have hA : acc = brFirst ws sp wd := by have := X4.out; rw [hE.out, List.append_nil] at this; rw [this, HFF.out]
              rw [← hA]
              exact own_mono hown hsz
end Go.Proofs.YtgjhfjplalcnbaaDoor
