/- The contract of publisherref38.best: the table that it fills is the plain one. -/
import Derived.Test.YtgjhfjplalcnbaaDoorBreak
import Derived.OneCell
namespace Go.Proofs.YtgjhfjplalcnbaaDoor
open Go.RowKit
set_option linter.unusedVariables false

def icells (f : Nat → Int) (N : Nat) : List Value := (List.range N).map fun j => Value.int .i64 (f j)
theorem icells_len (f : Nat → Int) (N : Nat) : (icells f N).length = N := by simp [icells]
theorem icells_get (f : Nat → Int) (N j : Nat) (hj : j < N) : (icells f N)[j]? = some (.int .i64 (f j)) := by
  unfold icells; rw [List.getElem?_map, List.getElem?_range hj]; rfl
theorem icells_set (f : Nat → Int) (N j : Nat) (hj : j < N) (x : Int) : (icells f N).set j (.int .i64 x) = icells (fun i => if i = j then x else f i) N := by
  apply List.ext_getElem?
  intro i
  by_cases hi : i < N
  · rw [icells_get _ _ _ hi, List.getElem?_set, icells_len]
    by_cases e : j = i
    · subst e; simp [hj]
    · rw [if_neg e, icells_get _ _ _ hi, if_neg (fun h => e h.symm)]
  · rw [List.getElem?_eq_none (by simp [icells_len]; omega), List.getElem?_eq_none (by simp [icells_len]; omega)]
theorem made1 (N : Nat) : (madeCells (Value.int .i64 0).cells (N * 1)).toList = icells (fun _ => 0) N := by
  apply List.ext_getElem?
  intro i
  by_cases hi : i < N
  · simp [madeCells, icells, Value.cells, hi, Nat.mod_one]
  · rw [List.getElem?_eq_none (by simp [madeCells]; omega), List.getElem?_eq_none (by simp [icells_len]; omega)]

/-- The three rows of a table. -/
structure Rows3 (w : World) (B gc gl gn N : Nat) (T : Nat → Dv) : Prop where
  c : w.ownsRow B 3 1 (.slice (some ⟨gc, 0, none⟩) N N) N (icells (fun j => (T j).c) N)
  l : w.ownsRow B 3 1 (.slice (some ⟨gl, 0, none⟩) N N) N (icells (fun j => (T j).l) N)
  n : w.ownsRow B 3 1 (.slice (some ⟨gn, 0, none⟩) N N) N (icells (fun j => (T j).nx) N)
  cl : gc ≠ gl
  cn : gc ≠ gn
  ln : gl ≠ gn

theorem upd_c (T : Nat → Dv) (j : Nat) (d : Dv) : (fun i => if i = j then d.c else (T i).c) = fun i => (upd T j d i).c := by
  funext i; unfold upd; split <;> rfl
theorem upd_l (T : Nat → Dv) (j : Nat) (d : Dv) : (fun i => if i = j then d.l else (T i).l) = fun i => (upd T j d i).l := by
  funext i; unfold upd; split <;> rfl
theorem upd_n (T : Nat → Dv) (j : Nat) (d : Dv) : (fun i => if i = j then d.nx else (T i).nx) = fun i => (upd T j d i).nx := by
  funext i; unfold upd; split <;> rfl

theorem Rows3.store {w : World} {B gc gl gn N : Nat} {T : Nat → Dv} (h : Rows3 w B gc gl gn N T) (j : Nat) (hj : j < N) (d : Dv) :
    Rows3 (((w.setCell ⟨gc, j, none⟩ (.int .i64 d.c)).setCell ⟨gl, j, none⟩ (.int .i64 d.l)).setCell ⟨gn, j, none⟩ (.int .i64 d.nx)) B gc gl gn N (upd T j d) := by
  have c1 := (h.c.stored j (.int .i64 d.c)).1
  have l1 := ((ownsRow_setCell_other h.l (a := ⟨gc, j, none⟩) (by simp [Value.ownBlock]; exact h.cl.symm) (.int .i64 d.c)).stored j (.int .i64 d.l)).1
  have n1 := ((ownsRow_setCell_other (ownsRow_setCell_other h.n (a := ⟨gc, j, none⟩) (by simp [Value.ownBlock]; exact h.cn.symm) (.int .i64 d.c)) (a := ⟨gl, j, none⟩) (by simp [Value.ownBlock]; exact h.ln.symm) (.int .i64 d.l)).stored j (.int .i64 d.nx)).1
  rw [icells_set _ _ _ hj, upd_c] at c1
  rw [icells_set _ _ _ hj, upd_l] at l1
  rw [icells_set _ _ _ hj, upd_n] at n1
  refine ⟨?_, ?_, n1, h.cl, h.cn, h.ln⟩
  · exact ownsRow_setCell_other (ownsRow_setCell_other c1 (a := ⟨gl, j, none⟩) (by simp [Value.ownBlock]; exact h.cl) _) (a := ⟨gn, j, none⟩) (by simp [Value.ownBlock]; exact h.cn) _
  · exact ownsRow_setCell_other l1 (a := ⟨gn, j, none⟩) (by simp [Value.ownBlock]; exact h.ln) _
theorem Rows3.drewN {w : World} {B gc gl gn N : Nat} {T : Nat → Dv} (h : Rows3 w B gc gl gn N T) (q : Nat) : Rows3 (w.drewN q) B gc gl gn N T := ⟨h.c, h.l, h.n, h.cl, h.cn, h.ln⟩

/-- What is left of the loop when the candidate before k has been tried. -/
def extT (ws : List Int) (sp wd : Int) (n : Nat) (T : Nat → Dv) (fr f k : Nat) (wide : Int) (cur : Dv) : Dv :=
  if k = fr + 1 then extH ws sp wd n T fr f k wide cur
  else if k = n + 1 then cur
  else if wd < wide + (sp + ws.getD (k - 1) 0) then cur
  else extH ws sp wd n T fr f k (wide + (sp + ws.getD (k - 1) 0)) cur

/-- One step: the candidate at k is tried. -/
theorem extT_step (ws : List Int) (sp wd : Int) (n : Nat) (T : Nat → Dv) (fr f k : Nat) (wide : Int) (cur : Dv) (hk : fr < k) (hkn : k ≤ n) :
    extH ws sp wd n T fr (f + 1) k wide cur = extT ws sp wd n T fr f (k + 1) wide (upOf n wd T fr k wide cur) := by
  unfold extT
  rw [if_neg (by omega), extH]
  by_cases h : k = n
  · rw [if_pos h, if_pos (by omega)]
  · have h1 : ¬ k + 1 = n + 1 := by omega
    rw [if_neg h, if_neg h1, Nat.add_sub_cancel]

/-- At the head of each round of the outer loop. -/
def ORel (w wr : World) (B gc gl gn : Nat) (ws : List Int) (sp wd : Int) (vi : Value) : Prop :=
  ∃ k : Nat, k ≤ ws.length ∧ vi = .int .i64 ((ws.length : Int) - 1 - k) ∧ Rows3 wr B gc gl gn (ws.length + 1) (tab ws sp wd ws.length k) ∧ Below w.heap.size w wr

/-- At the head of each round of the inner loop. -/
def IRel (w wr : World) (B gc gl gn : Nat) (T : Nat → Dv) (fr : Nat) (ws : List Int) (sp wd : Int) (k : Nat) (R : Dv) (vw vt : Value) : Prop :=
  ∃ (t : Nat) (wide : Int) (cur : Dv) (f : Nat), fr < t ∧ t ≤ ws.length + 1 ∧ t + f = ws.length + 1 ∧ 0 ≤ wide ∧ wide ≤ 1048576 ∧ (t = fr + 1 ∨ DvOk ws.length (k + 1) fr cur) ∧
    extT ws sp wd ws.length T fr f t wide cur = R ∧ vw = .int .i64 wide ∧ vt = .int .i64 t ∧ Rows3 wr B gc gl gn (ws.length + 1) (upd T fr cur) ∧ Below w.heap.size w wr

set_option maxRecDepth 100000 in
set_option maxHeartbeats 4000000 in
theorem rbest_any (w : World) (bw ow capw : Nat) (ws : List Int) (sp wd : Int) (hok : BrOk ws sp wd) (hn0 : 0 < ws.length) (hn : ws.length ≤ 4096) (hcap : ws.length ≤ capw)
    (hcw : ∀ j x, ws[j]? = some x → w.cell? ⟨bw, ow + j, none⟩ = some (.int .i64 x)) :
    Calls Tryd.prog 36 #[.slice (some ⟨bw, ow, none⟩) ws.length capw, .int .i64 sp, .int .i64 wd] w fun e w' =>
      ∃ gc gl gn, e = .returned (.tuple #[.slice (some ⟨gc, 0, none⟩) (ws.length + 1) (ws.length + 1), .slice (some ⟨gn, 0, none⟩) (ws.length + 1) (ws.length + 1)]) ∧ Rows3 w' w.heap.size gc gl gn (ws.length + 1) (brT ws sp wd) ∧ Below w.heap.size w w' := by
  obtain ⟨⟨hd0, hd1⟩, ⟨hs0, hs1⟩, hws⟩ := hok
  obtain ⟨iI, hiI, hzI0, hzI1, hzI2⟩ := info_parts infoI
  have HWS := Lib.hid hws
  have HCW := Lib.hid hcw
  have hbwl : bw < w.heap.size := cell_lt (hcw 0 _ (List.getElem?_eq_getElem hn0))
  clear hws hcw
  go_enter Tryd.func36, Tryd.ntmps36
  go_wp2_with (at_make; refine wpList_make_full _ rfl _ _ 33 rfl w.heap.size 3 iI _ 1 Tryd.underlying33 hiI hzI0 hzI1 .i64 .i64 _ _ (ws.length + 1) rfl rfl rfl rfl ?m3 ?m4 ?m5 ?_)
  case m3 => rw [hzI2]; omega
  case m4 => unfold maxLen; omega
  case m5 => omega
  intro w1 hown1 hgr1
  have g1 : w.heap.size < w1.heap.size := (hown1.lt _ rfl).2
  go_wp2_with (at_make; refine wpList_make_full _ rfl _ _ 33 rfl w.heap.size 3 iI _ 1 Tryd.underlying33 hiI hzI0 hzI1 .i64 .i64 _ _ (ws.length + 1) rfl rfl rfl rfl ?m3 ?m4 ?m5 ?_)
  case m3 => rw [hzI2]; omega
  case m4 => unfold maxLen; omega
  case m5 => omega
  intro w2 hown2 hgr2
  have g2 : w1.heap.size < w2.heap.size := (hown2.lt _ rfl).2
  go_wp2_with (at_make; refine wpList_make_full _ rfl _ _ 33 rfl w.heap.size 3 iI _ 1 Tryd.underlying33 hiI hzI0 hzI1 .i64 .i64 _ _ (ws.length + 1) rfl rfl rfl rfl ?m3 ?m4 ?m5 ?_)
  case m3 => rw [hzI2]; omega
  case m4 => unfold maxLen; omega
  case m5 => omega
  intro w4 hown4 hgr4
  have g4 : w2.heap.size < w4.heap.size := (hown4.lt _ rfl).2
  have R0 : Rows3 w4 w.heap.size w.heap.size w1.heap.size w2.heap.size (ws.length + 1) (tab ws sp wd ws.length 0) := by
    have e := made1 (ws.length + 1)
    rw [show (Value.int .i64 0).cells = #[Value.int .i64 0] from rfl, Nat.mul_one] at e
    rw [e] at hown1 hown2 hown4
    exact ⟨(hown1.kept hgr2 (by simp [Value.ownBlock])).kept hgr4 (by simp [Value.ownBlock]), hown2.kept hgr4 (by simp [Value.ownBlock]), hown4, by omega, by omega, by omega⟩
  have hb4 : Below w.heap.size w w4 := (((Below.refl w.heap.size w).grown hgr1 (Nat.le_refl _) (by simp)).grown hgr2 (by omega) (by simp)).grown hgr4 (by omega) (by simp)
  have HR0 := Lib.hid R0
  clear R0 hown1 hown2 hown4 hgr1 hgr2 hgr4
  generalize hgc : w.heap.size = gc at *
  generalize hgl : w1.heap.size = gl at *
  generalize hgn : w2.heap.size = gn at *
  have HWW : Hid (∀ x ∈ ws, (0 : Int) ≤ x) := fun x hx => (HWS.out x hx).1
  have HGC := Lib.hid hgc
  clear hgc hgl hgn
  go_wp2
  go_loopw [12] (fun vi wr => ORel w wr gc gc gl gn ws sp wd vi) (fun i _ => (intOf i + 1).toNat)
  case atStart => exact ⟨0, Nat.zero_le _, by go_num, HR0.out, by rw [HGC.out]; exact hb4⟩
  case round =>
    obtain ⟨k, hk, rfl, hrows, hbel⟩ := hrel
    by_cases hkn : k < ws.length
    · obtain ⟨fr, hfr⟩ : ∃ fr : Nat, fr = ws.length - (k + 1) := ⟨_, rfl⟩
      have hfi : ((ws.length : Int) - 1 - k) = (fr : Int) := by omega
      rw [hfi]
      have HTU : Hid (upd (tab ws sp wd ws.length k) fr (extH ws sp wd ws.length (tab ws sp wd ws.length k) fr (k + 1) (fr + 1) (ws.getD fr 0) (tab ws sp wd ws.length k fr)) = tab ws sp wd ws.length (k + 1)) := by
        rw [tab, hfr, show ws.length - (k + 1) + 1 = ws.length - k from by omega]; rfl
      have hT := tab_ok ws sp wd ws.length hd1 hs0 HWW.out k (by omega)
      have hfl : fr < ws.length := by omega
      have HFR : Hid (fr + (k + 1) = ws.length) := by show fr + (k + 1) = ws.length; omega
      have HFI := Lib.hid hfi
      clear hfr hfi
      obtain ⟨R, hR⟩ : ∃ R, R = extH ws sp wd ws.length (tab ws sp wd ws.length k) fr (k + 1) (fr + 1) (ws.getD fr 0) (tab ws sp wd ws.length k fr) := ⟨_, rfl⟩
      rw [← hR] at HTU
      have HR : Hid (extT ws sp wd ws.length (tab ws sp wd ws.length k) fr (k + 1) (fr + 1) (ws.getD fr 0) (tab ws sp wd ws.length k fr) = R) := by
        show extT _ _ _ _ _ _ _ _ _ _ = R
        unfold extT; rw [if_pos rfl, hR]
      clear hR
      obtain ⟨x0, hx0⟩ : ∃ x, ws[fr]? = some x := ⟨_, List.getElem?_eq_getElem hfl⟩
      have hxd : ws.getD fr 0 = x0 := by rw [List.getD_eq_getElem?_getD, hx0]; rfl
      rw [hxd] at HR
      obtain ⟨b0, b1⟩ := HWS.out _ (List.mem_of_getElem? hx0)
      have c0 : wr.cell? ⟨bw, ow + fr, none⟩ = some (.int .i64 x0) := by rw [hbel.cell (p := ⟨bw, ow + fr, none⟩) (by rw [HGC.out]; exact hbwl)]; exact HCW.out fr _ hx0
      generalize tab ws sp wd ws.length k = T at *
      clear hx0 hxd
      have HT := Lib.hid hT
      have HRW := Lib.hid hrows
      clear hT hrows
      go_wp2
      clear c0
      obtain ⟨wo, hwo⟩ : ∃ wo : World, wo = wr := ⟨_, rfl⟩
      subst hwo
      go_loopw [13, 14] (fun vw vt wz => IRel w wz gc gc gl gn T fr ws sp wd k R vw vt) (fun _ t _ => ws.length + 2 - (intOf t).toNat)
      case atStart => exact ⟨fr + 1, x0, T fr, k + 1, by omega, by omega, by have := HFR.out; omega, b0, b1, .inl rfl, HR.out, rfl, by go_num, by rw [upd_same]; exact HRW.out, hbel⟩
      case round =>
        obtain ⟨t, wide, cur, f, r1, r2, r3, r4, r5, r6, r7, rfl, rfl, hrows, hbel2⟩ := hrel
        have H3 := Lib.hid r3
        have H6 := Lib.hid r6
        have H7 := Lib.hid r7
        have HRW2 := Lib.hid hrows
        have hk4 : k ≤ 4095 := by have := HFR.out; omega
        clear r3 r6 r7 hrows HRW
        by_cases hte : t = ws.length + 1
        · have hRc : R = cur := by rw [← H7.out]; unfold extT; rw [if_neg (by omega), if_pos hte]
          subst hRc
          have HTE := Lib.hid hte
          have hlf : ws.length < t := by omega
          clear hte H7
          go_wp2
          go_roundw
          case rel =>
            refine ⟨k + 1, by omega, by have := HFI.out; go_num, ?_, hbel2⟩
            have h := HRW2.out
            rw [HTU.out] at h
            exact h
          case measure => simp [intOf]
        · have htn1 : t ≤ ws.length := by omega
          obtain ⟨f', rfl⟩ : ∃ f', f = f' + 1 := ⟨f - 1, by have := H3.out; omega⟩
          have tc := HRW2.out.c.cellAt t (by omega)
          have tl := HRW2.out.l.cellAt t (by omega)
          have fc := HRW2.out.c.cellAt fr (by omega)
          have fl := HRW2.out.l.cellAt fr (by omega)
          have fn := HRW2.out.n.cellAt fr (by omega)
          have zc := HRW2.out.c.frozenAt fr
          have zl := HRW2.out.l.frozenAt fr
          have zn := HRW2.out.n.frozenAt fr
          rw [icells_get _ _ _ (by omega)] at tc tl fc fl fn
          have hne : upd T fr cur t = T t := by unfold upd; rw [if_neg (by omega)]
          have heq : upd T fr cur fr = cur := by unfold upd; rw [if_pos rfl]
          rw [hne] at tc tl
          rw [heq] at fc fl fn
          have hTt := HT.out.c0 t
          have hTl := HT.out.l0 t
          clear hne heq
          generalize hTe : T t = Te at *
          have HTe := Lib.hid hTe
          clear hTe
          obtain ⟨Tc, Tl, Tn⟩ := Te
          obtain ⟨uc, ul, un⟩ := cur
          simp only at tc tl fc fl fn hTt hTl
          have hcl := HRW2.out.cl
          have hcn := HRW2.out.cn
          have hln := HRW2.out.ln
          have i1 : (t : Int) < (ws.length : Int) + 1 := by omega
          have i2 : (fr : Int) < (ws.length : Int) + 1 := by omega
          have hbw2 : bw < w.heap.size := by rw [HGC.out]; exact hbwl
          by_cases hfirst : t = fr + 1
          · have hR2 : Hid (extT ws sp wd ws.length T fr f' (t + 1) wide (upOf ws.length wd T fr t wide ⟨uc, ul, un⟩) = R) := by
              show extT _ _ _ _ _ _ _ _ _ _ = R
              rw [← extT_step _ _ _ _ _ _ _ _ _ _ r1 htn1, ← H7.out]
              unfold extT; rw [if_pos hfirst]
            have e1 : ((t : Int) == (fr : Int) + 1) = true := by simp; omega
            have e2 : t ≤ fr + 1 := by omega
            have HF1 := Lib.hid hfirst
            clear hfirst H7
            go_upto_region 16 with (fail)
            obtain ⟨q1, hq1⟩ : ∃ q : Bool, q = decide (t < ws.length ∧ wide ≤ wd) := ⟨_, rfl⟩
            obtain ⟨own, hown⟩ : ∃ x : Int, x = if t < ws.length ∧ wide ≤ wd then (wd - wide) * (wd - wide) else 0 := ⟨_, rfl⟩
            have hob : 0 ≤ own ∧ own ≤ 1099511627776 := by
              rw [hown]; split
              · rename_i hh; exact sq_bd (by omega) (by omega)
              · omega
            have HQ1 := Lib.hid hq1
            have HOW := Lib.hid hown
            clear hq1 hown
            go_cut [69] (fun s69 wx => s69 = .bool q1 ∧ wr = wx)
            case first =>
              by_cases htn : t < ws.length
              · by_cases hww : wide ≤ wd
                · have e : decide (wide ≤ wd) = true := by simpa using hww
                  go_wp2_with fail
                  go_meet
                  exact ⟨by rw [HQ1.out]; simp [htn, hww], rfl⟩
                · have e : decide (wide ≤ wd) = false := by simpa using hww
                  go_wp2_with fail
                  go_meet
                  exact ⟨by rw [HQ1.out]; simp [htn, hww], rfl⟩
              · have e : decide (t < ws.length) = false := by simpa using htn
                go_wp2_with fail
                go_meet
                exact ⟨by rw [HQ1.out]; simp [htn], rfl⟩
            case rest =>
              obtain ⟨rfl, rfl⟩ := hcut
              go_upto_if 69 with (fail)
              go_cut [15] (fun s15 wx => s15 = .int .i64 own ∧ wr = wx)
              case first =>
                cases q1
                · go_wp2_with fail
                  go_meet
                  have hxc := HOW.out
                  have hq := HQ1.out
                  rw [if_neg (by simpa using hq.symm)] at hxc
                  exact ⟨by rw [hxc], rfl⟩
                · have hq := HQ1.out
                  have hq' : t < ws.length ∧ wide ≤ wd := by simpa using hq.symm
                  have hsq := sq_bd (x := wd - wide) (by omega) (by omega)
                  have hq0 := hsq.1
                  have hq1 := hsq.2
                  have HQ' := Lib.hid hq'
                  clear hsq hq hq'
                  go_wp2_with fail
                  go_meet
                  have hxc := HOW.out
                  rw [if_pos HQ'.out] at hxc
                  exact ⟨by rw [hxc], rfl⟩
              case rest =>
                obtain ⟨rfl, rfl⟩ := hcut
                have s1 : IntKind.i64.wrap (own + Tc) = own + Tc := IntWalk.i64_in _ (by omega)
                have s2 : IntKind.i64.wrap (1 + Tl) = 1 + Tl := IntWalk.i64_in _ (by omega)
                have hcand : cand ws.length wd T t wide = ⟨own + Tc, 1 + Tl, t⟩ := by
                  unfold cand; rw [HTe.out, HOW.out]; simp only [Int.add_comm]
                have HCA := Lib.hid hcand
                clear hcand HQ1 HOW
                go_wp2_with fail
                go_quiet (fail)
                clear s1 s2
                go_wp2
                go_roundw
                case rel =>
                  have hup : upOf ws.length wd T fr t wide ⟨uc, ul, un⟩ = ⟨own + Tc, 1 + Tl, t⟩ := by unfold upOf; rw [if_pos (.inl HF1.out), HCA.out]
                  have hok2 := up_ok HT.out hd1 r1 htn1 r4 H6.out
                  have hR3 := hR2.out
                  rw [hup] at hok2 hR3
                  have hst := HRW2.out.store fr (by omega) ⟨own + Tc, 1 + Tl, t⟩
                  rw [upd_upd] at hst
                  exact ⟨t + 1, wide, ⟨own + Tc, 1 + Tl, t⟩, f', by omega, by omega, by have := H3.out; omega, r4, r5, .inr hok2, hR3, rfl, by go_num, hst.drewN _, below_dN (((hbel2.setCell (by show _ ≤ gc; rw [HGC.out]; exact Nat.le_refl _) _).setCell (by show _ ≤ gl; rw [HGC.out]; exact (HRW2.out.l.lt _ rfl).1) _).setCell (by show _ ≤ gn; rw [HGC.out]; exact (HRW2.out.n.lt _ rfl).1) _) _⟩
                case measure => simp [intOf]; omega
          · have hlt3 : fr + 1 < t := by omega
            have hne1 : ((t : Int) == (fr : Int) + 1) = false := by simp; omega
            obtain ⟨y, hy⟩ : ∃ y, ws[t - 1]? = some y := ⟨_, List.getElem?_eq_getElem (by omega)⟩
            have hyd : ws.getD (t - 1) 0 = y := by rw [List.getD_eq_getElem?_getD, hy]; rfl
            have c1 : wr.cell? ⟨bw, ow + (t - 1), none⟩ = some (.int .i64 y) := by rw [hbel2.cell (p := ⟨bw, ow + (t - 1), none⟩) hbw2]; exact HCW.out (t - 1) _ hy
            obtain ⟨y0, y1⟩ := HWS.out _ (List.mem_of_getElem? hy)
            have hE := H7.out
            unfold extT at hE
            rw [if_neg hfirst, if_neg hte, hyd] at hE
            have HE := Lib.hid hE
            have HF1 := Lib.hid hfirst
            clear hE hy hyd H7 hfirst
            have ht1 : (0 : Int) ≤ (t : Int) - 1 := by omega
            have ht2 : (t : Int) - 1 < (ws.length : Int) := by omega
            have ht3 : ((t : Int) - 1).toNat = t - 1 := by omega
            by_cases hww : wd < wide + (sp + y)
            · have hRc : R = ⟨uc, ul, un⟩ := by rw [← HE.out, if_pos hww]
              subst hRc
              clear HE
              go_wp2
              go_roundw
              case rel =>
                refine ⟨k + 1, by omega, by have := HFI.out; go_num, ?_, hbel2⟩
                have h := HRW2.out
                rw [HTU.out] at h
                exact h
              case measure => simp [intOf]
            · have hR2 : Hid (extT ws sp wd ws.length T fr f' (t + 1) (wide + (sp + y)) (upOf ws.length wd T fr t (wide + (sp + y)) ⟨uc, ul, un⟩) = R) := by
                show extT _ _ _ _ _ _ _ _ _ _ = R
                rw [← extT_step _ _ _ _ _ _ _ _ _ _ r1 htn1, ← HE.out, if_neg hww]
              clear HE
              go_upto_region 16 with (fail)
              clear c1
              have hw0 : 0 ≤ wide + (sp + y) := by omega
              have hw1 : wide + (sp + y) ≤ 1048576 := by omega
              have hw2 : wide + (sp + y) ≤ wd := by omega
              clear hww
              generalize wide + (sp + y) = wide2 at *
              obtain ⟨q1, hq1⟩ : ∃ q : Bool, q = decide (t < ws.length ∧ wide2 ≤ wd) := ⟨_, rfl⟩
              obtain ⟨own, hown⟩ : ∃ x : Int, x = if t < ws.length ∧ wide2 ≤ wd then (wd - wide2) * (wd - wide2) else 0 := ⟨_, rfl⟩
              have hob : 0 ≤ own ∧ own ≤ 1099511627776 := by
                rw [hown]; split
                · rename_i hh; exact sq_bd (by omega) (by omega)
                · omega
              have HQ1 := Lib.hid hq1
              have HOW := Lib.hid hown
              clear hq1 hown
              go_cut [69] (fun s69 wx => s69 = .bool q1 ∧ wr = wx)
              case first =>
                by_cases htn : t < ws.length
                · by_cases hww : wide2 ≤ wd
                  · have e : decide (wide2 ≤ wd) = true := by simpa using hww
                    go_wp2_with fail
                    go_meet
                    exact ⟨by rw [HQ1.out]; simp [htn, hww], rfl⟩
                  · have e : decide (wide2 ≤ wd) = false := by simpa using hww
                    go_wp2_with fail
                    go_meet
                    exact ⟨by rw [HQ1.out, decide_eq_true (⟨htn, by omega⟩ : t < ws.length ∧ wide2 ≤ wd)], rfl⟩
                · have e : decide (t < ws.length) = false := by simpa using htn
                  go_wp2_with fail
                  go_meet
                  exact ⟨by rw [HQ1.out]; simp [htn], rfl⟩
              case rest =>
                obtain ⟨rfl, rfl⟩ := hcut
                go_upto_if 69 with (fail)
                go_cut [15] (fun s15 wx => s15 = .int .i64 own ∧ wr = wx)
                case first =>
                  cases q1
                  · go_wp2_with fail
                    go_meet
                    have hxc := HOW.out
                    have hq := HQ1.out
                    rw [if_neg (by simpa using hq.symm)] at hxc
                    exact ⟨by rw [hxc], rfl⟩
                  · have hq := HQ1.out
                    have hq' : t < ws.length ∧ wide2 ≤ wd := by simpa using hq.symm
                    have hsq := sq_bd (x := wd - wide2) (by omega) (by omega)
                    have hq0 := hsq.1
                    have hq1 := hsq.2
                    have HQ' := Lib.hid hq'
                    clear hsq hq hq'
                    go_wp2_with fail
                    go_meet
                    have hxc := HOW.out
                    rw [if_pos HQ'.out] at hxc
                    exact ⟨by rw [hxc], rfl⟩
                case rest =>
                  obtain ⟨rfl, rfl⟩ := hcut
                  have s1 : IntKind.i64.wrap (own + Tc) = own + Tc := IntWalk.i64_in _ (by omega)
                  have s2 : IntKind.i64.wrap (1 + Tl) = 1 + Tl := IntWalk.i64_in _ (by omega)
                  have hcand : cand ws.length wd T t wide2 = ⟨own + Tc, 1 + Tl, t⟩ := by
                    unfold cand; rw [HTe.out, HOW.out]; simp only [Int.add_comm]
                  have HCA := Lib.hid hcand
                  clear hcand HQ1 HOW
                  go_wp2_with fail
                  go_quiet (fail)
                  clear s1 s2
                  obtain ⟨q2, hq2⟩ : ∃ q : Bool, q = betterB ⟨own + Tc, 1 + Tl, t⟩ ⟨uc, ul, un⟩ := ⟨_, rfl⟩
                  have HQ2 := Lib.hid hq2
                  clear hq2
                  go_upto_region 19 with (fail)
                  go_cut [115] (fun s115 wx => s115 = .bool q2 ∧ wr.drewN nq = wx)
                  case first =>
                    by_cases g2 : own + Tc < uc
                    · have e2 : decide (own + Tc < uc) = true := by simpa using g2
                      go_wp2_with fail
                      go_meet
                      exact ⟨by rw [HQ2.out]; simp [betterB, g2], rfl⟩
                    · have e2 : decide (own + Tc < uc) = false := by simpa using g2
                      by_cases g3 : own + Tc = uc
                      · have e3 : (own + Tc == uc) = true := by simpa using g3
                        have HG3 := Lib.hid g3
                        clear g3
                        by_cases g4 : 1 + Tl < ul
                        · have e4 : decide (1 + Tl < ul) = true := by simpa using g4
                          go_wp2_with fail
                          go_meet
                          exact ⟨by rw [HQ2.out]; simp [betterB, HG3.out, g4], rfl⟩
                        · have e4 : decide (1 + Tl < ul) = false := by simpa using g4
                          go_wp2_with fail
                          go_meet
                          exact ⟨by rw [HQ2.out]; simp [betterB, HG3.out, g4], rfl⟩
                      · have e3 : (own + Tc == uc) = false := by simpa using g3
                        go_wp2_with fail
                        go_meet
                        exact ⟨by rw [HQ2.out]; simp [betterB, g2, g3], rfl⟩
                  case rest =>
                    obtain ⟨rfl, rfl⟩ := hcut
                    have hup : upOf ws.length wd T fr t wide2 ⟨uc, ul, un⟩ = if q2 = true then ⟨own + Tc, 1 + Tl, t⟩ else ⟨uc, ul, un⟩ := by
                      unfold upOf; rw [HCA.out, HQ2.out]
                      have := HF1.out
                      simp [this]
                    have hok2 := up_ok HT.out hd1 r1 htn1 hw0 H6.out
                    have hR3 := hR2.out
                    have HUP := Lib.hid hup
                    have HOK := Lib.hid hok2
                    have HR3 := Lib.hid hR3
                    clear hup hok2 hR3 hR2 HCA HQ2
                    cases q2
                    · go_wp2
                      go_roundw
                      case rel =>
                        have hup := HUP.out
                        simp only [Bool.false_eq_true, if_false] at hup
                        have hok2 := HOK.out
                        have hR3 := HR3.out
                        rw [hup] at hok2 hR3
                        exact ⟨t + 1, wide2, ⟨uc, ul, un⟩, f', by omega, by omega, by have := H3.out; omega, hw0, hw1, .inr hok2, hR3, rfl, by go_num, HRW2.out.drewN _, below_dN hbel2 _⟩
                      case measure => simp [intOf]; omega
                    · go_wp2
                      go_roundw
                      case rel =>
                        have hup := HUP.out
                        simp only [if_true] at hup
                        have hok2 := HOK.out
                        have hR3 := HR3.out
                        rw [hup] at hok2 hR3
                        have hst := HRW2.out.store fr (by omega) ⟨own + Tc, 1 + Tl, t⟩
                        rw [upd_upd] at hst
                        exact ⟨t + 1, wide2, ⟨own + Tc, 1 + Tl, t⟩, f', by omega, by omega, by have := H3.out; omega, hw0, hw1, .inr hok2, hR3, rfl, by go_num, hst.drewN _, below_dN (((hbel2.setCell (by show _ ≤ gc; rw [HGC.out]; exact Nat.le_refl _) _).setCell (by show _ ≤ gl; rw [HGC.out]; exact (HRW2.out.l.lt _ rfl).1) _).setCell (by show _ ≤ gn; rw [HGC.out]; exact (HRW2.out.n.lt _ rfl).1) _) _⟩
                      case measure => simp [intOf]; omega
    · have hkk : k = ws.length := by omega
      subst hkk
      have hlf2 : decide ((0 : Int) ≤ (ws.length : Int) - 1 - ws.length) = false := by simp; omega
      have HRW := Lib.hid hrows
      clear hrows
      go_wp2
      go_ret2
      exact ⟨gc, gl, gn, rfl, by rw [HGC.out]; exact HRW.out, hbel⟩
end Go.Proofs.YtgjhfjplalcnbaaDoor
