/- Small entries; the walk of publisherlaw24.TocList. -/
import Derived.Test.YtlbioncagkkkoaaDoorKTwA
import Derived.Test.YtlbioncagkkkoaaDoorKRtL
import Derived.Test.YtlbioncagkkkoaaDoorKSmLn
import Derived.Test.YtlbioncagkkkoaaDoorKSameBl
import Derived.Test.YtlbioncagkkkoaaDoorKPlMz
import Derived.Test.YtlbioncagkkkoaaDoorKTwS
namespace Go.Proofs.YtlbioncagkkkoaaDoor
open Go.RowKit
set_option linter.unusedVariables false
set_option linter.unusedSimpArgs false

theorem Rd.anyLt {ok : Nat → Prop} {w : World} {k : Nat} {l : List D} {v : Value} (h : Rd ok w (.sl k l) [v]) : Rd (· < w.heap.size) w (.sl k l) [v] := Rd.keep (fun b _ h2 => ⟨h2, rfl⟩) _ _ h
/-- Few and short entries. -/
structure EnSm (x : En) : Prop where
  id : x.id.size ≤ 100
  tx : x.tx.size ≤ 100
  ln : Inl.smallL x.line
  sz : Inl.szL x.line ≤ 120
theorem sh_sz (x : En) (h : EnSm x) : Inl.szL (shKids x) ≤ 121 := by
  unfold shKids
  rw [szL_app2]
  have := h.sz
  split
  · rw [Inl.szL]; omega
  · rw [szL_one]; unfold txI; rw [Inl.sz, Inl.szL]; omega
theorem sh_bd (x : En) (h : EnSm x) : Inl.bdL (shKids x) := by
  have h1 := Inl.bdL_sm x.line h.ln
  unfold shKids
  split
  · exact h1
  · show Inl.bdL (_ :: x.line)
    rw [Inl.bdL]
    refine ⟨?_, h1⟩
    unfold txI
    simp [Inl.bd, at0, Inl.bdL]
theorem sh_tx (x : En) (h : EnSm x) : Inl.txBL (shKids x) := by
  have h1 := Inl.txBL_sm x.line h.ln
  unfold shKids
  split
  · exact h1
  · show Inl.txBL (_ :: x.line)
    rw [Inl.txBL]
    refine ⟨?_, h1⟩
    unfold txI
    rw [Inl.txB, Inl.txBL]
    have := h.tx
    refine ⟨?_, trivial⟩
    rw [ByteArray.size_append]
    show _ + 1 ≤ _
    omega
theorem sh_ok (x : En) (h : EnSm x) : ShOk x where
  sz := Nat.le_trans (sh_sz x h) (by decide)
  bd := sh_bd x h
  tx := sh_tx x h
  id := by have := h.id; omega
  txs := by have := h.tx; omega
  lb := Inl.bdL_sm x.line h.ln
  ls := by have := h.sz; omega
theorem rsh_ok (x : En) (h : EnSm x) : RShOk x where
  sz := Nat.le_trans (sh_sz x h) (by decide)
  tx := sh_tx x h
  id := by have := h.id; omega
  txs := by have := h.tx; omega
  ls := by have := h.sz; omega
def SmRl (l : List En) (w : World) (vi : Value) (wr : World) : Prop := ∃ k : Nat, k ≤ l.length ∧ vi = .int .i64 k ∧ (∀ x ∈ l.take k, EnSm x) ∧ Below w.heap.size w wr

set_option maxRecDepth 100000 in
set_option maxHeartbeats 4000000 in
theorem smallE_any (l : List En) (v : Value) (w : World) (hrd : Rd (· < w.heap.size) w (ensD l) [v]) (hwf : ∀ x ∈ l, x.wf) :
    Calls Tryd.prog 5 #[v] w fun e w' => ∃ b, e = .returned (.bool b) ∧ (b = true → l.length ≤ 30 ∧ ∀ x ∈ l, EnSm x) ∧ Below w.heap.size w w' := by
  obtain ⟨a, cap, hv, hs⟩ := Rd.sl_open hrd
  obtain rfl : v = .slice a l.length cap := by simpa using hv
  have hcap : l.length ≤ cap := by simpa using hs.le
  have hmx := hs.max
  unfold maxLen at hmx
  have HS := Lib.hid hs
  have HWF := Lib.hid hwf
  clear hs hv hrd hwf
  by_cases h30 : 30 < l.length
  · have q1 : decide ((30 : Int) < (l.length : Int)) = true := decide_eq_true (by omega)
    go_enter Tryd.func5, Tryd.ntmps5
    go_wp2
    go_ret
    exact ⟨false, rfl, (fun h => by cases h), Below.refl _ _⟩
  have q1 : decide ((30 : Int) < (l.length : Int)) = false := decide_eq_false (by omega)
  have R0 : Hid (SmRl l w (.int .i64 0) w) := ⟨0, Nat.zero_le _, rfl, by simp, Below.refl _ _⟩
  go_enter Tryd.func5, Tryd.ntmps5
  go_wp2
  go_loopw [3] (fun vi wr => SmRl l w vi wr) (fun i _ => l.length - (intOf i).toNat)
  case atStart => exact R0.out
  case round =>
    clear R0
    obtain ⟨k, hk, rfl, hall, hbel⟩ := hrel
    have HALL := Lib.hid hall
    have HBEL := Lib.hid hbel
    by_cases hlt : k < l.length
    · obtain ⟨x, hx⟩ : ∃ x, l[k]? = some x := ⟨_, List.getElem?_eq_getElem hlt⟩
      have hxm := List.mem_of_getElem? hx
      have hxw := HWF.out x hxm
      obtain ⟨g, off, vl, vr, rfl, hgo, hgl, c0, c1, c2, c3, c4, hER⟩ := ens_at (HS.out.up0 hbel) hx
      obtain ⟨al, nl, cl, rfl⟩ := Rd.sl_form hER.line
      have HTK : Hid (EnSm x → ∀ y ∈ l.take (k + 1), EnSm y) := by
        intro h y hy
        rw [List.take_add_one, hx] at hy
        rcases List.mem_append.1 hy with hy | hy
        · exact HALL.out y hy
        · simp at hy; subst hy; exact h
      obtain ⟨lv, id, tx, line, refs⟩ := x
      dsimp only at c0 c1 c2 c3 c4 hER
      obtain ⟨w1, w2, w3, w4, w5, w6, w7⟩ := hxw
      dsimp only at w1 w2 w3 w4 w5 w6 w7
      have SM := Lib.hid (small_line line (.slice al nl cl) wr hER.line.anyLt w4 w5)
      have hBX := hbel.size
      clear hx hxm hall hgo hgl hER hbel w1 w6 w7
      by_cases h1 : 100 < id.size
      · have r1 : decide ((100 : Int) < (id.size : Int)) = true := decide_eq_true (by omega)
        go_wp2
        go_ret
        exact ⟨false, rfl, (fun h => by cases h), HBEL.out⟩
      have r1 : decide ((100 : Int) < (id.size : Int)) = false := decide_eq_false (by omega)
      by_cases h2 : 100 < tx.size
      · have r2 : decide ((100 : Int) < (tx.size : Int)) = true := decide_eq_true (by omega)
        go_wp2
        go_ret
        exact ⟨false, rfl, (fun h => by cases h), HBEL.out⟩
      have r2 : decide ((100 : Int) < (tx.size : Int)) = false := decide_eq_false (by omega)
      go_wp2_with fail
      refine SM.out.mono ?_
      rintro e w9 ⟨b, rfl, hb, b9⟩
      have HB := Lib.hid hb
      have B9 := Lib.hid (below_trans_size HBEL.out b9)
      clear hb b9 SM
      cases b with
      | false =>
        go_wp2
        go_ret
        exact ⟨false, rfl, (fun h => by cases h), B9.out⟩
      | true =>
        have HX : Hid (∀ y ∈ l.take (k + 1), EnSm y) := HTK.out ⟨by show id.size ≤ 100; omega, by show tx.size ≤ 100; omega, (HB.out rfl).1, (HB.out rfl).2⟩
        go_wp2
        go_roundw
        case rel => exact ⟨k + 1, by omega, by go_num, HX.out, B9.out⟩
        case measure => simp [intOf]; omega
    · have hkl : k = l.length := by omega
      subst hkl
      rw [List.take_length] at HALL
      go_wp2
      go_ret
      exact ⟨true, rfl, fun _ => ⟨by omega, HALL.out⟩, HBEL.out⟩

set_option maxRecDepth 100000 in
set_option maxHeartbeats 4000000 in
theorem list_walk (l : List En) (v : Value) (w : World) (hrd : Rd (· < w.heap.size) w (ensD l) [v]) (hwf : ∀ x ∈ l, x.wf) (hT : PT w) :
    Calls Tryd.prog 3 #[v] w fun e w' => e = .returned (.bool true) ∧ Below w.heap.size w w' := by
  obtain ⟨a, n, c, rfl⟩ := Rd.sl_form hrd
  have SM := Lib.hid (smallE_any l _ w hrd hwf)
  have HRD := Lib.hid hrd
  have HT := Lib.hid hT
  clear hrd hwf hT
  go_enter Tryd.func3, Tryd.ntmps3
  go_wp2_with fail
  refine SM.out.mono ?_
  rintro e w1 ⟨b, rfl, hb, b1⟩
  have HB1 := Lib.hid b1
  have HT1 := Lib.hid (HT.out.below b1)
  have HR1 := Lib.hid (HRD.out.up b1)
  cases b with
  | false =>
    clear hb b1 SM
    go_wp2_with fail
    refine (awake_any _ HT1.out).mono ?_
    rintro e w2 ⟨rfl, b2⟩
    have HZ := Lib.hid (below_trans_size HB1.out b2)
    clear b2
    go_wp2
    go_ret
    exact ⟨rfl, HZ.out⟩
  | true =>
    obtain ⟨h30, hall⟩ := hb rfl
    have HEN : Hid (EnsOk l) := ⟨by omega, fun x hx => sh_ok x (hall x hx)⟩
    have HRN : Hid (REnsOk l) := ⟨by omega, fun x hx => rsh_ok x (hall x hx)⟩
    have LS := Lib.hid (tocList_any l _ w1 HR1.out HEN.out)
    clear hb b1 SM hall
    go_wp2_with fail
    refine LS.out.mono ?_
    rintro e w2 ⟨v2, rfl, h2, b2⟩
    obtain ⟨a2, n2, c2, rfl⟩ := Rd.sl_form h2
    have HB2 := Lib.hid (below_trans_size HB1.out b2)
    have HT2 := Lib.hid (HT1.out.below b2)
    have RL := Lib.hid (rList24_any l.length l (.slice a n c) (· < w2.heap.size) w2 (Nat.le_refl _) (HR1.out.up b2) (fun b hb => hb) HRN.out)
    have H2 := Lib.hid h2
    clear h2 b2 LS
    go_wp2_with fail
    refine RL.out.mono ?_
    rintro e w3 ⟨v3, rfl, h3, b3⟩
    obtain ⟨a3, n3, c3, rfl⟩ := Rd.sl_form h3
    have SB := Lib.hid (sameBlocks_any _ (listR l) (listR l) _ _ w3 (Nat.le_refl _) ((H2.out.anyLt).up b3) h3.anyLt)
    have HB3 := Lib.hid (below_trans_size HB2.out b3)
    have HT3 := Lib.hid (HT2.out.below b3)
    clear h3 b3 RL H2
    go_wp2_with fail
    refine SB.out.mono ?_
    rintro e w4 ⟨b, rfl, hb, b4⟩
    obtain rfl : b = true := hb.2 rfl
    have HB4 := Lib.hid (below_trans_size HB3.out b4)
    have HT4 := Lib.hid (HT3.out.below b4)
    clear hb b4 SB
    go_wp2_with fail
    refine (awake_any _ HT4.out).mono ?_
    rintro e w5 ⟨rfl, b5⟩
    have HZ := Lib.hid (below_trans_size HB4.out b5)
    clear b5
    go_wp2
    go_ret
    exact ⟨rfl, HZ.out⟩
end Go.Proofs.YtlbioncagkkkoaaDoor
