/- Proved: the tied card of publisherlaw38.WrapKeeps: it returns true at every string and every width, and the arguments read as before; font's table is what the program's text lays. No other condition. -/
import Derived.Test.YtgjhfjplalcnbaaDoorLaidFont
import Derived.Test.YtgjhfjplalcnbaaDoorPlKept
import Derived.Test.YtgjhfjplalcnbaaDoorKeepJ
import Derived.Test.YtgjhfjplalcnbaaDoorLines
import Derived.Test.YtgjhfjplalcnbaaDoorTexts
import Derived.Test.YtgjhfjplalcnbaaDoorAwake
import Derived.Test.YtgjhfjplalcnbaaDoorCards
import Derived.Test.YtgjhfjplalcnbaaDoorTie
import Derived.ShutString
import Derived.SevenTiedAt
import Derived.Deep.RegionHeld3
namespace Go.Proofs.YtgjhfjplalcnbaaDoor.LawKeeps
open Go.ChangeShapes Go.WideShapes Go.ChangeAt Go.RowKit
open Go.ChangeMaps (open_string shut_string)
set_option linter.unusedVariables false

/-- At the head of each round. -/
def KRel (w wr : World) (n : Nat) (vi : Value) : Prop := ∃ k : Nat, k ≤ n ∧ vi = .int .i64 k ∧ Below w.heap.size w wr

/-- The words of a string, as the walk reads them. -/
theorem words_sees (x : ByteArray) (l : List ByteArray) (hl : words38 x = l) (hx : x.size ≤ 1048576) (w : World) :
    Calls Tryd.prog 15 #[.string x] w fun e w' => ∃ v, e = .returned v ∧ Sees w' 1 v l.length (l.map Value.string) ∧ Below w.heap.size w w' :=
  (rwords_any x w hx).mono fun e w' ⟨v, he, ho, hb⟩ => ⟨v, he, hl ▸ Sees.of_own ho, hb⟩

/-- While one statement of the round is carried out. -/
def HB (w5 w : World) : Prop := TabAt w ∧ Below w5.heap.size w5 w
theorem hb_step {f : Nat} {args : Array Value} {w5 w : World} {v : Value} (h : HB w5 w) (c : Calls Tryd.prog f args w fun e w' => e = .returned v ∧ Below w.heap.size w w') :
    Calls Tryd.prog f args w fun e w' => e = .returned v ∧ HB w5 w' := c.mono fun _ _ ⟨he, hb⟩ => ⟨he, h.1.below hb, below_trans_size h.2 hb⟩
/-- A slice that is seen, also later. -/
def Saw (w5 w : World) (v : Value) (l : List ByteArray) : Prop := Sees w 1 v l.length (l.map Value.string) ∧ HB w5 w
theorem hb_words {x : ByteArray} {l : List ByteArray} {w5 w : World} (h : HB w5 w) (c : Calls Tryd.prog 15 #[.string x] w fun e w' => ∃ v, e = .returned v ∧ Sees w' 1 v l.length (l.map Value.string) ∧ Below w.heap.size w w') :
    Calls Tryd.prog 15 #[.string x] w fun e w' => ∃ v, e = .returned v ∧ HB w5 w' ∧ Sees w' 1 v l.length (l.map Value.string) ∧ ∀ v0, Sees w 1 v0 l.length (l.map Value.string) → Sees w' 1 v0 l.length (l.map Value.string) :=
  c.mono fun _ _ ⟨v, he, hs, hb⟩ => ⟨v, he, ⟨h.1.below hb, below_trans_size h.2 hb⟩, hs, fun _ h0 => h0.below hb⟩
theorem hb_texts {v1 v2 : Value} {l : List ByteArray} {w5 w : World} (h : HB w5 w) (s1 : Sees w 1 v1 l.length (l.map Value.string)) (s2 : Sees w 1 v2 l.length (l.map Value.string)) :
    Calls Tryd.prog 10 #[v1, v2] w fun e w' => e = .returned (.bool true) ∧ HB w5 w' :=
  (texts_same l v1 v2 w s1 s2).mono fun _ _ ⟨he, q, hq⟩ => ⟨he, by subst hq; exact ⟨h.1, below_dN h.2 q⟩⟩
theorem hb_cell {w5 w : World} {b o : Nat} {v : Value} (hc : w5.cell? ⟨b, o, none⟩ = some v) (h : HB w5 w) : w.cell? ⟨b, o, none⟩ = some v := by
  rw [h.2.cell (p := ⟨b, o, none⟩) (cell_lt hc)]; exact hc

theorem joined_none (w : World) (a : Option Addr) (cap : Nat) : Calls Tryd.prog 17 #[.slice a 0 cap] w fun e w' => e = .returned (.slice none 0 0) ∧ w = w' := by
  go_enter Tryd.func17, Tryd.ntmps17
  go_wp2
  refine wp_loop_rounds 1 ?_
  rw [rounds_succ]
  go_wp2
  go_ret
  exact ⟨rfl, rfl⟩

set_option maxRecDepth 100000 in
set_option maxHeartbeats 3000000 in
theorem walk_in (s : ByteArray) (wd : Int) (w : World) (cl l : List ByteArray) (hs : s.size ≤ 400) (hd0 : 1 ≤ wd) (hd : wd ≤ 40000) (ht : TabAt w) (hall : ∀ x ∈ cl, Kept wd x) (hflat : cl.flatMap words38 = l) (hws : words38 s = l) (hln : cl.length ≤ 1000)
    (C1 : Calls Tryd.prog 8 #[.string s, .int .i64 wd] w fun e w' => ∃ v, e = .returned (.tuple #[v, .int .i64 0]) ∧ Sees w' 1 v cl.length (cl.map Value.string) ∧ Below w.heap.size w w') :
    Calls Tryd.prog 6 #[.string s, .int .i64 wd] w fun e w' => e = .returned (.bool true) ∧ Below w.heap.size w w' := by
  have e1 : decide ((400 : Int) < (s.size : Int)) = false := by simp; omega
  have e2 : decide ((40000 : Int) < wd) = false := by simp; omega
  have C2 := Lib.hid (words_sees s l hws (by omega))
  have C1 := Lib.hid C1
  have HA := Lib.hid hall
  have HF := Lib.hid hflat
  have HT := Lib.hid ht
  have HLO := Lib.hid (show -9223372036854775808 ≤ wd by omega)
  have HD := Lib.hid hd
  clear ht hall hflat hws
  go_enter Tryd.func6, Tryd.ntmps6
  go_wp2_with fail
  refine C1.out.mono ?_
  rintro e w1 ⟨v1, rfl, s1, b1⟩
  go_wp2_with fail
  refine (C2.out _).mono ?_
  rintro e w2 ⟨v2, rfl, s2, b2⟩
  obtain ⟨-, a, cap, rfl, hcap, hmx, hcs⟩ := s1.below b2
  have ht2 := Lib.hid ((HT.out.below b1).below b2)
  have b12 := below_trans_size b1 b2
  have S2 := Lib.hid s2
  clear s1 s2 b1 b2 C1 C2
  rcases hcs with h0 | ⟨b, off, rfl, hcs⟩
  · have hcl : cl = [] := List.length_eq_zero_iff.1 h0
    subst hcl
    have hl : l = [] := by have := HF.out; simpa using this.symm
    subst hl
    have s2 := S2.out
    have s3 : Sees w2 1 (.slice none 0 0) ([] : List ByteArray).length (([] : List ByteArray).map Value.string) := ⟨rfl, none, 0, rfl, Nat.le_refl _, by unfold maxLen; omega, .inl rfl⟩
    have TX := Lib.hid (texts_same [] _ _ w2 s3 s2)
    clear S2 HA HF ht2 HT h0 hmx s2 s3
    have e0 : ([] : List ByteArray).length = 0 := rfl
    rw [e0]
    go_wp2
    refine wp_loop_rounds 1 ?_
    rw [rounds_succ]
    go_wp2_with fail
    refine (joined_none _ _ _).mono ?_
    rintro e w3 ⟨rfl, rfl⟩
    go_wp2_with fail
    refine TX.out.mono ?_
    rintro e w4 ⟨rfl, q, rfl⟩
    go_wp2_with fail
    refine (awake_any _).mono ?_
    rintro e w5 ⟨rfl, b5⟩
    go_wp2
    go_ret
    exact ⟨rfl, below_trans_size (below_dN b12 q) b5⟩
  have HC : Hid (∀ j x, cl[j]? = some x → w2.cell? ⟨b, off + j, none⟩ = some (.string x)) := Lib.hid (fun j x hx => hcs j _ (by simp [hx]))
  clear hcs
  unfold maxLen at hmx
  go_wp2
  go_loopw [8] (fun vi wr => KRel w2 wr cl.length vi) (fun i _ => cl.length - (intOf i).toNat)
  case atStart => exact ⟨0, Nat.zero_le _, rfl, Below.refl _ _⟩
  case round =>
    obtain ⟨k, hk, rfl, hbel⟩ := hrel
    by_cases hlt : k < cl.length
    · obtain ⟨x, hx⟩ : ∃ x, cl[k]? = some x := ⟨_, List.getElem?_eq_getElem hlt⟩
      have K := Lib.hid (HA.out x (List.mem_of_getElem? hx))
      have hbl : b < w2.heap.size := cell_lt (HC.out k x hx)
      have c0 : wr.cell? ⟨b, off + k, none⟩ = some (.string x) := by rw [hbel.cell (p := ⟨b, off + k, none⟩) hbl]; exact HC.out k x hx
      clear hx
      have W := Lib.hid (words_sees x _ rfl (Nat.le_trans K.out.size (by omega)))
      have hpos := K.out.pos
      have hfits := K.out.fits
      have hsz := K.out.size
      have hwl := words_len x
      have Wi := Lib.hid (fun w ht => wideS_any x w (by omega) ht)
      have Ju := Lib.hid (fun w ht => justify_any x wd w hsz HD.out HLO.out ht)
      have Ce := Lib.hid (fun w ht => center_any x wd w hsz HD.out HLO.out ht)
      have Wij := Lib.hid (fun w ht => wideS_any (justS x wd wideS) w (Nat.le_trans K.out.js (by omega)) ht)
      have Wj := Lib.hid (words_sees (justS x wd wideS) _ K.out.jw K.out.js)
      have Wc := Lib.hid (words_sees (centerS x wd) _ K.out.cw K.out.cs)
      have hjf := K.out.jf
      have T0 := Lib.hid (ht2.out.below hbel)
      have Tx := Lib.hid (fun w v1 v2 h1 h2 => texts_same (words38 x) v1 v2 w h1 h2)
      clear K
      generalize words38 x = ws at *
      generalize wideS (justS x wd wideS) = yj at *
      generalize wideS x = y at *
      generalize justS x wd wideS = xj at *
      generalize centerS x wd = xc at *
      go_wp2_with fail
      refine (W.out _).mono ?_
      rintro e w3 ⟨v3, rfl, s3, b3⟩
      obtain ⟨-, a3, cap3, rfl, hcap3, hmx3, -⟩ := s3
      have hb3 := below_trans_size hbel b3
      have c1 : w3.cell? ⟨b, off + k, none⟩ = some (.string x) := by rw [b3.cell (p := ⟨b, off + k, none⟩) (cell_lt c0)]; exact c0
      have T3 := Lib.hid (T0.out.below b3)
      clear c0 b3 T0 hbel
      have n0 : decide ((ws.length : Int) = 0) = false := decide_eq_false (by omega)
      have n0' : ((ws.length : Int) == 0) = false := by rw [beq_eq_false_iff_ne]; omega
      unfold maxLen at hmx3
      go_upto_region 11 with (fail)
      go_cut [61] (fun s61 wx => s61 = .bool false ∧ Below w3.heap.size w3 wx)
      case first =>
        by_cases hn1 : 1 < ws.length
        · have f1 : decide ((1 : Int) < (ws.length : Int)) = true := by simp; omega
          have f2 : decide (wd < (y : Int)) = false := by have := hfits hn1; simp; omega
          go_wp2_with fail
          refine (Wi.out _ T3.out).mono ?_
          rintro e w4 ⟨rfl, b4⟩
          go_wp2_with fail
          go_meet
          exact ⟨rfl, b4⟩
        · have f1 : decide ((1 : Int) < (ws.length : Int)) = false := by simp; omega
          go_wp2_with fail
          go_meet
          exact ⟨rfl, Below.refl _ _⟩
      case rest =>
        obtain ⟨rfl, b4⟩ := hcut
        have T4 := Lib.hid (T3.out.below b4)
        have c2 : wc.cell? ⟨b, off + k, none⟩ = some (.string x) := by rw [b4.cell (p := ⟨b, off + k, none⟩) (cell_lt c1)]; exact c1
        have hb4 := below_trans_size hb3 b4
        clear c1 b4 hb3 T3
        go_wp2_with fail
        refine (Ju.out _ T4.out).mono ?_
        rintro e w5 ⟨rfl, b5⟩
        have T5 := Lib.hid (T4.out.below b5)
        have c3 : w5.cell? ⟨b, off + k, none⟩ = some (.string x) := by rw [b5.cell (p := ⟨b, off + k, none⟩) (cell_lt c2)]; exact c2
        have hb5 := below_trans_size hb4 b5
        clear c2 b5 hb4 T4
        go_upto_region 14 with (fail)
        go_cut [107] (fun s107 wx => s107 = .bool false ∧ Below w5.heap.size w5 wx)
        case first =>
          have H0 : HB w5 w5.drew := ⟨T5.out, below_dN (Below.refl _ _) 1⟩
          have KS := Lib.hid (fun w (h : HB w5 w) => hb_cell c3 h)
          have Wi2 := Lib.hid (fun w (h : HB w5 w) => hb_step h (Wi.out w h.1))
          have Wij2 := Lib.hid (fun w (h : HB w5 w) => hb_step h (Wij.out w h.1))
          have Ce2 := Lib.hid (fun w (h : HB w5 w) => hb_step h (Ce.out w h.1))
          have W2 := Lib.hid (fun w (h : HB w5 w) => hb_words h (W.out w))
          have Wj2 := Lib.hid (fun w (h : HB w5 w) => hb_words h (Wj.out w))
          have Wc2 := Lib.hid (fun w (h : HB w5 w) => hb_words h (Wc.out w))
          clear Wi Wij Ce Ju W Wj Wc Tx S2 HA HF HC HT ht2 T5 hb5
          by_cases hyw : (y : Int) ≤ wd
          · have g1 : decide ((y : Int) ≤ wd) = true := by simpa using hyw
            have g2 : decide (wd < (yj : Int)) = false := by have := hjf hyw; simp; omega
            first | (go_region_held3 (fun w' => w'.cell? ⟨b, off + k, none⟩ = some (.string x) ∧ HB w5 w') (first | exact ⟨c3, H0⟩ | (refine ⟨KS.out _ ?_, ?_⟩ <;> assumption))
              (first
                | (go_at_call_of 16 (Value.string x); refine (Wi2.out _ (And.right (by assumption))).mono ?_; rintro e w6 ⟨rfl, b6⟩)
                | (go_at_call_of 16 (Value.string xj); refine (Wij2.out _ (And.right (by assumption))).mono ?_; rintro e w6 ⟨rfl, b6⟩)
                | (go_at_call 11; refine (Ce2.out _ (And.right (by assumption))).mono ?_; rintro e w6 ⟨rfl, b6⟩)
                | (go_at_call_of 15 (Value.string x); refine (W2.out _ (And.right (by assumption))).mono ?_; rintro e w6 ⟨v6, rfl, b6, s6, k6⟩; have s7 := k6 _ (by assumption))
                | (go_at_call_of 15 (Value.string xj); refine (Wj2.out _ (And.right (by assumption))).mono ?_; rintro e w6 ⟨v6, rfl, b6, s6, k6⟩)
                | (go_at_call_of 15 (Value.string xc); refine (Wc2.out _ (And.right (by assumption))).mono ?_; rintro e w6 ⟨v6, rfl, b6, s6, k6⟩)
                | (go_at_call 10; refine (hb_texts (And.right (by assumption)) (by assumption) (by assumption)).mono ?_; rintro e w6 ⟨rfl, b6⟩))) | fail
            all_goals
              go_wp2_with fail
              go_meet
              exact ⟨rfl, (And.right (by assumption : _ ∧ HB w5 _)).2⟩
          · have g1 : decide ((y : Int) ≤ wd) = false := by simpa using hyw
            refine wp_region_noPanic ?_
            refine wp_region_held_drew (S := fun w' => w'.cell? ⟨b, off + k, none⟩ = some (.string x) ∧ HB w5 w') (by kernel_rfl) ⟨c3, H0⟩ (fun hHeld => ?_)
            refine wpAnyH_take (i := 0) (oi := { dst := some 68, op := Op.move (Operand.tmp 5), type := 23, pos := "law.go:155", after := #[], guard := none }) (v := ?v0) rfl (by kernel_rfl) (by kernel_rfl) (by kernel_rfl) (fun _ _ _ h => h) (Or.inl ⟨by rfl, ?y0⟩) (by assumption) ?_
            case y0 => (intro w hSw; (try dsimp only at hSw); go_simp; try (with_reducible rfl))
            try simp only [Act.put, List.setIfInBounds_toArray, List.set_cons_zero, List.set_cons_succ]
            refine wpAnyH_take (i := 1) (oi := { dst := some 69, op := Op.move (Operand.tmp 8), type := 3, pos := "law.go:155", after := #[], guard := none }) (v := ?v1) rfl (by kernel_rfl) (by kernel_rfl) (by kernel_rfl) (fun _ _ _ h => h) (Or.inl ⟨by rfl, ?y1⟩) (by assumption) ?_
            case y1 => (intro w hSw; (try dsimp only at hSw); go_simp; try (with_reducible rfl))
            try simp only [Act.put, List.setIfInBounds_toArray, List.set_cons_zero, List.set_cons_succ]
            refine wpAnyH_take (i := 2) (oi := { dst := some 70, op := Op.indexAddr 23 (Operand.tmp 68) (Operand.tmp 69), type := 0, pos := "law.go:155", after := #[{ on := 0, ground := Ground.data }, { on := 1, ground := Ground.data }], guard := none }) (v := ?v2) rfl (by kernel_rfl) (by kernel_rfl) (by kernel_rfl) (fun _ _ _ h => h) (Or.inl ⟨by rfl, ?y2⟩) (by assumption) ?_
            case y2 => (intro w hSw; (try dsimp only at hSw); go_simp; try (with_reducible rfl))
            try simp only [Act.put, List.setIfInBounds_toArray, List.set_cons_zero, List.set_cons_succ]
            refine wpAnyH_take (i := 3) (oi := { dst := some 71, op := Op.load 9 (Operand.tmp 70), type := 9, pos := "law.go:155", after := #[{ on := 2, ground := Ground.data }], guard := none }) (v := ?v3) rfl (by kernel_rfl) (by kernel_rfl) (by kernel_rfl) (fun _ _ _ h => h) (Or.inl ⟨by rfl, ?y3⟩) (by assumption) ?_
            case y3 => (intro w hSw; (try dsimp only at hSw); go_simp; try (with_reducible rfl))
            try simp only [Act.put, List.setIfInBounds_toArray, List.set_cons_zero, List.set_cons_succ]
            refine wpAnyH_take (i := 5) (oi := { dst := some 73, op := Op.move (Operand.tmp 1), type := 3, pos := "law.go:155", after := #[], guard := none }) (v := ?v5) rfl (by kernel_rfl) (by kernel_rfl) (by kernel_rfl) (fun _ _ _ h => h) (Or.inl ⟨by rfl, ?y5⟩) (by assumption) ?_
            case y5 => (intro w hSw; (try dsimp only at hSw); go_simp; try (with_reducible rfl))
            try simp only [Act.put, List.setIfInBounds_toArray, List.set_cons_zero, List.set_cons_succ]
            refine wpAnyH_ready (rs := [4]) (by kernel_rfl) (by simp) ?_
            refine AllReadyH.cons (o := { dst := some 72, op := Op.call { callee := Callee.value (Operand.func 16), args := #[Operand.tmp 71], argTypes := #[9] }, type := 3, pos := "law.go:155", after := #[{ on := 3, ground := Ground.data }], guard := none }) rfl (fun K hK => ?_) AllReadyH.nil
            go_simp
            refine (Wi2.out _ (And.right (by assumption))).mono ?_
            rintro e w6 ⟨rfl, b6⟩
            go_wp2_with fail
            refine hK.out _ _ ⟨KS.out _ b6, b6⟩ (fun hHeld => ?_)
            clear hK K
            try simp only [Act.put, List.setIfInBounds_toArray, List.set_cons_zero, List.set_cons_succ]
            refine wpAnyH_take (i := 6) (oi := { dst := some 74, op := Op.binOp BinOp.leq 3 (Operand.tmp 72) (Operand.tmp 73) 3, type := 4, pos := "law.go:155", after := #[{ on := 4, ground := Ground.data }, { on := 5, ground := Ground.data }], guard := none }) (v := ?v6) rfl (by kernel_rfl) (by kernel_rfl) (by kernel_rfl) (fun _ _ _ h => h) (Or.inl ⟨by rfl, ?y6⟩) (by assumption) ?_
            case y6 => (intro w hSw; (try dsimp only at hSw); go_simp; try (with_reducible rfl))
            try simp only [Act.put, List.setIfInBounds_toArray, List.set_cons_zero, List.set_cons_succ]
            refine wpAnyH_take (i := 7) (oi := { dst := some 75, op := Op.move (Operand.tmp 74), type := 4, pos := "law.go:155", after := #[{ on := 6, ground := Ground.data }, { on := 4, ground := Ground.chain }], guard := none }) (v := ?v7) rfl (by kernel_rfl) (by kernel_rfl) (by kernel_rfl) (fun _ _ _ h => h) (Or.inl ⟨by rfl, ?y7⟩) (by assumption) ?_
            case y7 => (intro w hSw; (try dsimp only at hSw); go_simp; try (with_reducible rfl))
            try simp only [Act.put, List.setIfInBounds_toArray, List.set_cons_zero, List.set_cons_succ]
            refine wpAnyH_take (i := 8) (oi := { dst := some 76, op := Op.move (Operand.tmp 10), type := 9, pos := "law.go:155", after := #[{ on := 7, ground := Ground.guard }], guard := some (7, true) }) (v := undef) rfl (by kernel_rfl) (by kernel_rfl) (by kernel_rfl) (fun _ _ _ h => h) (Or.inr ⟨by rfl, rfl⟩) (by assumption) ?_
            try simp only [Act.put, List.setIfInBounds_toArray, List.set_cons_zero, List.set_cons_succ]
            refine wpAnyH_take (i := 9) (oi := { dst := some 77, op := Op.call { callee := Callee.value (Operand.func 16), args := #[Operand.tmp 76], argTypes := #[9] }, type := 3, pos := "law.go:155", after := #[{ on := 8, ground := Ground.data }, { on := 7, ground := Ground.chain }, { on := 7, ground := Ground.guard }], guard := some (7, true) }) (v := undef) rfl (by kernel_rfl) (by kernel_rfl) (by kernel_rfl) (fun _ _ _ h => h) (Or.inr ⟨by rfl, rfl⟩) (by assumption) ?_
            try simp only [Act.put, List.setIfInBounds_toArray, List.set_cons_zero, List.set_cons_succ]
            refine wpAnyH_take (i := 10) (oi := { dst := some 78, op := Op.move (Operand.tmp 1), type := 3, pos := "law.go:155", after := #[{ on := 7, ground := Ground.guard }], guard := some (7, true) }) (v := undef) rfl (by kernel_rfl) (by kernel_rfl) (by kernel_rfl) (fun _ _ _ h => h) (Or.inr ⟨by rfl, rfl⟩) (by assumption) ?_
            try simp only [Act.put, List.setIfInBounds_toArray, List.set_cons_zero, List.set_cons_succ]
            refine wpAnyH_take (i := 11) (oi := { dst := some 79, op := Op.binOp BinOp.gtr 3 (Operand.tmp 77) (Operand.tmp 78) 3, type := 4, pos := "law.go:155", after := #[{ on := 9, ground := Ground.data }, { on := 10, ground := Ground.data }, { on := 7, ground := Ground.guard }], guard := some (7, true) }) (v := undef) rfl (by kernel_rfl) (by kernel_rfl) (by kernel_rfl) (fun _ _ _ h => h) (Or.inr ⟨by rfl, rfl⟩) (by assumption) ?_
            try simp only [Act.put, List.setIfInBounds_toArray, List.set_cons_zero, List.set_cons_succ]
            refine wpAnyH_take (i := 12) (oi := { dst := some 80, op := Op.pick (Operand.tmp 75) (Operand.tmp 79) (Operand.const (Value.bool false)), type := 4, pos := "law.go:155", after := #[{ on := 7, ground := Ground.data }, { on := 11, ground := Ground.data }], guard := none }) (v := ?v12) rfl (by kernel_rfl) (by kernel_rfl) (by kernel_rfl) (fun _ _ _ h => h) (Or.inl ⟨by rfl, ?y12⟩) (by assumption) ?_
            case y12 => (intro w hSw; (try dsimp only at hSw); go_simp; try (with_reducible rfl))
            try simp only [Act.put, List.setIfInBounds_toArray, List.set_cons_zero, List.set_cons_succ]
            refine wpAnyH_take (i := 13) (oi := { dst := some 81, op := Op.move (Operand.tmp 80), type := 4, pos := "law.go:155", after := #[{ on := 12, ground := Ground.data }, { on := 9, ground := Ground.chain }], guard := none }) (v := ?v13) rfl (by kernel_rfl) (by kernel_rfl) (by kernel_rfl) (fun _ _ _ h => h) (Or.inl ⟨by rfl, ?y13⟩) (by assumption) ?_
            case y13 => (intro w hSw; (try dsimp only at hSw); go_simp; try (with_reducible rfl))
            try simp only [Act.put, List.setIfInBounds_toArray, List.set_cons_zero, List.set_cons_succ]
            refine wpAnyH_take (i := 14) (oi := { dst := some 82, op := Op.move (Operand.tmp 10), type := 9, pos := "law.go:155", after := #[{ on := 13, ground := Ground.guard }], guard := some (13, false) }) (v := ?v14) rfl (by kernel_rfl) (by kernel_rfl) (by kernel_rfl) (fun _ _ _ h => h) (Or.inl ⟨by rfl, ?y14⟩) (by assumption) ?_
            case y14 => (intro w hSw; (try dsimp only at hSw); go_simp; try (with_reducible rfl))
            try simp only [Act.put, List.setIfInBounds_toArray, List.set_cons_zero, List.set_cons_succ]
            refine wpAnyH_take (i := 16) (oi := { dst := some 84, op := Op.move (Operand.tmp 5), type := 23, pos := "law.go:155", after := #[{ on := 13, ground := Ground.guard }], guard := some (13, false) }) (v := ?v16) rfl (by kernel_rfl) (by kernel_rfl) (by kernel_rfl) (fun _ _ _ h => h) (Or.inl ⟨by rfl, ?y16⟩) (by assumption) ?_
            case y16 => (intro w hSw; (try dsimp only at hSw); go_simp; try (with_reducible rfl))
            try simp only [Act.put, List.setIfInBounds_toArray, List.set_cons_zero, List.set_cons_succ]
            refine wpAnyH_take (i := 17) (oi := { dst := some 85, op := Op.move (Operand.tmp 8), type := 3, pos := "law.go:155", after := #[{ on := 13, ground := Ground.guard }], guard := some (13, false) }) (v := ?v17) rfl (by kernel_rfl) (by kernel_rfl) (by kernel_rfl) (fun _ _ _ h => h) (Or.inl ⟨by rfl, ?y17⟩) (by assumption) ?_
            case y17 => (intro w hSw; (try dsimp only at hSw); go_simp; try (with_reducible rfl))
            try simp only [Act.put, List.setIfInBounds_toArray, List.set_cons_zero, List.set_cons_succ]
            refine wpAnyH_take (i := 18) (oi := { dst := some 86, op := Op.indexAddr 23 (Operand.tmp 84) (Operand.tmp 85), type := 0, pos := "law.go:155", after := #[{ on := 16, ground := Ground.data }, { on := 17, ground := Ground.data }, { on := 13, ground := Ground.guard }], guard := some (13, false) }) (v := ?v18) rfl (by kernel_rfl) (by kernel_rfl) (by kernel_rfl) (fun _ _ _ h => h) (Or.inl ⟨by rfl, ?y18⟩) (by assumption) ?_
            case y18 => (intro w hSw; (try dsimp only at hSw); go_simp; try (with_reducible rfl))
            try simp only [Act.put, List.setIfInBounds_toArray, List.set_cons_zero, List.set_cons_succ]
            refine wpAnyH_take (i := 19) (oi := { dst := some 87, op := Op.load 9 (Operand.tmp 86), type := 9, pos := "law.go:155", after := #[{ on := 18, ground := Ground.data }, { on := 13, ground := Ground.guard }], guard := some (13, false) }) (v := ?v19) rfl (by kernel_rfl) (by kernel_rfl) (by kernel_rfl) (fun _ _ _ h => h) (Or.inl ⟨by rfl, ?y19⟩) (by assumption) ?_
            case y19 => (intro w hSw; (try dsimp only at hSw); go_simp; try (with_reducible rfl))
            try simp only [Act.put, List.setIfInBounds_toArray, List.set_cons_zero, List.set_cons_succ]
            refine wpAnyH_ready (rs := [15]) (by kernel_rfl) (by simp) ?_
            refine AllReadyH.cons (o := { dst := some 83, op := Op.call { callee := Callee.value (Operand.func 15), args := #[Operand.tmp 82], argTypes := #[9] }, type := 23, pos := "law.go:155", after := #[{ on := 14, ground := Ground.data }, { on := 13, ground := Ground.chain }, { on := 13, ground := Ground.guard }], guard := some (13, false) }) rfl (fun K hK => ?_) AllReadyH.nil
            go_simp
            refine (Wj2.out _ (And.right (by assumption))).mono ?_
            rintro e w7 ⟨v7, rfl, b7, s7, k7⟩
            clear k7
            go_wp2_with fail
            refine hK.out _ _ ⟨KS.out _ b7, b7⟩ (fun hHeld => ?_)
            clear hK K
            try simp only [Act.put, List.setIfInBounds_toArray, List.set_cons_zero, List.set_cons_succ]
            refine wpAnyH_ready (rs := [20]) (by kernel_rfl) (by simp) ?_
            refine AllReadyH.cons (o := { dst := some 88, op := Op.call { callee := Callee.value (Operand.func 15), args := #[Operand.tmp 87], argTypes := #[9] }, type := 23, pos := "law.go:155", after := #[{ on := 19, ground := Ground.data }, { on := 15, ground := Ground.chain }, { on := 13, ground := Ground.guard }], guard := some (13, false) }) rfl (fun K hK => ?_) AllReadyH.nil
            go_simp
            refine (W2.out _ (And.right (by assumption))).mono ?_
            rintro e w8 ⟨v8, rfl, b8, s8, k8⟩
            have s7 := k8 _ s7
            clear k8
            go_wp2_with fail
            refine hK.out _ _ ⟨KS.out _ b8, b8⟩ (fun hHeld => ?_)
            clear hK K
            try simp only [Act.put, List.setIfInBounds_toArray, List.set_cons_zero, List.set_cons_succ]
            refine wpAnyH_ready (rs := [21]) (by kernel_rfl) (by simp) ?_
            refine AllReadyH.cons (o := { dst := some 89, op := Op.call { callee := Callee.value (Operand.func 10), args := #[Operand.tmp 83, Operand.tmp 88], argTypes := #[23, 23] }, type := 4, pos := "law.go:155", after := #[{ on := 15, ground := Ground.data }, { on := 20, ground := Ground.data }, { on := 20, ground := Ground.chain }, { on := 13, ground := Ground.guard }], guard := some (13, false) }) rfl (fun K hK => ?_) AllReadyH.nil
            go_simp
            refine (hb_texts (And.right (by assumption)) s7 s8).mono ?_
            rintro e w9 ⟨rfl, b9⟩
            clear s7 s8
            go_wp2_with fail
            refine hK.out _ _ ⟨KS.out _ b9, b9⟩ (fun hHeld => ?_)
            clear hK K
            try simp only [Act.put, List.setIfInBounds_toArray, List.set_cons_zero, List.set_cons_succ]
            refine wpAnyH_take (i := 22) (oi := { dst := some 90, op := Op.unOp UnOp.not 4 (Operand.tmp 89), type := 4, pos := "law.go:155", after := #[{ on := 21, ground := Ground.data }, { on := 13, ground := Ground.guard }], guard := some (13, false) }) (v := ?v22) rfl (by kernel_rfl) (by kernel_rfl) (by kernel_rfl) (fun _ _ _ h => h) (Or.inl ⟨by rfl, ?y22⟩) (by assumption) ?_
            case y22 => (intro w hSw; (try dsimp only at hSw); go_simp; try (with_reducible rfl))
            try simp only [Act.put, List.setIfInBounds_toArray, List.set_cons_zero, List.set_cons_succ]
            refine wpAnyH_take (i := 23) (oi := { dst := some 91, op := Op.pick (Operand.tmp 81) (Operand.const (Value.bool true)) (Operand.tmp 90), type := 4, pos := "law.go:155", after := #[{ on := 13, ground := Ground.data }, { on := 22, ground := Ground.data }], guard := none }) (v := ?v23) rfl (by kernel_rfl) (by kernel_rfl) (by kernel_rfl) (fun _ _ _ h => h) (Or.inl ⟨by rfl, ?y23⟩) (by assumption) ?_
            case y23 => (intro w hSw; (try dsimp only at hSw); go_simp; try (with_reducible rfl))
            try simp only [Act.put, List.setIfInBounds_toArray, List.set_cons_zero, List.set_cons_succ]
            refine wpAnyH_take (i := 24) (oi := { dst := some 92, op := Op.move (Operand.tmp 91), type := 4, pos := "law.go:155", after := #[{ on := 23, ground := Ground.data }, { on := 21, ground := Ground.chain }], guard := none }) (v := ?v24) rfl (by kernel_rfl) (by kernel_rfl) (by kernel_rfl) (fun _ _ _ h => h) (Or.inl ⟨by rfl, ?y24⟩) (by assumption) ?_
            case y24 => (intro w hSw; (try dsimp only at hSw); go_simp; try (with_reducible rfl))
            try simp only [Act.put, List.setIfInBounds_toArray, List.set_cons_zero, List.set_cons_succ]
            refine wpAnyH_take (i := 25) (oi := { dst := some 93, op := Op.move (Operand.tmp 5), type := 23, pos := "law.go:155", after := #[{ on := 24, ground := Ground.guard }], guard := some (24, false) }) (v := ?v25) rfl (by kernel_rfl) (by kernel_rfl) (by kernel_rfl) (fun _ _ _ h => h) (Or.inl ⟨by rfl, ?y25⟩) (by assumption) ?_
            case y25 => (intro w hSw; (try dsimp only at hSw); go_simp; try (with_reducible rfl))
            try simp only [Act.put, List.setIfInBounds_toArray, List.set_cons_zero, List.set_cons_succ]
            refine wpAnyH_take (i := 26) (oi := { dst := some 94, op := Op.move (Operand.tmp 8), type := 3, pos := "law.go:155", after := #[{ on := 24, ground := Ground.guard }], guard := some (24, false) }) (v := ?v26) rfl (by kernel_rfl) (by kernel_rfl) (by kernel_rfl) (fun _ _ _ h => h) (Or.inl ⟨by rfl, ?y26⟩) (by assumption) ?_
            case y26 => (intro w hSw; (try dsimp only at hSw); go_simp; try (with_reducible rfl))
            try simp only [Act.put, List.setIfInBounds_toArray, List.set_cons_zero, List.set_cons_succ]
            refine wpAnyH_take (i := 27) (oi := { dst := some 95, op := Op.indexAddr 23 (Operand.tmp 93) (Operand.tmp 94), type := 0, pos := "law.go:155", after := #[{ on := 25, ground := Ground.data }, { on := 26, ground := Ground.data }, { on := 24, ground := Ground.guard }], guard := some (24, false) }) (v := ?v27) rfl (by kernel_rfl) (by kernel_rfl) (by kernel_rfl) (fun _ _ _ h => h) (Or.inl ⟨by rfl, ?y27⟩) (by assumption) ?_
            case y27 => (intro w hSw; (try dsimp only at hSw); go_simp; try (with_reducible rfl))
            try simp only [Act.put, List.setIfInBounds_toArray, List.set_cons_zero, List.set_cons_succ]
            refine wpAnyH_take (i := 28) (oi := { dst := some 96, op := Op.load 9 (Operand.tmp 95), type := 9, pos := "law.go:155", after := #[{ on := 27, ground := Ground.data }, { on := 24, ground := Ground.guard }], guard := some (24, false) }) (v := ?v28) rfl (by kernel_rfl) (by kernel_rfl) (by kernel_rfl) (fun _ _ _ h => h) (Or.inl ⟨by rfl, ?y28⟩) (by assumption) ?_
            case y28 => (intro w hSw; (try dsimp only at hSw); go_simp; try (with_reducible rfl))
            try simp only [Act.put, List.setIfInBounds_toArray, List.set_cons_zero, List.set_cons_succ]
            refine wpAnyH_take (i := 29) (oi := { dst := some 97, op := Op.move (Operand.tmp 1), type := 3, pos := "law.go:155", after := #[{ on := 24, ground := Ground.guard }], guard := some (24, false) }) (v := ?v29) rfl (by kernel_rfl) (by kernel_rfl) (by kernel_rfl) (fun _ _ _ h => h) (Or.inl ⟨by rfl, ?y29⟩) (by assumption) ?_
            case y29 => (intro w hSw; (try dsimp only at hSw); go_simp; try (with_reducible rfl))
            try simp only [Act.put, List.setIfInBounds_toArray, List.set_cons_zero, List.set_cons_succ]
            refine wpAnyH_take (i := 32) (oi := { dst := some 100, op := Op.move (Operand.tmp 5), type := 23, pos := "law.go:155", after := #[{ on := 24, ground := Ground.guard }], guard := some (24, false) }) (v := ?v32) rfl (by kernel_rfl) (by kernel_rfl) (by kernel_rfl) (fun _ _ _ h => h) (Or.inl ⟨by rfl, ?y32⟩) (by assumption) ?_
            case y32 => (intro w hSw; (try dsimp only at hSw); go_simp; try (with_reducible rfl))
            try simp only [Act.put, List.setIfInBounds_toArray, List.set_cons_zero, List.set_cons_succ]
            refine wpAnyH_take (i := 33) (oi := { dst := some 101, op := Op.move (Operand.tmp 8), type := 3, pos := "law.go:155", after := #[{ on := 24, ground := Ground.guard }], guard := some (24, false) }) (v := ?v33) rfl (by kernel_rfl) (by kernel_rfl) (by kernel_rfl) (fun _ _ _ h => h) (Or.inl ⟨by rfl, ?y33⟩) (by assumption) ?_
            case y33 => (intro w hSw; (try dsimp only at hSw); go_simp; try (with_reducible rfl))
            try simp only [Act.put, List.setIfInBounds_toArray, List.set_cons_zero, List.set_cons_succ]
            refine wpAnyH_take (i := 34) (oi := { dst := some 102, op := Op.indexAddr 23 (Operand.tmp 100) (Operand.tmp 101), type := 0, pos := "law.go:155", after := #[{ on := 32, ground := Ground.data }, { on := 33, ground := Ground.data }, { on := 24, ground := Ground.guard }], guard := some (24, false) }) (v := ?v34) rfl (by kernel_rfl) (by kernel_rfl) (by kernel_rfl) (fun _ _ _ h => h) (Or.inl ⟨by rfl, ?y34⟩) (by assumption) ?_
            case y34 => (intro w hSw; (try dsimp only at hSw); go_simp; try (with_reducible rfl))
            try simp only [Act.put, List.setIfInBounds_toArray, List.set_cons_zero, List.set_cons_succ]
            refine wpAnyH_take (i := 35) (oi := { dst := some 103, op := Op.load 9 (Operand.tmp 102), type := 9, pos := "law.go:155", after := #[{ on := 34, ground := Ground.data }, { on := 24, ground := Ground.guard }], guard := some (24, false) }) (v := ?v35) rfl (by kernel_rfl) (by kernel_rfl) (by kernel_rfl) (fun _ _ _ h => h) (Or.inl ⟨by rfl, ?y35⟩) (by assumption) ?_
            case y35 => (intro w hSw; (try dsimp only at hSw); go_simp; try (with_reducible rfl))
            try simp only [Act.put, List.setIfInBounds_toArray, List.set_cons_zero, List.set_cons_succ]
            refine wpAnyH_ready (rs := [30]) (by kernel_rfl) (by simp) ?_
            refine AllReadyH.cons (o := { dst := some 98, op := Op.call { callee := Callee.value (Operand.func 11), args := #[Operand.tmp 96, Operand.tmp 97], argTypes := #[9, 3] }, type := 9, pos := "law.go:155", after := #[{ on := 28, ground := Ground.data }, { on := 29, ground := Ground.data }, { on := 24, ground := Ground.chain }, { on := 24, ground := Ground.guard }], guard := some (24, false) }) rfl (fun K hK => ?_) AllReadyH.nil
            go_simp
            refine (Ce2.out _ (And.right (by assumption))).mono ?_
            rintro e w10 ⟨rfl, b10⟩
            go_wp2_with fail
            refine hK.out _ _ ⟨KS.out _ b10, b10⟩ (fun hHeld => ?_)
            clear hK K
            try simp only [Act.put, List.setIfInBounds_toArray, List.set_cons_zero, List.set_cons_succ]
            refine wpAnyH_ready (rs := [31]) (by kernel_rfl) (by simp) ?_
            refine AllReadyH.cons (o := { dst := some 99, op := Op.call { callee := Callee.value (Operand.func 15), args := #[Operand.tmp 98], argTypes := #[9] }, type := 23, pos := "law.go:155", after := #[{ on := 30, ground := Ground.data }, { on := 30, ground := Ground.chain }, { on := 24, ground := Ground.guard }], guard := some (24, false) }) rfl (fun K hK => ?_) AllReadyH.nil
            go_simp
            refine (Wc2.out _ (And.right (by assumption))).mono ?_
            rintro e w11 ⟨v11, rfl, b11, s11, k11⟩
            clear k11
            go_wp2_with fail
            refine hK.out _ _ ⟨KS.out _ b11, b11⟩ (fun hHeld => ?_)
            clear hK K
            try simp only [Act.put, List.setIfInBounds_toArray, List.set_cons_zero, List.set_cons_succ]
            refine wpAnyH_ready (rs := [36]) (by kernel_rfl) (by simp) ?_
            refine AllReadyH.cons (o := { dst := some 104, op := Op.call { callee := Callee.value (Operand.func 15), args := #[Operand.tmp 103], argTypes := #[9] }, type := 23, pos := "law.go:155", after := #[{ on := 35, ground := Ground.data }, { on := 31, ground := Ground.chain }, { on := 24, ground := Ground.guard }], guard := some (24, false) }) rfl (fun K hK => ?_) AllReadyH.nil
            go_simp
            refine (W2.out _ (And.right (by assumption))).mono ?_
            rintro e w12 ⟨v12, rfl, b12', s12, k12⟩
            have s11 := k12 _ s11
            clear k12
            go_wp2_with fail
            refine hK.out _ _ ⟨KS.out _ b12', b12'⟩ (fun hHeld => ?_)
            clear hK K
            try simp only [Act.put, List.setIfInBounds_toArray, List.set_cons_zero, List.set_cons_succ]
            refine wpAnyH_ready (rs := [37]) (by kernel_rfl) (by simp) ?_
            refine AllReadyH.cons (o := { dst := some 105, op := Op.call { callee := Callee.value (Operand.func 10), args := #[Operand.tmp 99, Operand.tmp 104], argTypes := #[23, 23] }, type := 4, pos := "law.go:155", after := #[{ on := 31, ground := Ground.data }, { on := 36, ground := Ground.data }, { on := 36, ground := Ground.chain }, { on := 24, ground := Ground.guard }], guard := some (24, false) }) rfl (fun K hK => ?_) AllReadyH.nil
            go_simp
            refine (hb_texts (And.right (by assumption)) s11 s12).mono ?_
            rintro e w13 ⟨rfl, b13⟩
            clear s11 s12
            go_wp2_with fail
            refine hK.out _ _ ⟨KS.out _ b13, b13⟩ (fun hHeld => ?_)
            clear hK K
            try simp only [Act.put, List.setIfInBounds_toArray, List.set_cons_zero, List.set_cons_succ]
            refine wpAnyH_take (i := 38) (oi := { dst := some 106, op := Op.unOp UnOp.not 4 (Operand.tmp 105), type := 4, pos := "law.go:155", after := #[{ on := 37, ground := Ground.data }, { on := 24, ground := Ground.guard }], guard := some (24, false) }) (v := ?v38) rfl (by kernel_rfl) (by kernel_rfl) (by kernel_rfl) (fun _ _ _ h => h) (Or.inl ⟨by rfl, ?y38⟩) (by assumption) ?_
            case y38 => (intro w hSw; (try dsimp only at hSw); go_simp; try (with_reducible rfl))
            try simp only [Act.put, List.setIfInBounds_toArray, List.set_cons_zero, List.set_cons_succ]
            refine wpAnyH_take (i := 39) (oi := { dst := some 107, op := Op.pick (Operand.tmp 92) (Operand.const (Value.bool true)) (Operand.tmp 106), type := 4, pos := "law.go:155", after := #[{ on := 24, ground := Ground.data }, { on := 38, ground := Ground.data }], guard := none }) (v := ?v39) rfl (by kernel_rfl) (by kernel_rfl) (by kernel_rfl) (fun _ _ _ h => h) (Or.inl ⟨by rfl, ?y39⟩) (by assumption) ?_
            case y39 => (intro w hSw; (try dsimp only at hSw); go_simp; try (with_reducible rfl))
            try simp only [Act.put, List.setIfInBounds_toArray, List.set_cons_zero, List.set_cons_succ]
            refine wpAnyH_done (by kernel_rfl) ?_ _

            refine NoPanic.normal ?_
            go_wp2_with fail
            go_meet
            exact ⟨rfl, (And.right hHeld).2⟩
        case rest =>
          obtain ⟨rfl, b6⟩ := hcut
          have hb6 := below_trans_size hb5 b6
          clear b6 hb5 c3 T5
          go_wp2
          go_roundw
          case rel => exact ⟨k + 1, by omega, by go_num, hb6⟩
          case measure => simp [intOf]; omega
    · have hkl : k = cl.length := by omega
      subst hkl
      have J := Lib.hid (lawJoined_any wr b off cap cl hln hcap (fun j x hx => by rw [hbel.cell (p := ⟨b, off + j, none⟩) (cell_lt (HC.out j x hx))]; exact HC.out j x hx) (fun x hx => (HA.out x hx).size) (fun x hx => (HA.out x hx).pos))
      rw [HF.out] at J
      have s2 := S2.out.below hbel
      clear HC HA HF ht2 HT
      go_wp2_with fail
      refine J.out.mono ?_
      rintro e w3 ⟨v3, rfl, o3, b3⟩
      have s2 := s2.below b3
      have s3 := Sees.of_own o3
      clear o3
      go_wp2_with fail
      refine (texts_same _ _ _ _ s3 s2).mono ?_
      rintro e w4 ⟨rfl, q, rfl⟩
      clear s3 s2
      go_wp2_with fail
      refine (awake_any _).mono ?_
      rintro e w5 ⟨rfl, b5⟩
      go_wp2
      go_ret
      exact ⟨rfl, below_trans_size (below_dN (below_trans_size (below_trans_size b12 hbel) b3) q) b5⟩

set_option maxRecDepth 100000 in
set_option maxHeartbeats 1000000 in
theorem walk (s : ByteArray) (wd : Int) (w : World) (hs : s.size ≤ maxLen) (hlo : -9223372036854775808 ≤ wd) (ht : TabAt w) :
    Calls Tryd.prog 6 #[.string s, .int .i64 wd] w fun e w' => e = .returned (.bool true) ∧ Below w.heap.size w w' := by
  unfold maxLen at hs
  by_cases h : 400 < s.size
  · have e1 : decide ((400 : Int) < (s.size : Int)) = true := by simp; omega
    clear ht
    go_enter Tryd.func6, Tryd.ntmps6
    go_wp2_with fail
    refine (awake_any _).mono ?_
    rintro e w1 ⟨rfl, hb⟩
    go_wp2
    go_ret
    exact ⟨rfl, hb⟩
  have e1 : decide ((400 : Int) < (s.size : Int)) = false := by simp; omega
  by_cases h0 : 40000 < wd
  · have e2 : decide ((40000 : Int) < wd) = true := by simpa using h0
    clear ht
    go_enter Tryd.func6, Tryd.ntmps6
    go_wp2_with fail
    refine (awake_any _).mono ?_
    rintro e w1 ⟨rfl, hb⟩
    go_wp2
    go_ret
    exact ⟨rfl, hb⟩
  have e2 : decide ((40000 : Int) < wd) = false := by simpa using h0
  by_cases h2 : wd < 1
  · have C1 := Lib.hid (lines_bad w s wd (.inl h2))
    have C2 := Lib.hid (words_sees s _ rfl (by omega))
    clear ht h2
    go_enter Tryd.func6, Tryd.ntmps6
    go_wp2_with fail
    refine C1.out.mono ?_
    rintro e w1 ⟨rfl, b1⟩
    go_wp2_with fail
    refine (C2.out _).mono ?_
    rintro e w2 ⟨v2, rfl, -, b2⟩
    go_wp2_with fail
    refine (awake_any _).mono ?_
    rintro e w4 ⟨rfl, b4⟩
    go_wp2
    go_ret
    exact ⟨rfl, below_trans_size (below_trans_size b1 b2) b4⟩
  have hall := kept_all s wd (by omega) (by omega)
  have hflat := kept_len s wd (by omega) (by omega)
  have hln : (cutL (words38 s) (brFirst (wsOf (words38 s)) 30 wd)).length ≤ 1000 := by
    have h1 := (fok_br (words38 s) 30 wd (by omega) (by omega)).len
    have h2 := words_len s
    rw [cutL_len]; omega
  exact walk_in s wd w _ _ (by omega) (by omega) (by omega) ht hall hflat rfl hln ((lines_ok w s wd (by omega) (by omega) (by omega) ht).mono fun e w' ⟨v, he, ho, hb⟩ => ⟨v, he, Sees.of_own ho, hb⟩)

set_option maxRecDepth 100000 in
theorem lifted (os : Os) (started : os.Started) (H : Type) (enc : TypeId × Value → H) :
    ReturnsInHanded {} Tryd.checked os 6 .any (fun w args => (Rows.wrapKeepsSpec.pre enc Tryd.prog Tryd.f6 [] false w args ∧ laidMetH Tryd.prog laidF w) ∧ sizedMet enc Tryd.prog Tryd.f6 (OpenSpec.ofChange Rows.wrapKeepsSpec) false w args)
      (Rows.wrapKeepsSpec.post enc Tryd.prog Tryd.f6 false true false false) := by
  refine returnsInHanded_of_change_and (C := Tryd.checked) (X := fun w _ => laidMetH Tryd.prog laidF w) (fun _ _ _ hh h => h.of_heap hh) own started (by kernel_rfl) Tryd.func6
    (ChangeSpec.witness_shaped (enc := enc) (C := Tryd.checked) (os := os) (X := fun w _ => laidMetH Tryd.prog laidF w) false (World.doorLaid Tryd.prog 400 os) #[.string ByteArray.empty, .int .i64 0] 8 rfl (World.shaped_of_RefB (by kernel_rfl) (by kernel_rfl)) (by kernel_rfl) (by kernel_rfl) (by kernel_rfl) (door_met os _)) ?_
  intro W base args ds gs before hval0 hW _ _ hL _
  have hval : ∀ (j : Nat) t v, Tryd.f6.params[j]? = some t → args[j]? = some v → Value.okWide Tryd.prog W .any base t v := hval0
  have hW' := hW
  obtain ⟨p, q, hA0, hV, rfl, hfz, hnd⟩ := hW
  have hA : DataW.TrodAll enc Tryd.prog W 0 (fun _ => true) true Tryd.f6.params.toList args.toList ds p := hA0
  rw [Tryd.params6] at hA hval
  obtain ⟨v0, vs0, d0, ds0, p0, q0, hargs, rfl, rfl, h0, r0⟩ := trodAll_cons hA
  obtain ⟨v1, vs1, d1, ds1, p1, q1, rfl, rfl, rfl, h1, r1⟩ := trodAll_cons r0
  obtain ⟨rfl, rfl, rfl⟩ := trodAll_nil r1
  obtain rfl : args = #[v0, v1] := by cases args; simp_all
  obtain ⟨rfl, rfl⟩ := trodVars_none hV
  obtain ⟨a0, rfl, rfl, rfl, w0⟩ := open_string Tryd.underlying9 (hval 0 9 v0 rfl rfl) h0
  obtain ⟨a1, rfl, rfl, rfl, w1⟩ := open_int Tryd.underlying3 (hval 1 3 v1 rfl rfl) h1
  have hT := of_laid hL
  clear hA0 hval0
  simp only [List.append_nil] at hW'
  refine (walk a0 a1 W w0 (bounds_i64 w1).1 hT).mono fun e W' ⟨he, bel⟩ => ?_
  subst he
  exact ⟨_, rfl, _, _, _, [], [], [], hW', trodAll_mk1 (shut_bool Tryd.underlying4 _), (trodAll_cons_mk (shut_string Tryd.underlying9 w0) (trodAll_cons_mk (shut_int Tryd.underlying3 w1) trodAll_mk0)), rfl, bel.frame _, fun h => by cases h⟩

theorem over : Rows.WrapKeepsSaid :=
  OpenClaim.holds_of_wide 6 Tryd.f6 rfl rfl rfl rfl rfl rfl rfl ⟨rfl, rfl, rfl, rfl, rfl⟩ rfl rfl rfl rfl rfl (by kernel_rfl) Tryd.func6 (by kernel_rfl)
    (of_decide_eq_true (by kernel_rfl)) (by unfold Func.isWrapper; first | (rw [if_pos (by decide +kernel)]; kernel_rfl) | (rw [if_neg (by decide +kernel)]; exact ⟨rfl, rfl⟩))
    (fun os started H enc _ => lifted os started H enc)

theorem card_holds : Rows.WrapKeepsCardSaid :=
  Claim7.holds_tied_plain_at .later [] [.data] true Rows.wrapKeepsCard.stood.harness false
    over (fun _ h => by cases h) (by kernel_rfl) (fun _ h => by cases h) wrapKeeps_row_tie rfl ⟨rfl, rfl⟩ (by kernel_rfl) rfl
    (fun f fn hf hfn => by
      obtain rfl : f = 6 := Option.some.inj ((show Tryd.prog.funcNamed "publisher/publisherlaw38.WrapKeeps" = some 6 by kernel_rfl).symm.trans hf) |>.symm
      obtain rfl : fn = Tryd.f6 := (Option.some.inj (Tryd.func6.symm.trans hfn)).symm
      exact ⟨by kernel_rfl, fun j t ht => by
        rw [Tryd.params6] at ht
        have hm : t ∈ [9, 3] := by simpa using Array.mem_of_getElem? ht
        have hall : ([9, 3].all fun u => !Tryd.prog.wantsStandIn u) = true := by kernel_rfl
        exact (show Tryd.prog.wantsStandIn t = false by simpa using List.all_eq_true.1 hall t hm)⟩)
    (by kernel_rfl)
end Go.Proofs.YtgjhfjplalcnbaaDoor.LawKeeps

namespace Go.Proofs.YtgjhfjplalcnbaaDoor
theorem wrapKeeps_proved : Rows.WrapKeepsCardSaid := LawKeeps.card_holds
#print axioms wrapKeeps_proved
end Go.Proofs.YtgjhfjplalcnbaaDoor
