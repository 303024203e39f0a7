/- Contracts of publisherref01.clean, Digit, Valid. Contracts of publisherref04.line, trimmed, has, in, noAttr and of publisherref03.line. Contracts of publisherref03.letter, part, word, Name. -/
import Derived.Test.YtjobjicdfoklpaaGreatDoorChH
import Derived.Test.YtjobjicdfoklpaaGreatDoorRFoldR
import Derived.Test.YtjobjicdfoklpaaGreatDoorMergP
import Derived.RegionTactic
namespace Go.Proofs.YtjobjicdfoklpaaGreatDoor
open Go.RowKit
set_option linter.unusedVariables false
set_option linter.unusedSimpArgs false

def clnB (c : Nat) : Bool := decide (c = 10) || (decide (32 ≤ c) && !decide (c = 127))
set_option maxRecDepth 100000 in
set_option maxHeartbeats 1000000 in
theorem rClean_any (c : Nat) (w : World) (hc : c ≤ 1114111) :
    Calls Tryz.prog 160 #[.int .i64 (c : Int)] w fun e w' => e = .returned (.bool (clnB c)) ∧ w = w' := by
  go_enter Tryz.func160, Tryz.ntmps160
  go_wp2
  all_goals
    go_ret
    refine ⟨ret_bool ?_, rfl⟩
    unfold clnB
    (try simp only [beq_iff_eq, beq_eq_false_iff_ne, ne_eq, bne_iff_ne, bne_eq_false_iff_eq] at *)
    rw [Bool.eq_iff_iff]
    simp
    omega
set_option maxRecDepth 100000 in
set_option maxHeartbeats 1000000 in
theorem rDigit_any (c : Nat) (w : World) (hc : c ≤ 1114111) :
    Calls Tryz.prog 225 #[.int .i64 (c : Int)] w fun e w' => e = .returned (.bool (digC c)) ∧ w = w' := by
  go_enter Tryz.func225, Tryz.ntmps225
  go_wp2
  all_goals
    go_ret
    refine ⟨ret_bool ?_, rfl⟩
    unfold digC
    (try unfold inR)
    rw [Bool.eq_iff_iff]
    simp
    omega
theorem dec_i (a b : Nat) : decide (a = b) = ((a : Int) == (b : Int)) := by rw [Bool.eq_iff_iff]; simp; omega
theorem okPt_eq (a b : Nat) : okPt (a, b) = (clnB a && !(((a : Int) == 65533) && ((b : Int) == 1))) := by
  unfold okPt clnB
  rw [dec_i a 65533, dec_i b 1]
  rfl
/-- The cells of a slice of points. -/
theorem pts_cells {w1 : World} {B : Nat} {v1 : Value} {ps : List (Nat × Nat)} (ho1 : w1.ownsRow B 162 2 v1 ps.length (ptRows ps).flatten) :
    ∃ a cap, v1 = .slice a ps.length cap ∧ ps.length ≤ cap ∧ cap ≤ maxLen ∧ (0 < ps.length → ∃ b, a = some ⟨b, 0, none⟩ ∧ b < w1.heap.size ∧ ∀ k p, ps[k]? = some p → w1.cell? ⟨b, k * 2, none⟩ = some (.int .i64 (p.1 : Int)) ∧ w1.cell? ⟨b, k * 2 + 1, none⟩ = some (.int .i64 (p.2 : Int))) := by
  rcases ho1.2 with ⟨rfl, h0⟩ | ⟨g, cap, cur, rfl, hg, hh, hn, hm, _⟩
  · exact ⟨none, 0, by rw [h0], by omega, Nat.zero_le _, fun h => by omega⟩
  · refine ⟨_, cap, rfl, hn, hm, fun _ => ⟨g, rfl, (ho1.lt g rfl).2, fun k p hk => ?_⟩⟩
    have hr : (ptRows ps)[k]? = some (ptRow p) := by simp [ptRows, hk]
    have h0 := ho1.cells rfl _ _ (flat_get 2 _ (ptRows_k ps) k 0 _ (.int .i64 (p.1 : Int)) hr rfl)
    have h1 := ho1.cells rfl _ _ (flat_get 2 _ (ptRows_k ps) k 1 _ (.int .i64 (p.2 : Int)) hr rfl)
    have e : ∀ j, ((⟨g, 0, none⟩ : Addr).add j) = ⟨g, j, none⟩ := fun j => by unfold Addr.add; split <;> simp_all
    rw [e] at h0 h1
    exact ⟨h0, h1⟩
theorem all_snoc {α : Type} (f : α → Bool) {l : List α} {k : Nat} {x : α} (h : l[k]? = some x) : (l.take (k + 1)).all f = ((l.take k).all f && f x) := by
  rw [List.take_add_one, h]; simp
theorem all_no {α : Type} (f : α → Bool) {l : List α} {k : Nat} {x : α} (h : l[k]? = some x) (hf : f x = false) : l.all f = false := by
  rw [List.all_eq_false]; exact ⟨x, List.mem_of_getElem? h, by rw [hf]; decide⟩
def VdRel (w1 wr : World) (ps : List (Nat × Nat)) (vi : Value) : Prop := ∃ k : Nat, k ≤ ps.length ∧ vi = .int .i64 k ∧ (ps.take k).all okPt = true ∧ Below w1.heap.size w1 wr

set_option maxRecDepth 100000 in
set_option maxHeartbeats 1000000 in
theorem rValid_any (s : ByteArray) (w : World) (hs : s.size ≤ 1000000000) :
    Calls Tryz.prog 103 #[.string s] w (RetB (.bool (validS s)) w) := by
  have PO := Lib.hid (rPoints_any s w (by omega))
  obtain ⟨V, hV⟩ : ∃ V, V = validS s := ⟨_, rfl⟩
  rw [← hV]
  have HV : Hid (V = (pts s).all okPt) := hV
  have hpl : (pts s).length ≤ s.size := by have := ptsF_len s s.size 0; unfold pts; simpa using this
  have HPL := Lib.hid (ptsF_le s s.size 0)
  change Hid (∀ p ∈ pts s, p.1 ≤ 1114111) at HPL
  clear hV
  generalize pts s = ps at *
  go_enter Tryz.func103, Tryz.ntmps103
  go_wp2_with fail
  refine PO.out.mono ?_
  rintro e w1 ⟨v1, rfl, ho1, b1⟩
  obtain ⟨a, cap, rfl, hcap, hmx, hcs⟩ := pts_cells ho1
  have HCS := Lib.hid hcs
  have B1 := Lib.hid b1
  have HZ : Hid ((ps.take 0).all okPt = true) := rfl
  clear hcs ho1 PO b1
  unfold maxLen at hmx
  go_wp2
  go_loopw [8] (fun vi wr => VdRel w1 wr ps vi) (fun i _ => ps.length - (intOf i).toNat)
  case atStart => exact ⟨0, Nat.zero_le _, rfl, HZ.out, Below.refl _ _⟩
  case round =>
    obtain ⟨k, hk, rfl, hall, hbel⟩ := hrel
    have HA := Lib.hid hall
    have HB := Lib.hid hbel
    clear hall
    by_cases hlt : k < ps.length
    · obtain ⟨p, hp⟩ : ∃ p, ps[k]? = some p := ⟨_, List.getElem?_eq_getElem hlt⟩
      obtain ⟨b, rfl, hbl, hc⟩ := HCS.out (by omega)
      obtain ⟨k1, k2⟩ := hc k p hp
      have c1 : wr.cell? ⟨b, k * 2, none⟩ = some (.int .i64 (p.1 : Int)) := by rw [hbel.cell (p := ⟨b, k * 2, none⟩) hbl]; exact k1
      have c2 : wr.cell? ⟨b, k * 2 + 1, none⟩ = some (.int .i64 (p.2 : Int)) := by rw [hbel.cell (p := ⟨b, k * 2 + 1, none⟩) hbl]; exact k2
      have hd := HPL.out p (List.mem_of_getElem? hp)
      have HSN := Lib.hid (all_snoc okPt hp)
      have HNO := Lib.hid (fun hf => HV.out.trans (all_no okPt hp hf))
      obtain ⟨d1, d2⟩ := p
      simp only at hd c1 c2
      have CC := Lib.hid (fun w => rClean_any d1 w hd)
      have HOK := Lib.hid (okPt_eq d1 d2)
      clear hp hc k1 k2 hbel
      cases hcl : clnB d1 with
      | false =>
        rw [hcl] at CC HOK
        have HE : Hid (V = false) := HNO.out HOK.out
        clear hcl
        go_wp2_with fail
        refine (CC.out _).mono ?_
        rintro e w2 ⟨rfl, rfl⟩
        go_wp2
        go_ret
        exact ⟨by rw [HE.out]; rfl, below_trans_size B1.out (HB.out.alloc HB.out.size _)⟩
      | true =>
        rw [hcl] at CC HOK
        cases hq1 : ((d1 : Int) == 65533) with
        | false =>
          rw [hq1] at HOK
          clear hcl
          go_wp2_with fail
          refine (CC.out _).mono ?_
          rintro e w2 ⟨rfl, rfl⟩
          go_wp2
          go_roundw
          case rel => exact ⟨k + 1, by omega, by go_num, by rw [HSN.out, HA.out, HOK.out]; rfl, HB.out.alloc HB.out.size _⟩
          case measure => simp [intOf]; omega
        | true =>
          cases hq2 : ((d2 : Int) == 1) with
          | false =>
            rw [hq1, hq2] at HOK
            clear hcl
            go_wp2_with fail
            refine (CC.out _).mono ?_
            rintro e w2 ⟨rfl, rfl⟩
            go_wp2
            go_roundw
            case rel => exact ⟨k + 1, by omega, by go_num, by rw [HSN.out, HA.out, HOK.out]; rfl, HB.out.alloc HB.out.size _⟩
            case measure => simp [intOf]; omega
          | true =>
            rw [hq1, hq2] at HOK
            have HE : Hid (V = false) := HNO.out HOK.out
            clear hcl
            go_wp2_with fail
            refine (CC.out _).mono ?_
            rintro e w2 ⟨rfl, rfl⟩
            go_wp2
            go_ret
            exact ⟨by rw [HE.out]; rfl, below_trans_size B1.out (HB.out.alloc HB.out.size _)⟩
    · have HE : Hid (V = true) := by
        show V = true
        have := HA.out
        rw [List.take_of_length_le (by omega)] at this
        rw [HV.out, this]
      go_wp2
      go_ret
      exact ⟨by rw [HE.out]; rfl, below_trans_size B1.out HB.out⟩
end Go.Proofs.YtjobjicdfoklpaaGreatDoor

namespace Go.Proofs.YtjobjicdfoklpaaGreatDoor
open Go.RowKit
set_option linter.unusedVariables false
set_option linter.unusedSimpArgs false

theorem noLF_iff (s : ByteArray) : noLF s = true ↔ ∀ j, j < s.size → bt s j ≠ 10 := by
  unfold noLF
  rw [List.all_eq_true]
  constructor
  · intro h j hj hc
    have h1 := h s[j] (List.mem_of_getElem? (byte_get s j hj))
    rw [← bt_eq s j hj] at hc
    have : s[j] = 10 := by rw [← UInt8.toNat_inj]; exact hc
    rw [this] at h1
    simp at h1
  · intro h c hc
    obtain ⟨j, hj, rfl⟩ := List.getElem_of_mem hc
    have hj' : j < s.size := by simpa using hj
    have h1 := h j hj'
    rw [← bt_eq s j hj'] at h1
    have h2 : s.data.toList[j] = s[j] := by have := byte_get s j hj'; rw [List.getElem?_eq_getElem hj] at this; exact Option.some.inj this
    rw [h2]
    simp
    intro h3
    rw [h3] at h1
    exact h1 rfl
def LnRel (s : ByteArray) (vi : Value) : Prop := ∃ k : Nat, k ≤ s.size ∧ vi = .int .i64 k ∧ ∀ j, j < k → bt s j ≠ 10

set_option maxRecDepth 100000 in
set_option maxHeartbeats 1000000 in
theorem rLine_any (s : ByteArray) (w : World) (hs : s.size ≤ 1000000000) :
    Calls Tryz.prog 51 #[.string s] w (RetB (.bool (lineS s)) w) := by
  have VA := Lib.hid (rValid_any s w hs)
  have HL : Hid (lineS s = (validS s && noLF s)) := rfl
  have HN := Lib.hid (noLF_iff s)
  obtain ⟨V, hV⟩ : ∃ V, V = lineS s := ⟨_, rfl⟩
  rw [← hV] at HL ⊢
  clear hV
  cases hv : validS s with
  | false =>
    rw [hv] at VA HL
    clear hv
    go_enter Tryz.func51, Tryz.ntmps51
    go_wp2_with fail
    refine VA.out.mono ?_
    rintro e w1 ⟨rfl, b1⟩
    have HB := Lib.hid b1
    go_wp2
    go_ret
    exact ⟨by rw [HL.out]; rfl, HB.out⟩
  | true =>
    rw [hv] at VA HL
    clear hv
    go_enter Tryz.func51, Tryz.ntmps51
    go_wp2_with fail
    refine VA.out.mono ?_
    rintro e w1 ⟨rfl, b1⟩
    have HB := Lib.hid b1
    have R0 : Hid (LnRel s (.int .i64 0)) := ⟨0, Nat.zero_le _, rfl, fun j hj => by omega⟩
    clear VA b1
    go_wp2
    go_loop [3] (fun i => LnRel s i) (fun i => s.size - (intOf i).toNat)
    case atStart => exact R0.out
    case round =>
      clear R0
      obtain ⟨k, hk, rfl, hall⟩ := hrel
      have HA := Lib.hid hall
      clear hall
      by_cases hlt : k < s.size
      · have eb := bt_eq s k hlt
        by_cases hc : bt s k = 10
        · have HE : Hid (V = false) := by
            show V = false
            rw [HL.out]
            have h1 : noLF s = false := by
              cases h2 : noLF s
              · rfl
              · exact absurd hc (HN.out.1 h2 k hlt)
            rw [h1]; rfl
          have hq : (((bt s k : Nat) : Int) == 10) = true := by rw [hc]; rfl
          rw [← eb] at hq
          clear hc eb
          go_wp2
          go_ret
          exact ⟨by rw [HE.out]; rfl, HB.out⟩
        · have HC := Lib.hid hc
          have hq : (((bt s k : Nat) : Int) == 10) = false := by rw [beq_eq_false_iff_ne]; omega
          rw [← eb] at hq
          clear hc eb
          go_wp2
          go_round
          case rel =>
            refine ⟨k + 1, by omega, by go_num, fun j hj => ?_⟩
            rcases Nat.lt_or_ge j k with h | h
            · exact HA.out j h
            · have : j = k := by omega
              subst this; exact HC.out
          case measure => simp [intOf]; omega
      · have HE : Hid (V = true) := by
          show V = true
          rw [HL.out, HN.out.2 (fun j hj => HA.out j (by omega))]; rfl
        go_wp2
        go_ret
        exact ⟨by rw [HE.out]; rfl, HB.out⟩

set_option maxRecDepth 100000 in
set_option maxHeartbeats 1000000 in
theorem rLine3_any (s : ByteArray) (w : World) (hs : s.size ≤ 1000000000) :
    Calls Tryz.prog 219 #[.string s] w (RetB (.bool (lineS s)) w) := by
  have VA := Lib.hid (rValid_any s w hs)
  have HL : Hid (lineS s = (validS s && noLF s)) := rfl
  have HN := Lib.hid (noLF_iff s)
  obtain ⟨V, hV⟩ : ∃ V, V = lineS s := ⟨_, rfl⟩
  rw [← hV] at HL ⊢
  clear hV
  cases hv : validS s with
  | false =>
    rw [hv] at VA HL
    clear hv
    go_enter Tryz.func219, Tryz.ntmps219
    go_wp2_with fail
    refine VA.out.mono ?_
    rintro e w1 ⟨rfl, b1⟩
    have HB := Lib.hid b1
    go_wp2
    go_ret
    exact ⟨by rw [HL.out]; rfl, HB.out⟩
  | true =>
    rw [hv] at VA HL
    clear hv
    go_enter Tryz.func219, Tryz.ntmps219
    go_wp2_with fail
    refine VA.out.mono ?_
    rintro e w1 ⟨rfl, b1⟩
    have HB := Lib.hid b1
    have R0 : Hid (LnRel s (.int .i64 0)) := ⟨0, Nat.zero_le _, rfl, fun j hj => by omega⟩
    clear VA b1
    go_wp2
    go_loop [3] (fun i => LnRel s i) (fun i => s.size - (intOf i).toNat)
    case atStart => exact R0.out
    case round =>
      clear R0
      obtain ⟨k, hk, rfl, hall⟩ := hrel
      have HA := Lib.hid hall
      clear hall
      by_cases hlt : k < s.size
      · have eb := bt_eq s k hlt
        by_cases hc : bt s k = 10
        · have HE : Hid (V = false) := by
            show V = false
            rw [HL.out]
            have h1 : noLF s = false := by
              cases h2 : noLF s
              · rfl
              · exact absurd hc (HN.out.1 h2 k hlt)
            rw [h1]; rfl
          have hq : (((bt s k : Nat) : Int) == 10) = true := by rw [hc]; rfl
          rw [← eb] at hq
          clear hc eb
          go_wp2
          go_ret
          exact ⟨by rw [HE.out]; rfl, HB.out⟩
        · have HC := Lib.hid hc
          have hq : (((bt s k : Nat) : Int) == 10) = false := by rw [beq_eq_false_iff_ne]; omega
          rw [← eb] at hq
          clear hc eb
          go_wp2
          go_round
          case rel =>
            refine ⟨k + 1, by omega, by go_num, fun j hj => ?_⟩
            rcases Nat.lt_or_ge j k with h | h
            · exact HA.out j h
            · have : j = k := by omega
              subst this; exact HC.out
          case measure => simp [intOf]; omega
      · have HE : Hid (V = true) := by
          show V = true
          rw [HL.out, HN.out.2 (fun j hj => HA.out j (by omega))]; rfl
        go_wp2
        go_ret
        exact ⟨by rw [HE.out]; rfl, HB.out⟩

set_option maxRecDepth 100000 in
set_option maxHeartbeats 1000000 in
theorem rTrim_any (s : ByteArray) (w : World) (hs : s.size ≤ 1000000000) :
    Calls Tryz.prog 52 #[.string s] w fun e w' => e = .returned (.bool (trimS s)) ∧ w = w' := by
  rcases emp_part s with rfl | ⟨hne, hp, hie, hes⟩
  · go_enter Tryz.func52, Tryz.ntmps52
    go_wp2
    go_ret
    exact ⟨rfl, rfl⟩
  · have hv : trimS s = (!decide (bt s 0 = 32) && !decide (bt s (s.size - 1) = 32)) := by
      unfold trimS; unfold emptyS at hes; rw [hes, head_bt s 32 hp, last_bt s 32 hp]; rfl
    rw [hv]
    have e0 := bt_eq s 0 hp
    have e1 := bt_eq s (s.size - 1) (by omega)
    generalize bt s 0 = b0 at *
    generalize bt s (s.size - 1) = b1 at *
    have hsub : ((s.size : Int) - 1).toNat = s.size - 1 := by omega
    clear hv hes
    go_enter Tryz.func52, Tryz.ntmps52
    go_wp2
    all_goals
      go_ret
      refine ⟨ret_bool ?_, rfl⟩
      (try simp only [beq_iff_eq, beq_eq_false_iff_ne, ne_eq, bne_iff_ne, bne_eq_false_iff_eq] at *)
      rw [Bool.eq_iff_iff]
      simp
      (try omega)

def HsRel (s b : ByteArray) (w : World) (vi : Value) (wr : World) : Prop := ∃ k q : Nat, k ≤ s.size ∧ vi = .int .i64 k ∧ (∀ j i, j < k → i < b.size → bt s j ≠ bt b i) ∧ wr = w.drewN q
def HsRel2 (s b : ByteArray) (w : World) (k : Nat) (vi : Value) (wr : World) : Prop := ∃ i q : Nat, i ≤ b.size ∧ vi = .int .i64 i ∧ (∀ j, j < i → bt s k ≠ bt b j) ∧ wr = w.drewN q
theorem hasAny_iff (s b : ByteArray) : hasAny s b.data.toList = true ↔ ∃ j i, j < s.size ∧ i < b.size ∧ bt s j = bt b i := by
  unfold hasAny
  rw [List.any_eq_true]
  constructor
  · rintro ⟨c, hc, hb⟩
    rw [List.contains_iff_mem] at hb
    obtain ⟨j, hj, rfl⟩ := List.getElem_of_mem hc
    obtain ⟨i, hi, he⟩ := List.getElem_of_mem hb
    have hj' : j < s.size := by simpa using hj
    have hi' : i < b.size := by simpa using hi
    refine ⟨j, i, hj', hi', ?_⟩
    rw [← bt_eq s j hj', ← bt_eq b i hi']
    exact congrArg UInt8.toNat he.symm
  · rintro ⟨j, i, hj, hi, he⟩
    refine ⟨s[j], List.mem_of_getElem? (byte_get s j hj), ?_⟩
    rw [List.contains_iff_mem]
    rw [← bt_eq s j hj, ← bt_eq b i hi, UInt8.toNat_inj] at he
    rw [he]
    exact List.mem_of_getElem? (byte_get b i hi)
theorem drewN_drew (w : World) (q : Nat) : (w.drewN q).drew = w.drewN (q + 1) := rfl
theorem below_drewN0 (w : World) (q : Nat) : Below w.heap.size w (w.drewN q) := below_dN (Below.refl _ _) q

set_option maxRecDepth 100000 in
set_option maxHeartbeats 1000000 in
theorem rHasB_any (s b : ByteArray) (w : World) (hs : s.size ≤ 1000000000) (hb : b.size ≤ 1000000000) :
    Calls Tryz.prog 221 #[.string s, .string b] w (RetB (.bool (hasAny s b.data.toList)) w) := by
  have HI := Lib.hid (hasAny_iff s b)
  obtain ⟨V, hV⟩ : ∃ V, V = hasAny s b.data.toList := ⟨_, rfl⟩
  rw [← hV] at HI ⊢
  clear hV
  have R0 : Hid (HsRel s b w (.int .i64 0) w) := ⟨0, 0, Nat.zero_le _, rfl, fun j i hj => by omega, rfl⟩
  go_enter Tryz.func221, Tryz.ntmps221
  go_wp2
  go_loopw [5] (fun vi wr => HsRel s b w vi wr) (fun i _ => s.size - (intOf i).toNat)
  case atStart => exact R0.out
  case round =>
    clear R0
    obtain ⟨k, q, hk, rfl, hall, rfl⟩ := hrel
    have HAL := Lib.hid hall
    clear hall
    by_cases hlt : k < s.size
    · have R1 : Hid (HsRel2 s b w k (.int .i64 0) (w.drewN q)) := ⟨0, q, Nat.zero_le _, rfl, fun j hj => by omega, rfl⟩
      go_wp2
      go_loopw [6] (fun vi wr => HsRel2 s b w k vi wr) (fun i _ => b.size - (intOf i).toNat)
      case atStart => exact R1.out
      case round =>
        clear R1
        obtain ⟨i, q2, hi, rfl, hall2, rfl⟩ := hrel
        have HAL2 := Lib.hid hall2
        clear hall2
        by_cases hlt2 : i < b.size
        · have eb := bt_eq s k hlt
          have ec := bt_eq b i hlt2
          by_cases hc : bt s k = bt b i
          · have HE : Hid (V = true) := HI.out.2 ⟨k, i, hlt, hlt2, hc⟩
            have hq : (((bt s k : Nat) : Int) == ((bt b i : Nat) : Int)) = true := by rw [hc]; simp
            rw [← eb, ← ec] at hq
            clear hc eb ec
            go_upto_region 7 with (fail)
            go_region
            go_wp2
            go_ret
            exact ⟨by rw [HE.out]; rfl, below_drewN0 w (q2 + 1)⟩
          · have HC := Lib.hid hc
            have hq : (((bt s k : Nat) : Int) == ((bt b i : Nat) : Int)) = false := by rw [beq_eq_false_iff_ne]; omega
            rw [← eb, ← ec] at hq
            clear hc eb ec
            go_upto_region 7 with (fail)
            go_region
            go_wp2
            go_roundw
            case rel =>
              refine ⟨i + 1, q2 + 1, by omega, by go_num, fun j hj => ?_, rfl⟩
              rcases Nat.lt_or_ge j i with h | h
              · exact HAL2.out j h
              · have : j = i := by omega
                subst this; exact HC.out
            case measure => simp [intOf]; omega
        · go_wp2
          go_roundw
          case rel =>
            refine ⟨k + 1, q2, by omega, by go_num, fun j i' hj hi' => ?_, rfl⟩
            rcases Nat.lt_or_ge j k with h | h
            · exact HAL.out j i' h hi'
            · have : j = k := by omega
              subst this; exact HAL2.out i' (by omega)
          case measure => simp [intOf]; omega
    · have HE : Hid (V = false) := by
        show V = false
        cases hV : V with
        | false => rfl
        | true =>
          obtain ⟨j, i, hj, hi, he⟩ := HI.out.1 hV
          exact absurd he (HAL.out j i (by omega) hi)
      go_wp2
      go_ret
      exact ⟨by rw [HE.out]; rfl, below_drewN0 w q⟩

set_option maxRecDepth 100000 in
set_option maxHeartbeats 1000000 in
theorem rIn_any (n : Int) (ks : List Int) (g cap : Nat) (w : World) (hl : ks.length ≤ 1000) (hc : ∀ j k, ks[j]? = some k → w.cell? ⟨g, j, none⟩ = some (.int .i64 k)) :
    Calls Tryz.prog 181 #[.int .i64 n, .slice (some ⟨g, 0, none⟩) ks.length cap] w fun e w' => e = .returned (.bool (ks.contains n)) ∧ w = w' := by
  have HC := Lib.hid hc
  have R0 : Hid (OoRel n ks (.int .i64 0)) := ⟨0, Nat.zero_le _, rfl, by simp⟩
  obtain ⟨V, hV⟩ : ∃ V, V = ks.contains n := ⟨_, rfl⟩
  rw [← hV]
  have HV := Lib.hid hV
  clear hc hV
  go_enter Tryz.func181, Tryz.ntmps181
  go_wp2
  go_loop [5] (fun i => OoRel n ks i) (fun i => ks.length - (intOf i).toNat)
  case atStart => exact R0.out
  case round =>
    clear R0
    obtain ⟨k, hk, rfl, hno⟩ := hrel
    have HN := Lib.hid hno
    clear hno
    by_cases hlt : k < ks.length
    · obtain ⟨x, hx⟩ : ∃ x, ks[k]? = some x := ⟨_, List.getElem?_eq_getElem hlt⟩
      have hcell := HC.out k x hx
      have HT : Hid ((ks.take (k + 1)).contains n = ((ks.take k).contains n || (x == n))) := by
        show _ = _
        have e : (x == n) = (n == x) := by rw [Bool.eq_iff_iff, beq_iff_eq, beq_iff_eq]; exact eq_comm
        rw [e, List.take_add_one, hx, Bool.eq_iff_iff]
        simp
      have HX := Lib.hid hx
      clear hx
      cases hnx : (x == n)
      · rw [hnx] at HT
        go_wp2
        go_round
        case rel => exact ⟨k + 1, by omega, by go_num, by rw [HT.out, HN.out]; rfl⟩
        case measure => simp [intOf]; omega
      · have HE : Hid (V = true) := by
          show V = true
          rw [HV.out, List.contains_iff_mem]
          have : x = n := by simpa using hnx
          rw [← this]; exact List.mem_of_getElem? HX.out
        go_wp2
        go_ret
        exact ⟨by rw [HE.out]; rfl, rfl⟩
    · have HE : Hid (V = false) := by
        show V = false
        rw [HV.out]
        have := HN.out
        rwa [List.take_of_length_le (by omega)] at this
      go_wp2
      go_ret
      exact ⟨by rw [HE.out]; rfl, rfl⟩

set_option maxRecDepth 100000 in
set_option maxHeartbeats 1000000 in
theorem rNoAttr_any (a : At) (ac ap : Option Addr) (cc cp : Nat) (w : World) (hc : a.cls.length ≤ maxLen) (hp : a.prs.length ≤ maxLen) :
    Calls Tryz.prog 182 #[.agg #[.string a.id, .slice ac a.cls.length cc, .slice ap a.prs.length cp]] w (RetB (.bool a.none) w) := by
  obtain ⟨id, cls, prs⟩ := a
  unfold maxLen at hc hp
  dsimp only at hc hp ⊢
  have HV : Hid (At.none ⟨id, cls, prs⟩ = (emptyS id && cls.isEmpty && prs.isEmpty)) := rfl
  have e1 := len0 cls
  have e2 := len0 prs
  have e3 := emp_eq id
  obtain ⟨V, hV⟩ : ∃ V, V = At.none ⟨id, cls, prs⟩ := ⟨_, rfl⟩
  rw [← hV] at HV ⊢
  clear hV
  generalize emptyS id = b3 at *
  generalize cls.isEmpty = b1 at *
  generalize prs.isEmpty = b2 at *
  cases b3 <;> cases b1 <;> cases b2
  all_goals
    go_enter Tryz.func182, Tryz.ntmps182
    go_wp2
    go_ret
    exact ⟨by rw [HV.out]; rfl, (Below.refl _ _).alloc (Nat.le_refl _) _⟩
end Go.Proofs.YtjobjicdfoklpaaGreatDoor

namespace Go.Proofs.YtjobjicdfoklpaaGreatDoor
open Go.RowKit
set_option linter.unusedVariables false
set_option linter.unusedSimpArgs false

set_option maxRecDepth 100000 in
set_option maxHeartbeats 1000000 in
theorem rLetter3_any (c : Nat) (w : World) (hc : c < 256) :
    Calls Tryz.prog 101 #[.int .u8 (c : Int)] w fun e w' => e = .returned (.bool (ltrC c)) ∧ w = w' := by
  go_enter Tryz.func101, Tryz.ntmps101
  go_wp2
  all_goals
    go_ret
    refine ⟨ret_bool ?_, rfl⟩
    unfold ltrC inR
    rw [Bool.eq_iff_iff]
    simp
    omega

set_option maxRecDepth 100000 in
set_option maxHeartbeats 2000000 in
theorem rPart_any (c : Nat) (w : World) (hc : c < 256) :
    Calls Tryz.prog 158 #[.int .u8 (c : Int)] w fun e w' => e = .returned (.bool (nmC c)) ∧ w = w' := by
  have LT := Lib.hid (fun w => rLetter3_any c w hc)
  have HL : Hid (ltrC c = true ↔ (97 ≤ c ∧ c ≤ 122) ∨ (65 ≤ c ∧ c ≤ 90)) := by
    show _ ↔ _
    unfold ltrC inR
    simp
  cases hl : ltrC c with
  | true =>
    rw [hl] at LT
    have hv : nmC c = true := by unfold nmC; rw [hl]; simp
    rw [hv]
    clear hl hv
    go_enter Tryz.func158, Tryz.ntmps158
    go_wp2_with fail
    refine (LT.out _).mono ?_
    rintro e w1 ⟨rfl, rfl⟩
    go_wp2
    go_ret
    exact ⟨rfl, rfl⟩
  | false =>
    rw [hl] at LT
    have HV : Hid (nmC c = ((decide (c = 45) || decide (c = 95) || decide (c = 46) || decide (c = 58)) || inR c 48 57)) := by show _ = _; unfold nmC; rw [hl]; simp
    generalize nmC c = V at *
    clear hl
    go_enter Tryz.func158, Tryz.ntmps158
    go_wp2_with fail
    refine (LT.out _).mono ?_
    rintro e w1 ⟨rfl, rfl⟩
    go_wp2
    all_goals
      go_ret
      refine ⟨ret_bool ?_, rfl⟩
      rw [HV.out]
      (try simp only [beq_iff_eq, beq_eq_false_iff_ne, ne_eq] at *)
      rw [Bool.eq_iff_iff]
      unfold inR
      simp
      (try omega)

set_option maxRecDepth 100000 in
set_option maxHeartbeats 1000000 in
theorem rWord_any (s : ByteArray) (w : World) (hs : s.size ≤ 1000000000) :
    Calls Tryz.prog 102 #[.string s, .int .i64 0] w fun e w' => e = .returned (.int .i64 (wEnd0 s : Nat)) ∧ w = w' := by
  obtain ⟨V, hV⟩ : ∃ V, V = wEnd0 s := ⟨_, rfl⟩
  rw [← hV]
  have HV := Lib.hid hV
  clear hV
  go_enter Tryz.func102, Tryz.ntmps102
  go_wp2
  go_loop [1] (fun vi => ∃ k : Nat, k ≤ s.size ∧ vi = .int .i64 k ∧ ∀ j x, j < k → s.data.toList[j]? = some x → nmB x = true) (fun i => s.size - (intOf i).toNat)
  case atStart => exact ⟨0, Nat.zero_le _, rfl, fun j x hj => by omega⟩
  case round =>
    obtain ⟨k, hk, rfl, hall⟩ := hrel
    have HA := Lib.hid hall
    clear hall
    by_cases hlt : k < s.size
    · have hgl := UInt8.toNat_lt s[k]
      have IN := Lib.hid (fun w => rPart_any s[k].toNat w hgl)
      have HG := Lib.hid (byte_get s k hlt)
      cases hn : nmC s[k].toNat with
      | true =>
        rw [hn] at IN
        have HN := Lib.hid hn
        clear hn
        go_wp2_with fail
        refine (IN.out _).mono ?_
        rintro e w1 ⟨rfl, rfl⟩
        go_wp2
        go_round
        case rel =>
          refine ⟨k + 1, by omega, by go_num, fun j x hj hx => ?_⟩
          rcases Nat.lt_or_ge j k with h | h
          · exact HA.out j x h hx
          · have : j = k := by omega
            subst this
            rw [HG.out] at hx
            obtain rfl := Option.some.inj hx
            exact HN.out
        case measure => simp [intOf]; omega
      | false =>
        rw [hn] at IN
        have hw : V = k := by
          rw [HV.out]
          exact tw_len nmB _ k (by simpa using hk) HA.out (fun x hx => by rw [HG.out] at hx; obtain rfl := Option.some.inj hx; exact hn)
        have HW := Lib.hid hw
        clear hn hw
        go_wp2_with fail
        refine (IN.out _).mono ?_
        rintro e w1 ⟨rfl, rfl⟩
        go_wp2
        go_ret
        exact ⟨by rw [HW.out]; rfl, rfl⟩
    · have hw : V = k := by
        rw [HV.out]
        refine tw_len nmB _ k (by simpa using hk) HA.out (fun x hx => ?_)
        have := (List.getElem?_eq_some_iff.1 hx).1
        have e : s.data.toList.length = s.size := by simp
        omega
      have HW := Lib.hid hw
      clear hw
      go_wp2
      go_ret
      exact ⟨by rw [HW.out]; rfl, rfl⟩

set_option maxRecDepth 100000 in
set_option maxHeartbeats 1000000 in
theorem rName_any (s : ByteArray) (w : World) (hs : s.size ≤ 1000000000) :
    Calls Tryz.prog 50 #[.string s] w fun e w' => e = .returned (.bool (nameOk s)) ∧ w = w' := by
  by_cases h0 : s.size = 0
  · have hv : nameOk s = false := by unfold nameOk; simp [h0]
    rw [hv]
    have e0 : decide ((1 : Int) ≤ (s.size : Int)) = false := by simp; omega
    clear hv h0
    go_enter Tryz.func50, Tryz.ntmps50
    go_wp2
    go_ret
    exact ⟨rfl, rfl⟩
  have e0 : decide ((1 : Int) ≤ (s.size : Int)) = true := by simp; omega
  by_cases h60 : 60 < s.size
  · have hv : nameOk s = false := by unfold nameOk; simp; omega
    rw [hv]
    have e1 : decide ((s.size : Int) ≤ (60 : Int)) = false := by simp; omega
    clear hv
    go_enter Tryz.func50, Tryz.ntmps50
    go_wp2
    go_ret
    exact ⟨rfl, rfl⟩
  have e1 : decide ((s.size : Int) ≤ (60 : Int)) = true := by simp; omega
  have hp : 0 < s.size := by omega
  have hg := byte_get s 0 hp
  obtain ⟨c, hc⟩ : ∃ c, s[0] = c := ⟨_, rfl⟩
  rw [hc] at hg
  have hcl := UInt8.toNat_lt c
  have LT := Lib.hid (fun w => rLetter3_any c.toNat w hcl)
  have WE := Lib.hid (fun w => rWord_any s w hs)
  have hl : s.data.toList = c :: s.data.toList.tail := by
    cases h : s.data.toList with
    | nil => rw [h] at hg; simp at hg
    | cons a l => rw [h] at hg; simp at hg; rw [hg]; rfl
  have hv : nameOk s = (ltrC c.toNat && decide (wEnd0 s = s.size)) := by
    unfold nameOk
    rw [hl, decide_eq_true (show 1 ≤ s.size by omega), decide_eq_true (show s.size ≤ 60 by omega)]
    rfl
  have HV := Lib.hid hv
  generalize nameOk s = V at *
  generalize wEnd0 s = E at *
  clear hv hl hg
  cases hlt : ltrC c.toNat with
  | false =>
    rw [hlt] at LT
    rw [hlt] at HV
    go_enter Tryz.func50, Tryz.ntmps50
    go_wp2_with fail
    refine (LT.out _).mono ?_
    rintro e w1 ⟨rfl, rfl⟩
    go_wp2
    go_ret
    exact ⟨by rw [HV.out]; rfl, rfl⟩
  | true =>
    rw [hlt] at LT
    rw [hlt] at HV
    go_enter Tryz.func50, Tryz.ntmps50
    go_wp2_with fail
    refine (LT.out _).mono ?_
    rintro e w1 ⟨rfl, rfl⟩
    go_wp2_with fail
    refine (WE.out _).mono ?_
    rintro e w1 ⟨rfl, rfl⟩
    go_wp2
    go_ret
    refine ⟨?_, rfl⟩
    rw [HV.out]
    refine ret_bool ?_
    rw [Bool.eq_iff_iff]
    simp
    (try omega)
end Go.Proofs.YtjobjicdfoklpaaGreatDoor
