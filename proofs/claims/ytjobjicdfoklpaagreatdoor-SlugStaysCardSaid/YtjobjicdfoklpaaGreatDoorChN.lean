/- Contracts of tree.checkCites, checkNamed, checkLink. Contracts of tree.checkNamed, checkLink. -/
import Derived.Test.YtjobjicdfoklpaaGreatDoorChL
import Derived.Test.YtjobjicdfoklpaaGreatDoorChG
namespace Go.Proofs.YtjobjicdfoklpaaGreatDoor
open Go.RowKit
set_option linter.unusedVariables false
set_option linter.unusedSimpArgs false

def citeBs : List UInt8 := [91, 93, 59, 64, 123, 36, 96]
theorem citBad_eq (s : ByteArray) : citBad s = (!lineS s || !trimS s || hasAny s citeBs) := rfl
def CkIn (pre suf : ByteArray) (wi : World) (vj : Value) (wj : World) : Prop := Below wi.heap.size wi wj ∧ (vj = .int .i64 0 ∨ (vj = .int .i64 1 ∧ citBad pre = false) ∨ (vj = .int .i64 2 ∧ citBad pre = false ∧ citBad suf = false))
def CkRel (l : List Ci) (E : Nat) (w : World) (vi : Value) (wr : World) : Prop := ∃ k : Nat, k ≤ l.length ∧ vi = .int .i64 k ∧ Below w.heap.size w wr ∧ cisErr (l.drop k) = E

set_option maxRecDepth 100000 in
set_option maxHeartbeats 8000000 in
theorem checkCites_any (l : List Ci) (a : Option Addr) (cap : Nat) (w : World) (h : Rd (· < w.heap.size) w (cisD l) [.slice a l.length cap]) (hsz : ∀ c ∈ l, c.key.size ≤ 5000 ∧ c.pre.size ≤ 5000 ∧ c.suf.size ≤ 5000) :
    Calls Tryz.prog 204 #[.slice a l.length cap] w (RetB (.int .i64 (citesErr l : Nat)) w) := by
  obtain ⟨a', c', hv, hs⟩ := Rd.sl_open h
  obtain ⟨rfl, rfl⟩ : a' = a ∧ c' = cap := by simp at hv; exact ⟨hv.1.symm, hv.2.symm⟩
  have hcap : l.length ≤ c' := by simpa using hs.le
  have hmx := hs.max
  unfold maxLen at hmx
  have HS := Lib.hid hs
  have SZ := Lib.hid hsz
  clear hs hv h hsz
  by_cases h0 : l.length = 0
  · have hv : citesErr l = 8 := by
      obtain rfl := List.eq_nil_of_length_eq_zero h0
      rfl
    rw [hv]
    have e0 : ((l.length : Int) == 0) = true := by rw [h0]; rfl
    clear hv h0
    go_enter Tryz.func204, Tryz.ntmps204
    go_wp2
    go_ret
    exact ⟨rfl, Below.refl _ _⟩
  have hv : citesErr l = cisErr l := by
    cases l with
    | nil => simp at h0
    | cons x l => rfl
  rw [hv]
  have e0 : ((l.length : Int) == 0) = false := by rw [beq_eq_false_iff_ne]; omega
  obtain ⟨E, hE⟩ : ∃ E, cisErr l = E := ⟨_, rfl⟩
  rw [hE]
  have R0 : Hid (CkRel l E w (.int .i64 0) w) := ⟨0, Nat.zero_le _, rfl, Below.refl _ _, hE⟩
  clear hv hE h0
  go_enter Tryz.func204, Tryz.ntmps204
  go_wp2
  go_loopw [12] (fun i wr => CkRel l E w i wr) (fun i _ => l.length - (intOf i).toNat)
  case atStart => exact R0.out
  case round =>
    clear R0
    obtain ⟨k, hk, rfl, hbel, herr⟩ := hrel
    have HB := Lib.hid hbel
    by_cases hlt : k < l.length
    · obtain ⟨x, hx⟩ : ∃ x, l[k]? = some x := ⟨_, List.getElem?_eq_getElem hlt⟩
      have hxs := SZ.out x (List.mem_of_getElem? hx)
      obtain ⟨b, off, rfl, -, -, c0, c1, c2, c3⟩ := cis_at HS.out hx
      have c0 : wr.cell? ⟨b, off + k * 4, none⟩ = some (.string x.key) := by rw [hbel.cell (p := ⟨b, off + k * 4, none⟩) (cell_lt c0)]; exact c0
      have c1 : wr.cell? ⟨b, off + k * 4 + 1, none⟩ = some (.string x.pre) := by rw [hbel.cell (p := ⟨b, off + k * 4 + 1, none⟩) (cell_lt c1)]; exact c1
      have c2 : wr.cell? ⟨b, off + k * 4 + 2, none⟩ = some (.string x.suf) := by rw [hbel.cell (p := ⟨b, off + k * 4 + 2, none⟩) (cell_lt c2)]; exact c2
      have c3 : wr.cell? ⟨b, off + k * 4 + 3, none⟩ = some (.bool x.bare) := by rw [hbel.cell (p := ⟨b, off + k * 4 + 3, none⟩) (cell_lt c3)]; exact c3
      rw [drop_cons l k x hx, cisErr] at herr
      obtain ⟨key, pre, suf, bare⟩ := x
      dsimp only at c0 c1 c2 c3 hxs herr
      have HERR := Lib.hid herr
      have CN := Lib.hid (fun w => name_any key w (by omega))
      clear herr hx hbel
      cases hn : nameOk key with
      | false =>
        rw [hn] at CN
        have HE : Hid (E = 6) := by
          show E = 6
          have := HERR.out
          rw [if_pos hn] at this
          exact this.symm
        clear hn
        go_wp2_with fail
        refine (CN.out _).mono ?_
        rintro e w3 ⟨rfl, rfl⟩
        go_wp2
        go_ret
        exact ⟨by rw [HE.out]; rfl, HB.out.alloc HB.out.size _⟩
      | true =>
        rw [hn] at CN
        have HERR2 : Hid ((if citBad pre = true ∨ citBad suf = true then 17 else cisErr (l.drop (k + 1))) = E) := by
          show _ = _
          have := HERR.out
          rw [if_neg (by rw [hn]; decide)] at this
          exact this
        obtain ⟨wi, hwi⟩ : ∃ wi, wi = wr.alloc (.cells #[.string key, .string pre, .string suf, .bool bare] 109) := ⟨_, rfl⟩
        have HBI : Hid (Below w.heap.size w wi) := by rw [hwi]; exact HB.out.alloc HB.out.size _
        have i0 : wi.cell? ⟨wr.heap.size, 0, none⟩ = some (.string key) := by rw [hwi]; exact new_cell wr [.string key, .string pre, .string suf, .bool bare] _ 0 _ rfl
        have i1 : wi.cell? ⟨wr.heap.size, 1, none⟩ = some (.string pre) := by rw [hwi]; exact new_cell wr [.string key, .string pre, .string suf, .bool bare] _ 1 _ rfl
        have i2 : wi.cell? ⟨wr.heap.size, 2, none⟩ = some (.string suf) := by rw [hwi]; exact new_cell wr [.string key, .string pre, .string suf, .bool bare] _ 2 _ rfl
        clear hn HERR
        go_upto_region 6 with (fail)
        rw [← hwi]
        clear hwi c0 c1 c2 c3
        have hix0 : ∀ wx, (Instr.index 210 (.agg #[.string pre, .string suf]) (.int .i64 0)).run Tryz.prog wx = .ok (.string pre) wx := fun wx => by kernel_rfl
        have hix1 : ∀ wx, (Instr.index 210 (.agg #[.string pre, .string suf]) (.int .i64 1)).run Tryz.prog wx = .ok (.string suf) wx := fun wx => by kernel_rfl
        go_wp2_with fail
        refine (CN.out _).mono ?_
        rintro e w3 ⟨rfl, rfl⟩
        go_wp2
        go_loopw [25] (fun j wj => CkIn pre suf wi j wj) (fun j _ => 2 - (intOf j).toNat)
        case atStart => exact ⟨Below.refl _ _, .inl rfl⟩
        case round =>
          clear i0 i1 i2
          obtain ⟨hbj, hj⟩ := hrel
          have HBJ := Lib.hid hbj
          rcases hj with rfl | ⟨rfl, hp⟩ | ⟨rfl, hp, hsf⟩
          · have CL := Lib.hid (fun w => tLine_any pre w (by omega))
            have CT := Lib.hid (fun w => tTrimmed_any pre w (by omega))
            have CA := Lib.hid (fun w => containsAny_any pre ⟨#[91, 93, 59, 64, 123, 36, 96]⟩ w (by omega) asc7)
            have e7 : (⟨#[91, 93, 59, 64, 123, 36, 96]⟩ : ByteArray).data.toList = citeBs := rfl
            rw [e7] at CA
            have HBD := Lib.hid (citBad_eq pre)
            clear e7 hbj
            cases hL : lineS pre <;> cases hT : trimS pre <;> cases hA : hasAny pre citeBs
            all_goals
              rw [hL, hT, hA] at HBD
              rw [hL] at CL
              rw [hT] at CT
              rw [hA] at CA
              clear hL hT hA
              go_wp2_with (first | (go_at_call 69; refine (CL.out _).mono ?_; rintro e w2 ⟨rfl, q, rfl⟩) | (go_at_call 70; refine (CT.out _).mono ?_; rintro e w2 ⟨rfl, rfl⟩) | (go_at_call 240; refine (CA.out _).mono ?_; rintro e w2 ⟨rfl, hb2⟩))
              first
              | (go_ret
                 have HE : E = 17 := by have := HERR2.out; rw [if_pos (.inl (by rw [HBD.out]; rfl))] at this; exact this.symm
                 refine ⟨by rw [HE]; rfl, below_trans_size (below_trans_size HBI.out HBJ.out) ?_⟩
                 first | exact (below_dN (Below.refl _ _) _).trans hb2 | exact below_dN (Below.refl _ _) _)
              | (go_roundw
                 case rel => exact ⟨below_trans_size HBJ.out ((below_dN (Below.refl _ _) _).trans hb2), .inr (.inl ⟨by go_num, by rw [HBD.out]; rfl⟩)⟩
                 case measure => simp [intOf])
          · have CL := Lib.hid (fun w => tLine_any suf w (by omega))
            have CT := Lib.hid (fun w => tTrimmed_any suf w (by omega))
            have CA := Lib.hid (fun w => containsAny_any suf ⟨#[91, 93, 59, 64, 123, 36, 96]⟩ w (by omega) asc7)
            have e7 : (⟨#[91, 93, 59, 64, 123, 36, 96]⟩ : ByteArray).data.toList = citeBs := rfl
            rw [e7] at CA
            have HBD := Lib.hid (citBad_eq suf)
            have HP := Lib.hid hp
            clear e7 hbj hp
            cases hL : lineS suf <;> cases hT : trimS suf <;> cases hA : hasAny suf citeBs
            all_goals
              rw [hL, hT, hA] at HBD
              rw [hL] at CL
              rw [hT] at CT
              rw [hA] at CA
              clear hL hT hA
              go_wp2_with (first | (go_at_call 69; refine (CL.out _).mono ?_; rintro e w2 ⟨rfl, q, rfl⟩) | (go_at_call 70; refine (CT.out _).mono ?_; rintro e w2 ⟨rfl, rfl⟩) | (go_at_call 240; refine (CA.out _).mono ?_; rintro e w2 ⟨rfl, hb2⟩))
              first
              | (go_ret
                 have HE : E = 17 := by have := HERR2.out; rw [if_pos (.inr (by rw [HBD.out]; rfl))] at this; exact this.symm
                 refine ⟨by rw [HE]; rfl, below_trans_size (below_trans_size HBI.out HBJ.out) ?_⟩
                 first | exact (below_dN (Below.refl _ _) _).trans hb2 | exact below_dN (Below.refl _ _) _)
              | (go_roundw
                 case rel => exact ⟨below_trans_size HBJ.out ((below_dN (Below.refl _ _) _).trans hb2), .inr (.inr ⟨by go_num, HP.out, by rw [HBD.out]; rfl⟩)⟩
                 case measure => simp [intOf])
          · have HN : Hid (cisErr (l.drop (k + 1)) = E) := by
              show _ = _
              have := HERR2.out
              rw [if_neg (by rw [hp, hsf]; simp)] at this
              exact this
            clear hp hsf hbj
            go_wp2
            go_roundw
            case rel => exact ⟨k + 1, by omega, by go_num, below_trans_size HBI.out HBJ.out, HN.out⟩
            case measure => simp [intOf]; omega
    · obtain rfl : k = l.length := by omega
      have HE : Hid (E = 0) := by
        show E = 0
        rw [List.drop_length, cisErr] at herr; exact herr.symm
      clear herr
      go_wp2
      go_ret
      exact ⟨by rw [HE.out]; rfl, HB.out⟩
end Go.Proofs.YtjobjicdfoklpaaGreatDoor

namespace Go.Proofs.YtjobjicdfoklpaaGreatDoor
open Go.RowKit
set_option linter.unusedVariables false
set_option linter.unusedSimpArgs false

def argBs : List UInt8 := [124, 123, 125]
theorem argBad_eq (s : ByteArray) : argBad s = (!lineS s || hasAny s argBs) := rfl
def NmR (l : List ByteArray) (w : World) (vi : Value) (wr : World) : Prop := ∃ k : Nat, k ≤ l.length ∧ vi = .int .i64 k ∧ Below w.heap.size w wr ∧ (l.take k).any argBad = false
/-- The texts of an inline are short. -/
structure InS (t d ti : ByteArray) (a : At) (ar : List ByteArray) (ci : List Ci) : Prop where
  t : t.size ≤ 300
  d : d.size ≤ 300
  ti : ti.size ≤ 300
  at_ : a.short
  ars : ∀ c ∈ ar, c.size ≤ 5000
  cis : ∀ c ∈ ci, c.key.size ≤ 5000 ∧ c.pre.size ≤ 5000 ∧ c.suf.size ≤ 5000
theorem any_snoc {α : Type} (p : α → Bool) {l : List α} {k : Nat} {x : α} (h : l[k]? = some x) : (l.take (k + 1)).any p = ((l.take k).any p || p x) := by
  rw [List.take_add_one, h]; simp
theorem any_at {α : Type} (p : α → Bool) {l : List α} {k : Nat} {x : α} (h : l[k]? = some x) (hp : p x = true) : l.any p = true := List.any_eq_true.2 ⟨x, List.mem_of_getElem? h, hp⟩

set_option maxRecDepth 100000 in
set_option maxHeartbeats 8000000 in
theorem checkNamed_any (w : World) (b o : Nat) (k : Int) (t d ti : ByteArray) (at_ : At) (ar : List ByteArray) (ci : List Ci) (ks : List Inl) (ac ap aa ai ak : Option Addr) (cc cp ca cai ck : Nat)
    (h : InP w b o k t d ti at_ ar ci ks ac ap aa ai ak cc cp ca cai ck) (hs : InS t d ti at_ ar ci) (hk : k = 12 ∨ k = 14 ∨ k = 15) (har : k = 15 ∨ ar = []) :
    Calls Tryz.prog 203 #[.pointer (some ⟨b, o, none⟩)] w (RetB (.int .i64 (namedErr k t ti ar : Nat)) w) := by
  obtain ⟨a', c', hv, hsl⟩ := Rd.sl_open h.rd.args
  obtain ⟨rfl, rfl⟩ : a' = aa ∧ c' = ca := by simp at hv; exact ⟨hv.1.symm, hv.2.symm⟩
  have hcap : ar.length ≤ c' := by simpa using hsl.le
  have hmx := hsl.max
  unfold maxLen at hmx
  have HS := Lib.hid hsl
  have SZ := Lib.hid hs.ars
  have NT := Lib.hid (fun w => name_any t w (by have := hs.t; omega))
  obtain ⟨c0, c1, c2, c3, c4, c5, c6, c7, c8, c9⟩ := h.cells
  have R0 : Hid (NmR ar w (.int .i64 0) w) := ⟨0, Nat.zero_le _, rfl, Below.refl _ _, by simp⟩
  clear hv hsl h hs
  have HE : Hid (namedErr k t ti ar = if nameOk t = false then 6 else if k = 14 ∧ emptyS ti = false ∧ ti.data.toList ≠ pageL then 5 else if 8 < ar.length then 3 else if ar.any argBad then 17 else 0) := rfl
  obtain ⟨V, hV⟩ : ∃ V, V = namedErr k t ti ar := ⟨_, rfl⟩
  rw [← hV] at HE ⊢
  clear hV
  cases hn : nameOk t with
  | false =>
    rw [hn] at NT
    have HV : Hid (V = 6) := by show V = 6; rw [HE.out, if_pos hn]
    clear hn
    go_enter Tryz.func203, Tryz.ntmps203
    go_wp2_with fail
    refine (NT.out _).mono ?_
    rintro e w3 ⟨rfl, rfl⟩
    go_wp2
    go_ret
    exact ⟨by rw [HV.out]; rfl, Below.refl _ _⟩
  | true =>
  rw [hn] at NT
  have HE2 : Hid (V = if k = 14 ∧ emptyS ti = false ∧ ti.data.toList ≠ pageL then 5 else if 8 < ar.length then 3 else if ar.any argBad then 17 else 0) := by
    show V = _; rw [HE.out, if_neg (by rw [hn]; decide)]
  clear hn HE
  rcases hk with rfl | rfl | rfl
  · have h0 : ar = [] := by rcases har with h | h; (exact absurd h (by decide)); exact h
    have hl0 : ar.length ≤ 8 := by rw [h0]; simp
    have HL : Hid (V = if ar.any argBad then 17 else 0) := by show V = _; rw [HE2.out, if_neg (by rintro ⟨h, -⟩; exact absurd h (by decide)), if_neg (by omega)]
    clear har h0 HE2
    go_enter Tryz.func203, Tryz.ntmps203
    go_wp2_with fail
    refine (NT.out _).mono ?_
    rintro e w3 ⟨rfl, rfl⟩
    go_wp2
    go_loopw [48] (fun i wr => NmR ar w i wr) (fun i _ => ar.length - (intOf i).toNat)
    case atStart => exact R0.out
    case round =>
      clear R0
      obtain ⟨j, hj, rfl, hbel, hno⟩ := hrel
      have HB := Lib.hid hbel
      have HNO := Lib.hid hno
      by_cases hlt : j < ar.length
      · obtain ⟨x, hx⟩ : ∃ x, ar[j]? = some x := ⟨_, List.getElem?_eq_getElem hlt⟩
        have hxs := SZ.out x (List.mem_of_getElem? hx)
        obtain ⟨b2, off, rfl, -, -, x0⟩ := strs_at HS.out hx
        have x0 : wr.cell? ⟨b2, off + j, none⟩ = some (.string x) := by rw [hbel.cell (p := ⟨b2, off + j, none⟩) (cell_lt x0)]; exact x0
        have CL := Lib.hid (fun w => tLine_any x w (by omega))
        have CA := Lib.hid (fun w => containsAny_any x ⟨#[124, 123, 125]⟩ w (by omega) asc4)
        have e7 : (⟨#[124, 123, 125]⟩ : ByteArray).data.toList = argBs := rfl
        rw [e7] at CA
        have HBD := Lib.hid (argBad_eq x)
        have HSN := Lib.hid (any_snoc argBad hx)
        have HAT := Lib.hid (any_at argBad hx)
        clear e7 hbel hno hx
        cases hL : lineS x <;> cases hA : hasAny x argBs
        all_goals
          rw [hL, hA] at HBD
          rw [hL] at CL
          rw [hA] at CA
          clear hL hA
          go_wp2_with (first | (go_at_call 69; refine (CL.out _).mono ?_; rintro e w2 ⟨rfl, q, rfl⟩) | (go_at_call 240; refine (CA.out _).mono ?_; rintro e w2 ⟨rfl, hb2⟩))
          first
          | (go_ret
             have hv : V = 17 := by rw [HL.out, if_pos (HAT.out (by rw [HBD.out]; rfl))]
             refine ⟨by rw [hv]; rfl, below_trans_size HB.out ?_⟩
             first | exact (below_dN (Below.refl _ _) _).trans hb2 | exact below_dN (Below.refl _ _) _)
          | (go_roundw
             case rel => exact ⟨j + 1, by omega, by go_num, below_trans_size HB.out ((below_dN (Below.refl _ _) _).trans hb2), by rw [HSN.out, HNO.out, HBD.out]; rfl⟩
             case measure => simp [intOf]; omega)
      · have hv : V = 0 := by
          have := HNO.out
          rw [List.take_of_length_le (by omega)] at this
          rw [HL.out, if_neg (by rw [this]; decide)]
        have HV := Lib.hid hv
        clear hv hno hbel
        go_wp2
        go_ret
        exact ⟨by rw [HV.out]; rfl, HB.out⟩
  · have h0 : ar = [] := by rcases har with h | h; (exact absurd h (by decide)); exact h
    have hl0 : ar.length ≤ 8 := by rw [h0]; simp
    clear har h0
    rcases emp_part ti with rfl | ⟨t1, t2, t3, t4⟩
    · have HL : Hid (V = if ar.any argBad then 17 else 0) := by show V = _; rw [HE2.out, if_neg (by rintro ⟨-, h, -⟩; exact absurd h (by decide)), if_neg (by omega)]
      clear HE2
      go_enter Tryz.func203, Tryz.ntmps203
      go_wp2_with fail
      refine (NT.out _).mono ?_
      rintro e w3 ⟨rfl, rfl⟩
      go_wp2
      go_loopw [48] (fun i wr => NmR ar w i wr) (fun i _ => ar.length - (intOf i).toNat)
      case atStart => exact R0.out
      case round =>
        clear R0
        obtain ⟨j, hj, rfl, hbel, hno⟩ := hrel
        have HB := Lib.hid hbel
        have HNO := Lib.hid hno
        by_cases hlt : j < ar.length
        · obtain ⟨x, hx⟩ : ∃ x, ar[j]? = some x := ⟨_, List.getElem?_eq_getElem hlt⟩
          have hxs := SZ.out x (List.mem_of_getElem? hx)
          obtain ⟨b2, off, rfl, -, -, x0⟩ := strs_at HS.out hx
          have x0 : wr.cell? ⟨b2, off + j, none⟩ = some (.string x) := by rw [hbel.cell (p := ⟨b2, off + j, none⟩) (cell_lt x0)]; exact x0
          have CL := Lib.hid (fun w => tLine_any x w (by omega))
          have CA := Lib.hid (fun w => containsAny_any x ⟨#[124, 123, 125]⟩ w (by omega) asc4)
          have e7 : (⟨#[124, 123, 125]⟩ : ByteArray).data.toList = argBs := rfl
          rw [e7] at CA
          have HBD := Lib.hid (argBad_eq x)
          have HSN := Lib.hid (any_snoc argBad hx)
          have HAT := Lib.hid (any_at argBad hx)
          clear e7 hbel hno hx
          cases hL : lineS x <;> cases hA : hasAny x argBs
          all_goals
            rw [hL, hA] at HBD
            rw [hL] at CL
            rw [hA] at CA
            clear hL hA
            go_wp2_with (first | (go_at_call 69; refine (CL.out _).mono ?_; rintro e w2 ⟨rfl, q, rfl⟩) | (go_at_call 240; refine (CA.out _).mono ?_; rintro e w2 ⟨rfl, hb2⟩))
            first
            | (go_ret
               have hv : V = 17 := by rw [HL.out, if_pos (HAT.out (by rw [HBD.out]; rfl))]
               refine ⟨by rw [hv]; rfl, below_trans_size HB.out ?_⟩
               first | exact (below_dN (Below.refl _ _) _).trans hb2 | exact below_dN (Below.refl _ _) _)
            | (go_roundw
               case rel => exact ⟨j + 1, by omega, by go_num, below_trans_size HB.out ((below_dN (Below.refl _ _) _).trans hb2), by rw [HSN.out, HNO.out, HBD.out]; rfl⟩
               case measure => simp [intOf]; omega)
        · have hv : V = 0 := by
            have := HNO.out
            rw [List.take_of_length_le (by omega)] at this
            rw [HL.out, if_neg (by rw [this]; decide)]
          have HV := Lib.hid hv
          clear hv hno hbel
          go_wp2
          go_ret
          exact ⟨by rw [HV.out]; rfl, HB.out⟩
    · have hpg : (ti.toList == [112, 97, 103, 101]) = decide (ti.data.toList = pageL) := by
        rw [Lib.toList_data, Bool.eq_iff_iff, beq_iff_eq, decide_eq_true_iff]; rfl
      by_cases hp : ti.data.toList = pageL
      · have HL : Hid (V = if ar.any argBad then 17 else 0) := by show V = _; rw [HE2.out, if_neg (by rintro ⟨-, -, h⟩; exact h hp), if_neg (by omega)]
        rw [decide_eq_true hp] at hpg
        clear HE2 hp
        go_enter Tryz.func203, Tryz.ntmps203
        go_wp2_with fail
        refine (NT.out _).mono ?_
        rintro e w3 ⟨rfl, rfl⟩
        go_wp2
        go_loopw [48] (fun i wr => NmR ar w i wr) (fun i _ => ar.length - (intOf i).toNat)
        case atStart => exact R0.out
        case round =>
          clear R0
          obtain ⟨j, hj, rfl, hbel, hno⟩ := hrel
          have HB := Lib.hid hbel
          have HNO := Lib.hid hno
          by_cases hlt : j < ar.length
          · obtain ⟨x, hx⟩ : ∃ x, ar[j]? = some x := ⟨_, List.getElem?_eq_getElem hlt⟩
            have hxs := SZ.out x (List.mem_of_getElem? hx)
            obtain ⟨b2, off, rfl, -, -, x0⟩ := strs_at HS.out hx
            have x0 : wr.cell? ⟨b2, off + j, none⟩ = some (.string x) := by rw [hbel.cell (p := ⟨b2, off + j, none⟩) (cell_lt x0)]; exact x0
            have CL := Lib.hid (fun w => tLine_any x w (by omega))
            have CA := Lib.hid (fun w => containsAny_any x ⟨#[124, 123, 125]⟩ w (by omega) asc4)
            have e7 : (⟨#[124, 123, 125]⟩ : ByteArray).data.toList = argBs := rfl
            rw [e7] at CA
            have HBD := Lib.hid (argBad_eq x)
            have HSN := Lib.hid (any_snoc argBad hx)
            have HAT := Lib.hid (any_at argBad hx)
            clear e7 hbel hno hx
            cases hL : lineS x <;> cases hA : hasAny x argBs
            all_goals
              rw [hL, hA] at HBD
              rw [hL] at CL
              rw [hA] at CA
              clear hL hA
              go_wp2_with (first | (go_at_call 69; refine (CL.out _).mono ?_; rintro e w2 ⟨rfl, q, rfl⟩) | (go_at_call 240; refine (CA.out _).mono ?_; rintro e w2 ⟨rfl, hb2⟩))
              first
              | (go_ret
                 have hv : V = 17 := by rw [HL.out, if_pos (HAT.out (by rw [HBD.out]; rfl))]
                 refine ⟨by rw [hv]; rfl, below_trans_size HB.out ?_⟩
                 first | exact (below_dN (Below.refl _ _) _).trans hb2 | exact below_dN (Below.refl _ _) _)
              | (go_roundw
                 case rel => exact ⟨j + 1, by omega, by go_num, below_trans_size HB.out ((below_dN (Below.refl _ _) _).trans hb2), by rw [HSN.out, HNO.out, HBD.out]; rfl⟩
                 case measure => simp [intOf]; omega)
          · have hv : V = 0 := by
              have := HNO.out
              rw [List.take_of_length_le (by omega)] at this
              rw [HL.out, if_neg (by rw [this]; decide)]
            have HV := Lib.hid hv
            clear hv hno hbel
            go_wp2
            go_ret
            exact ⟨by rw [HV.out]; rfl, HB.out⟩
      · have HV : Hid (V = 5) := by show V = _; rw [HE2.out, if_pos ⟨rfl, t4, hp⟩]
        rw [decide_eq_false hp] at hpg
        clear HE2 hp
        go_enter Tryz.func203, Tryz.ntmps203
        go_wp2_with fail
        refine (NT.out _).mono ?_
        rintro e w3 ⟨rfl, rfl⟩
        go_wp2
        go_ret
        exact ⟨by rw [HV.out]; rfl, Below.refl _ _⟩
  · clear har
    by_cases h8 : 8 < ar.length
    · have HV : Hid (V = 3) := by show V = _; rw [HE2.out, if_neg (by rintro ⟨h, -⟩; exact absurd h (by decide)), if_pos h8]
      have q8 : decide ((8 : Int) < (ar.length : Int)) = true := by simp; omega
      clear HE2
      go_enter Tryz.func203, Tryz.ntmps203
      go_wp2_with fail
      refine (NT.out _).mono ?_
      rintro e w3 ⟨rfl, rfl⟩
      go_wp2
      go_ret
      exact ⟨by rw [HV.out]; rfl, Below.refl _ _⟩
    · have HL : Hid (V = if ar.any argBad then 17 else 0) := by show V = _; rw [HE2.out, if_neg (by rintro ⟨h, -⟩; exact absurd h (by decide)), if_neg h8]
      have q8 : decide ((8 : Int) < (ar.length : Int)) = false := by simp; omega
      clear HE2
      go_enter Tryz.func203, Tryz.ntmps203
      go_wp2_with fail
      refine (NT.out _).mono ?_
      rintro e w3 ⟨rfl, rfl⟩
      go_wp2
      go_loopw [48] (fun i wr => NmR ar w i wr) (fun i _ => ar.length - (intOf i).toNat)
      case atStart => exact R0.out
      case round =>
        clear R0
        obtain ⟨j, hj, rfl, hbel, hno⟩ := hrel
        have HB := Lib.hid hbel
        have HNO := Lib.hid hno
        by_cases hlt : j < ar.length
        · obtain ⟨x, hx⟩ : ∃ x, ar[j]? = some x := ⟨_, List.getElem?_eq_getElem hlt⟩
          have hxs := SZ.out x (List.mem_of_getElem? hx)
          obtain ⟨b2, off, rfl, -, -, x0⟩ := strs_at HS.out hx
          have x0 : wr.cell? ⟨b2, off + j, none⟩ = some (.string x) := by rw [hbel.cell (p := ⟨b2, off + j, none⟩) (cell_lt x0)]; exact x0
          have CL := Lib.hid (fun w => tLine_any x w (by omega))
          have CA := Lib.hid (fun w => containsAny_any x ⟨#[124, 123, 125]⟩ w (by omega) asc4)
          have e7 : (⟨#[124, 123, 125]⟩ : ByteArray).data.toList = argBs := rfl
          rw [e7] at CA
          have HBD := Lib.hid (argBad_eq x)
          have HSN := Lib.hid (any_snoc argBad hx)
          have HAT := Lib.hid (any_at argBad hx)
          clear e7 hbel hno hx
          cases hL : lineS x <;> cases hA : hasAny x argBs
          all_goals
            rw [hL, hA] at HBD
            rw [hL] at CL
            rw [hA] at CA
            clear hL hA
            go_wp2_with (first | (go_at_call 69; refine (CL.out _).mono ?_; rintro e w2 ⟨rfl, q, rfl⟩) | (go_at_call 240; refine (CA.out _).mono ?_; rintro e w2 ⟨rfl, hb2⟩))
            first
            | (go_ret
               have hv : V = 17 := by rw [HL.out, if_pos (HAT.out (by rw [HBD.out]; rfl))]
               refine ⟨by rw [hv]; rfl, below_trans_size HB.out ?_⟩
               first | exact (below_dN (Below.refl _ _) _).trans hb2 | exact below_dN (Below.refl _ _) _)
            | (go_roundw
               case rel => exact ⟨j + 1, by omega, by go_num, below_trans_size HB.out ((below_dN (Below.refl _ _) _).trans hb2), by rw [HSN.out, HNO.out, HBD.out]; rfl⟩
               case measure => simp [intOf]; omega)
        · have hv : V = 0 := by
            have := HNO.out
            rw [List.take_of_length_le (by omega)] at this
            rw [HL.out, if_neg (by rw [this]; decide)]
          have HV := Lib.hid hv
          clear hv hno hbel
          go_wp2
          go_ret
          exact ⟨by rw [HV.out]; rfl, HB.out⟩
end Go.Proofs.YtjobjicdfoklpaaGreatDoor
