/- Contracts of slices.Clone at the three types, and of tree.copyAttr. -/
import Derived.Test.YtjolhiofllpejaaDoorNamed
import Derived.WalkSpells
namespace Go.Proofs.YtjolhiofllpejaaDoor
open Go.RowKit
set_option linter.unusedVariables false

theorem reads_none {w : World} {B k n : Nat} {xs : List Value} (h : Reads w B k none n xs) : n = 0 := by
  rcases Nat.eq_zero_or_pos n with h0 | h0
  · exact h0
  · obtain ⟨_, e, _⟩ := h.2 h0; cases e
theorem strs_one {ok : Nat → Prop} {w : World} {l : List ByteArray} {rows : List (List Value)} (h : RdL ok w (l.map D.str) rows) : ∀ u ∈ rows.flatten, u.oneCell' = true := by
  intro u hu
  rw [RdL.strs_rows _ _ h, strs_flat] at hu
  obtain ⟨s, _, rfl⟩ := List.mem_map.1 hu
  rfl
theorem rows_one {ok : Nat → Prop} {w : World} : ∀ {l : List D} {rows : List (List Value)}, RdL ok w l rows → (∀ d ∈ l, ∀ r, Rd ok w d r → ∀ u ∈ r, u.oneCell' = true) → ∀ u ∈ rows.flatten, u.oneCell' = true
  | [], _, h, _ => by rw [h.nil_open]; simp
  | d :: ds, _, h, hk => by
    obtain ⟨r, rs, rfl, h1, h2⟩ := h.cons_open
    intro u hu
    rw [List.flatten_cons] at hu
    rcases List.mem_append.1 hu with hu | hu
    · exact hk d (by simp) r h1 u hu
    · exact rows_one h2 (fun d' hd' => hk d' (by simp [hd'])) u hu
theorem prs_one {ok : Nat → Prop} {w : World} {l : List Pr} {rows : List (List Value)} (h : RdL ok w (l.map Pr.d) rows) : ∀ u ∈ rows.flatten, u.oneCell' = true :=
  rows_one h fun d hd r hr u hu => by
    obtain ⟨p, _, rfl⟩ := List.mem_map.1 hd
    rw [Pr.open_ hr] at hu
    simp at hu
    rcases hu with rfl | rfl <;> rfl
theorem cis_one {ok : Nat → Prop} {w : World} {l : List Ci} {rows : List (List Value)} (h : RdL ok w (l.map Ci.d) rows) : ∀ u ∈ rows.flatten, u.oneCell' = true :=
  rows_one h fun d hd r hr u hu => by
    obtain ⟨p, _, rfl⟩ := List.mem_map.1 hd
    rw [Ci.open_ hr] at hu
    simp at hu
    rcases hu with rfl | rfl | rfl | rfl <;> rfl

def ClPost (w : World) (d : D) (e : Ending) (w' : World) : Prop := ∃ v, e = .returned v ∧ Rd (w.heap.size ≤ ·) w' d [v] ∧ Below w.heap.size w w'
theorem empty_owns (w : World) (e : TypeId) (k : Nat) : (w.alloc (.cells #[] e)).ownsRow w.heap.size e k (.slice (some ⟨w.heap.size, 0, none⟩) 0 0) 0 [] :=
  ⟨by simp, .inr ⟨w.heap.size, 0, #[], rfl, Nat.le_refl _, heap_alloc_new w _, Nat.le_refl _, Nat.zero_le _, by simp, by simp⟩⟩

set_option maxRecDepth 100000 in
set_option maxHeartbeats 2000000 in
theorem cloneS_any (l : List ByteArray) (B : Nat) (v : Value) (w : World) (h : Rd (· < B) w (strsD l) [v]) (hB : B ≤ w.heap.size) (hl : l.length ≤ 1000000) :
    Calls Tryd.prog 67 #[v] w (ClPost w (strsD l)) := by
  obtain ⟨i0, hi, hz0, hz1, hz2⟩ := info_parts infoS
  obtain ⟨A, cap, rows, rfl, h1, h2, h3, h4, h5⟩ := Rd.reads h
  rw [List.length_map] at h1 h5
  have e : (l.map D.str).length = l.length := List.length_map _
  rw [e]
  unfold maxLen at h2
  have H3 := Lib.hid h3
  have H4 := Lib.hid h4
  have H5 := Lib.hid (h5.more hB)
  have H1 := Lib.hid (strs_one h3)
  clear h h3 h4 h5 e
  cases A with
  | none =>
    have h0 : l = [] := List.length_eq_zero_iff.1 (reads_none H5.out)
    subst h0
    have hq := fun (w : World) (a : Option Addr) (n c : Nat) => Lib.run_eql_slice_nil (P := Tryd.prog) w _ _ a n c 0 0 Tryd.underlying25
    go_enter Tryd.func67, Tryd.ntmps67
    go_wp2
    go_ret
    exact ⟨_, rfl, Rd.nil_mk _ _ _, Below.refl _ _⟩
  | some ad =>
    have hq := fun (w : World) (a : Option Addr) (n c : Nat) => Lib.run_eql_slice_nil (P := Tryd.prog) w _ _ a n c 0 0 Tryd.underlying25
    go_enter Tryd.func67, Tryd.ntmps67
    go_wp2_with (at_builtin; refine wpList_append_any _ rfl (.tmp 5) (.tmp 6) 25 rfl w.heap.size 9 i0 _ 1 16 Tryd.underlying25 hi hz0 hz1 hz2 rfl (by decide) (.slice (some ⟨w.heap.size, 0, none⟩) 0 0) 0 [] rfl (empty_owns w _ _) w.heap.size (some ad) l.length cap rows.flatten rfl (H5.out.below ((Below.refl _ w).alloc (Nat.le_refl _) _)) H1.out ?a1 ?a2 ?a3 ?_)
    case a1 => unfold maxLen; omega
    case a2 => omega
    case a3 => simp
    intro v' w1 hown hg _
    (try simp only [Nat.zero_add, List.nil_append] at hown)
    have b1 : Below w.heap.size w w1 := ((Below.refl _ w).alloc (Nat.le_refl _) _).grown hg (by simp) (fun j hj => by have e : w.heap.size = j := Option.some.inj hj; omega)
    have HO := Lib.hid hown
    clear hown hg
    go_wp2
    go_ret
    refine ⟨_, rfl, Rd.sl_own (rows := rows) (B := w.heap.size) (e := 9) ?_ (RdL.strs_any H3.out) H4.out (fun g hg => (HO.out.lt g hg).1), b1⟩
    rw [List.length_map]; exact HO.out

set_option maxRecDepth 100000 in
set_option maxHeartbeats 2000000 in
theorem cloneC_any (l : List Ci) (B : Nat) (v : Value) (w : World) (h : Rd (· < B) w (cisD l) [v]) (hB : B ≤ w.heap.size) (hl : l.length ≤ 1000000) :
    Calls Tryd.prog 68 #[v] w (ClPost w (cisD l)) := by
  obtain ⟨i0, hi, hz0, hz1, hz2⟩ := info_parts infoCi
  obtain ⟨A, cap, rows, rfl, h1, h2, h3, h4, h5⟩ := Rd.reads h
  rw [List.length_map] at h1 h5
  have e : (l.map Ci.d).length = l.length := List.length_map _
  rw [e]
  unfold maxLen at h2
  have H3 := Lib.hid h3
  have H4 := Lib.hid h4
  have H5 := Lib.hid (h5.more hB)
  have H1 := Lib.hid (cis_one h3)
  clear h h3 h4 h5 e
  cases A with
  | none =>
    have h0 : l = [] := List.length_eq_zero_iff.1 (reads_none H5.out)
    subst h0
    have hq := fun (w : World) (a : Option Addr) (n c : Nat) => Lib.run_eql_slice_nil (P := Tryd.prog) w _ _ a n c 0 0 Tryd.underlying39
    go_enter Tryd.func68, Tryd.ntmps68
    go_wp2
    go_ret
    exact ⟨_, rfl, Rd.nil_mk _ _ _, Below.refl _ _⟩
  | some ad =>
    have hq := fun (w : World) (a : Option Addr) (n c : Nat) => Lib.run_eql_slice_nil (P := Tryd.prog) w _ _ a n c 0 0 Tryd.underlying39
    go_enter Tryd.func68, Tryd.ntmps68
    go_wp2_with (at_builtin; refine wpList_append_any _ rfl (.tmp 5) (.tmp 6) 39 rfl w.heap.size 103 i0 _ 4 56 Tryd.underlying39 hi hz0 hz1 hz2 rfl (by decide) (.slice (some ⟨w.heap.size, 0, none⟩) 0 0) 0 [] rfl (empty_owns w _ _) w.heap.size (some ad) l.length cap rows.flatten rfl (H5.out.below ((Below.refl _ w).alloc (Nat.le_refl _) _)) H1.out ?a1 ?a2 ?a3 ?_)
    case a1 => unfold maxLen; omega
    case a2 => omega
    case a3 => simp
    intro v' w1 hown hg _
    (try simp only [Nat.zero_add, List.nil_append] at hown)
    have b1 : Below w.heap.size w w1 := ((Below.refl _ w).alloc (Nat.le_refl _) _).grown hg (by simp) (fun j hj => by have e : w.heap.size = j := Option.some.inj hj; omega)
    have HO := Lib.hid hown
    clear hown hg
    go_wp2
    go_ret
    refine ⟨_, rfl, Rd.sl_own (rows := rows) (B := w.heap.size) (e := 103) ?_ (RdL.cis_any H3.out) H4.out (fun g hg => (HO.out.lt g hg).1), b1⟩
    rw [List.length_map]; exact HO.out

set_option maxRecDepth 100000 in
set_option maxHeartbeats 2000000 in
theorem cloneP_any (l : List Pr) (B : Nat) (v : Value) (w : World) (h : Rd (· < B) w (prsD l) [v]) (hB : B ≤ w.heap.size) (hl : l.length ≤ 1000000) :
    Calls Tryd.prog 84 #[v] w (ClPost w (prsD l)) := by
  obtain ⟨i0, hi, hz0, hz1, hz2⟩ := info_parts infoPr
  obtain ⟨A, cap, rows, rfl, h1, h2, h3, h4, h5⟩ := Rd.reads h
  rw [List.length_map] at h1 h5
  have e : (l.map Pr.d).length = l.length := List.length_map _
  rw [e]
  unfold maxLen at h2
  have H3 := Lib.hid h3
  have H4 := Lib.hid h4
  have H5 := Lib.hid (h5.more hB)
  have H1 := Lib.hid (prs_one h3)
  clear h h3 h4 h5 e
  cases A with
  | none =>
    have h0 : l = [] := List.length_eq_zero_iff.1 (reads_none H5.out)
    subst h0
    have hq := fun (w : World) (a : Option Addr) (n c : Nat) => Lib.run_eql_slice_nil (P := Tryd.prog) w _ _ a n c 0 0 Tryd.underlying29
    go_enter Tryd.func84, Tryd.ntmps84
    go_wp2
    go_ret
    exact ⟨_, rfl, Rd.nil_mk _ _ _, Below.refl _ _⟩
  | some ad =>
    have hq := fun (w : World) (a : Option Addr) (n c : Nat) => Lib.run_eql_slice_nil (P := Tryd.prog) w _ _ a n c 0 0 Tryd.underlying29
    go_enter Tryd.func84, Tryd.ntmps84
    go_wp2_with (at_builtin; refine wpList_append_any _ rfl (.tmp 5) (.tmp 6) 29 rfl w.heap.size 64 i0 _ 2 32 Tryd.underlying29 hi hz0 hz1 hz2 rfl (by decide) (.slice (some ⟨w.heap.size, 0, none⟩) 0 0) 0 [] rfl (empty_owns w _ _) w.heap.size (some ad) l.length cap rows.flatten rfl (H5.out.below ((Below.refl _ w).alloc (Nat.le_refl _) _)) H1.out ?a1 ?a2 ?a3 ?_)
    case a1 => unfold maxLen; omega
    case a2 => omega
    case a3 => simp
    intro v' w1 hown hg _
    (try simp only [Nat.zero_add, List.nil_append] at hown)
    have b1 : Below w.heap.size w w1 := ((Below.refl _ w).alloc (Nat.le_refl _) _).grown hg (by simp) (fun j hj => by have e : w.heap.size = j := Option.some.inj hj; omega)
    have HO := Lib.hid hown
    clear hown hg
    go_wp2
    go_ret
    refine ⟨_, rfl, Rd.sl_own (rows := rows) (B := w.heap.size) (e := 64) ?_ (RdL.prs_any H3.out) H4.out (fun g hg => (HO.out.lt g hg).1), b1⟩
    rw [List.length_map]; exact HO.out
end Go.Proofs.YtjolhiofllpejaaDoor
