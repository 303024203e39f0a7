/- Contracts of attr.Empty, tree.oneOf, anyKind, inlineFields. The contract of attr.Check: the first error of attributes. -/
import Derived.Test.YtjobjicdfoklpaaGreatDoorChA
import Derived.Test.YtjobjicdfoklpaaGreatDoorWeight
import Derived.Test.YtjobjicdfoklpaaGreatDoorBd
import Derived.Deep.DeepCutAuto
namespace Go.Proofs.YtjobjicdfoklpaaGreatDoor
open Go.RowKit
set_option linter.unusedVariables false
set_option linter.unusedSimpArgs false

/-- It answers, and what was there is as it was. -/
def RetB (v : Value) (w : World) (e : Ending) (w' : World) : Prop := e = .returned v ∧ Below w.heap.size w w'
theorem len0 {α : Type} (l : List α) : (((l.length : Nat) : Int) == 0) = l.isEmpty := by
  cases l with
  | nil => rfl
  | cons x l => simp; omega

set_option maxRecDepth 100000 in
set_option maxHeartbeats 1000000 in
theorem aEmpty_any (a : At) (ac ap : Option Addr) (cc cp : Nat) (w : World) (hc : a.cls.length ≤ maxLen) (hp : a.prs.length ≤ maxLen) :
    Calls Tryz.prog 173 #[.agg #[.string a.id, .slice ac a.cls.length cc, .slice ap a.prs.length cp]] w (RetB (.bool a.none) w) := by
  obtain ⟨id, cls, prs⟩ := a
  dsimp only at hc hp ⊢
  have h1 := emp_eq id
  have h2 := len0 cls
  have h3 := len0 prs
  have HV : Hid (At.none ⟨id, cls, prs⟩ = (emptyS id && cls.isEmpty && prs.isEmpty)) := rfl
  generalize At.none ⟨id, cls, prs⟩ = V at *
  generalize emptyS id = b1 at *
  generalize cls.isEmpty = b2 at *
  generalize prs.isEmpty = b3 at *
  cases b1 <;> cases b2 <;> cases b3
  all_goals
    go_enter Tryz.func173, Tryz.ntmps173
    go_wp2
    go_ret
    exact ⟨by rw [HV.out]; rfl, (Below.refl _ _).alloc (Nat.le_refl _) _⟩

def OoRel (n : Int) (ks : List Int) (vi : Value) : Prop := ∃ k : Nat, k ≤ ks.length ∧ vi = .int .i64 k ∧ (ks.take k).contains n = false
set_option maxRecDepth 100000 in
set_option maxHeartbeats 1000000 in
theorem oneOf_any (n : Int) (ks : List Int) (g cap : Nat) (w : World) (hl : ks.length ≤ 1000) (hc : ∀ j k, ks[j]? = some k → w.cell? ⟨g, j, none⟩ = some (.int .i64 k)) :
    Calls Tryz.prog 164 #[.int .i64 n, .slice (some ⟨g, 0, none⟩) ks.length cap] w fun e w' => e = .returned (.bool (ks.contains n)) ∧ w = w' := by
  have HC := Lib.hid hc
  have R0 : Hid (OoRel n ks (.int .i64 0)) := ⟨0, Nat.zero_le _, rfl, by simp⟩
  obtain ⟨V, hV⟩ : ∃ V, V = ks.contains n := ⟨_, rfl⟩
  rw [← hV]
  have HV := Lib.hid hV
  clear hc hV
  go_enter Tryz.func164, Tryz.ntmps164
  go_wp2
  go_loop [9] (fun i => OoRel n ks i) (fun i => ks.length - (intOf i).toNat)
  case atStart => exact R0.out
  case round =>
    clear R0
    obtain ⟨k, hk, rfl, hno⟩ := hrel
    have HN := Lib.hid hno
    clear hno
    by_cases hlt : k < ks.length
    · obtain ⟨x, hx⟩ : ∃ x, ks[k]? = some x := ⟨_, List.getElem?_eq_getElem hlt⟩
      have hcell := HC.out k x hx
      have HT : Hid ((ks.take (k + 1)).contains n = ((ks.take k).contains n || (n == x))) := by
        show _ = _
        rw [List.take_add_one, hx, Bool.eq_iff_iff]
        simp
      have HX := Lib.hid hx
      clear hx
      cases hnx : (n == x)
      · rw [hnx] at HT
        go_wp2
        go_round
        case rel => exact ⟨k + 1, by omega, by go_num, by rw [HT.out, HN.out]; rfl⟩
        case measure => simp [intOf]; omega
      · have HE : Hid (V = true) := by
          show V = true
          rw [HV.out, List.contains_iff_mem]
          have : n = x := by simpa using hnx
          rw [this]; exact List.mem_of_getElem? HX.out
        go_wp2
        go_ret
        exact ⟨by rw [HE.out]; rfl, rfl⟩
    · have HE : Hid (V = false) := by
        show V = false
        rw [HV.out]
        have := HN.out
        rwa [List.take_of_length_le (by omega)] at this
      go_wp2
      go_ret
      exact ⟨by rw [HE.out]; rfl, rfl⟩

def AkRel (l : List Inl) (ks : List Int) (vi : Value) : Prop := ∃ k : Nat, k ≤ l.length ∧ vi = .int .i64 k ∧ Inl.anyL ks (l.take k) = false
theorem Inl.anyL_app (ks : List Int) : ∀ (l m : List Inl), Inl.anyL ks (l ++ m) = (Inl.anyL ks l || Inl.anyL ks m)
  | [], m => by rw [List.nil_append, Inl.anyL]; rfl
  | x :: l, m => by rw [List.cons_append, Inl.anyL, Inl.anyL, Inl.anyL_app ks l m, Bool.or_assoc]
theorem Inl.anyL_snoc (ks : List Int) {l : List Inl} {k : Nat} {x : Inl} (hx : l[k]? = some x) : Inl.anyL ks (l.take (k + 1)) = (Inl.anyL ks (l.take k) || x.anyK ks) := by
  rw [List.take_add_one, hx, Inl.anyL_app, Option.toList_some, Inl.anyL, Inl.anyL, Bool.or_false]
theorem Inl.anyL_get (ks : List Int) : ∀ {l : List Inl} {k : Nat} {x : Inl}, l[k]? = some x → x.anyK ks = true → Inl.anyL ks l = true
  | [], _, _, h, _ => by simp at h
  | y :: l, 0, x, h, hx => by simp at h; subst h; rw [Inl.anyL, hx]; rfl
  | y :: l, k + 1, x, h, hx => by rw [Inl.anyL, Inl.anyL_get ks (l := l) (k := k) (by simpa using h) hx, Bool.or_true]

set_option maxRecDepth 100000 in
set_option maxHeartbeats 2000000 in
theorem anyKind_any (n : Nat) : ∀ (l : List Inl) (ok : Nat → Prop) (v : Value) (ks : List Int) (g cap : Nat) (w : World), Inl.szL l ≤ n → Rd ok w (inlsD l) [v] → ks.length ≤ 1000 → (∀ j k, ks[j]? = some k → w.cell? ⟨g, j, none⟩ = some (.int .i64 k)) →
    Calls Tryz.prog 213 #[v, .slice (some ⟨g, 0, none⟩) ks.length cap] w fun e w' => e = .returned (.bool (Inl.anyL ks l)) ∧ w = w' := by
  induction n using Nat.strongRecOn with
  | _ n ih =>
    intro l ok v ks g cap w hn hrd hks hc
    obtain ⟨a, cp, hv, hs⟩ := Rd.sl_open hrd
    obtain rfl : v = .slice a l.length cp := by simpa using hv
    have hcap : l.length ≤ cp := by simpa using hs.le
    have hmx := hs.max
    unfold maxLen at hmx
    have HS := Lib.hid hs
    have IH := Lib.hid ih
    have HC := Lib.hid hc
    have OO := Lib.hid (fun n => oneOf_any n ks g cap w hks hc)
    have R0 : Hid (AkRel l ks (.int .i64 0)) := ⟨0, Nat.zero_le _, rfl, by rw [List.take_zero, Inl.anyL]⟩
    obtain ⟨V, hV⟩ : ∃ V, V = Inl.anyL ks l := ⟨_, rfl⟩
    rw [← hV]
    have HV := Lib.hid hV
    clear hs hv hrd ih hc hV
    go_enter Tryz.func213, Tryz.ntmps213
    go_wp2
    go_loop [8] (fun i => AkRel l ks i) (fun i => l.length - (intOf i).toNat)
    case atStart => exact R0.out
    case round =>
      clear R0
      obtain ⟨k, hk, rfl, hno⟩ := hrel
      have HN := Lib.hid hno
      clear hno
      by_cases hlt : k < l.length
      · obtain ⟨x, hx⟩ : ∃ x, l[k]? = some x := ⟨_, List.getElem?_eq_getElem hlt⟩
        have hsn := Inl.anyL_snoc ks hx
        have HG := Lib.hid (Inl.anyL_get ks hx)
        obtain ⟨kd, t, d, ti, at_, ar, ci, kids⟩ := x
        obtain ⟨b, off, vc, vp, va, vi, vk, rfl, hok, hbl, hcl, hR⟩ := inls_at HS.out hx
        obtain ⟨c0, -, -, -, -, -, -, -, -, c9⟩ := hcl
        have hsz := Inl.szL_get l k _ hx
        rw [Inl.sz] at hsz
        have AK := Lib.hid (IH.out (Inl.szL kids) (by omega) kids ok vk ks g cap w (Nat.le_refl _) hR.kids hks HC.out)
        obtain ⟨ak, nk, ck, rfl⟩ := Rd.slf hR.kids
        have OK := Lib.hid (OO.out kd)
        have HX : Hid ((Inl.mk kd t d ti at_ ar ci kids).anyK ks = (ks.contains kd || Inl.anyL ks kids)) := by show _ = _; rw [Inl.anyK]
        have HSN := Lib.hid hsn
        clear hx hR hsn
        cases h1 : ks.contains kd with
        | true =>
          rw [h1] at OK HX
          have HE : Hid (V = true) := by show V = true; rw [HV.out]; exact HG.out (by rw [HX.out]; rfl)
          clear h1
          go_wp2_with fail
          refine OK.out.mono ?_
          rintro e w1 ⟨rfl, rfl⟩
          go_wp2
          go_ret
          exact ⟨by rw [HE.out]; rfl, rfl⟩
        | false =>
          rw [h1] at OK HX
          cases h2 : Inl.anyL ks kids with
          | true =>
            rw [h2] at AK HX
            have HE : Hid (V = true) := by show V = true; rw [HV.out]; exact HG.out (by rw [HX.out]; rfl)
            clear h1 h2
            go_wp2_with fail
            refine OK.out.mono ?_
            rintro e w1 ⟨rfl, rfl⟩
            go_wp2_with fail
            refine AK.out.mono ?_
            rintro e w1 ⟨rfl, rfl⟩
            go_wp2
            go_ret
            exact ⟨by rw [HE.out]; rfl, rfl⟩
          | false =>
            rw [h2] at AK HX
            clear h1 h2
            go_wp2_with fail
            refine OK.out.mono ?_
            rintro e w1 ⟨rfl, rfl⟩
            go_wp2_with fail
            refine AK.out.mono ?_
            rintro e w1 ⟨rfl, rfl⟩
            go_wp2
            go_round
            case rel => exact ⟨k + 1, by omega, by go_num, by rw [HSN.out, HN.out, HX.out]; rfl⟩
            case measure => simp [intOf]; omega
      · have HE : Hid (V = false) := by
          show V = false
          rw [HV.out]
          have := HN.out
          rwa [List.take_of_length_le (by omega)] at this
        go_wp2
        go_ret
        exact ⟨by rw [HE.out]; rfl, rfl⟩
end Go.Proofs.YtjobjicdfoklpaaGreatDoor

namespace Go.Proofs.YtjobjicdfoklpaaGreatDoor
open Go.RowKit
set_option linter.unusedVariables false
set_option linter.unusedSimpArgs false

theorem hasB_rev (l : List ByteArray) (x : ByteArray) : hasB l.reverse x = hasB l x := by
  rw [Bool.eq_iff_iff, hasB_iff, hasB_iff, List.mem_reverse]
theorem SetAt.cleared {w : World} {b n : Nat} {S : List ByteArray} (h : SetAt w b n S) (ty : TypeId) :
    ∃ w', (Builtin.clear_ #[92] ty #[.map (some b)]).run Tryz.prog w = .ok (.tuple #[]) w' ∧ SetAt w' b 0 [] ∧ w.grownBy w' (some b) := by
  obtain ⟨D, ⟨es, clock, hb, F, hsz, hD⟩, hat⟩ := h
  have hr : ∃ clock', (Builtin.clear_ #[92] ty #[.map (some b)]).run Tryz.prog w = .ok (.tuple #[]) { w with heap := w.heap.setIfInBounds b (.map #[] clock') } := by
    refine ⟨clock, ?_⟩
    simp [Builtin.clear_, run_underlying Tryz.underlying92, MapKept.run_getObj_map hb, MapKept.run_setObj_map _ hb, Result.andThen]
  obtain ⟨clock', hrun⟩ := hr
  have hs := MapKept.heap_set (o' := .map #[] clock') hb
  refine ⟨_, hrun, ⟨.map [], ⟨#[], clock', hs.1, ⟨by simp, MapKept.stamped_empty clock', by simp⟩, Nat.le_refl _, rfl⟩, fun s => rfl⟩, rfl, rfl, rfl, ?_, fun i _ hne => hs.2 i (fun e => hne (by rw [e]))⟩
  simp

def EtB (T : TypeId) (p : Nat) (cs : List Value) (w : World) (mb n : Nat) (S : List ByteArray) (wr : World) : Prop := CB T p cs wr ∧ SetAt wr mb n S ∧ Below w.heap.size w wr ∧ w.heap.size ≤ mb ∧ p ≠ mb ∧ w.heap.size ≤ p
theorem EtB.put {T : TypeId} {p : Nat} {cs : List Value} {w : World} {mb n n' : Nat} {S S' : List ByteArray} {wr w' : World} (h : EtB T p cs w mb n S wr) (hg : wr.grownBy w' (some mb)) (hs : SetAt w' mb n' S') : EtB T p cs w mb n' S' w' :=
  ⟨(hg.block p h.1.lt (fun e => h.2.2.2.2.1 (by injection e))).trans h.1, hs, h.2.2.1.grown hg h.2.2.1.size (fun j hj => by cases hj; exact h.2.2.2.1), h.2.2.2⟩
theorem EtB.alloc {T : TypeId} {p : Nat} {cs : List Value} {w : World} {mb n : Nat} {S : List ByteArray} {wr : World} (h : EtB T p cs w mb n S wr) (o : Obj) : EtB T p cs w mb n S (wr.alloc o) :=
  ⟨h.1.below ((Below.refl _ _).alloc (Nat.le_refl _) _), h.2.1.below ((Below.refl _ _).alloc (Nat.le_refl _) _), h.2.2.1.alloc h.2.2.1.size _, h.2.2.2⟩
theorem EtB.drewN {T : TypeId} {p : Nat} {cs : List Value} {w : World} {mb n : Nat} {S : List ByteArray} {wr : World} (h : EtB T p cs w mb n S wr) (q : Nat) : EtB T p cs w mb n S (wr.drewN q) :=
  ⟨h.1, h.2.1, below_dN h.2.2.1 q, h.2.2.2⟩
def AcRel1 (T : TypeId) (p : Nat) (cs : List Value) (w : World) (mb : Nat) (l : List ByteArray) (E : Nat) (vi : Value) (wr : World) : Prop :=
  ∃ k : Nat, k ≤ l.length ∧ vi = .int .i64 k ∧ EtB T p cs w mb k (l.take k).reverse wr ∧ clsErr (l.take k) (l.drop k) = E
def AcRel2 (T : TypeId) (p : Nat) (cs : List Value) (w : World) (mb : Nat) (l : List Pr) (E : Nat) (vi : Value) (wr : World) : Prop :=
  ∃ k : Nat, k ≤ l.length ∧ vi = .int .i64 k ∧ EtB T p cs w mb k ((l.take k).map Pr.key).reverse wr ∧ prsErr ((l.take k).map Pr.key) (l.drop k) = E
theorem ret_i64n {a b : Nat} (h : a = b) : Ending.returned (.int .i64 (a : Int)) = .returned (.int .i64 (b : Int)) := by rw [h]

set_option maxRecDepth 100000 in
set_option maxHeartbeats 8000000 in
theorem aCheck_any (a : At) (ac ap : Option Addr) (cc cp : Nat) (w : World) (h : AtR (· < w.heap.size) w a (.slice ac a.cls.length cc) (.slice ap a.prs.length cp)) (hs : a.short) :
    Calls Tryz.prog 179 #[.agg #[.string a.id, .slice ac a.cls.length cc, .slice ap a.prs.length cp]] w (RetB (.int .i64 (a.err : Nat)) w) := by
  obtain ⟨sc, sp, si, sca, spa⟩ := hs
  obtain ⟨id, cls, prs⟩ := a
  dsimp only at sc sp si sca spa h ⊢
  obtain ⟨a1, c1, hv1, hs1⟩ := Rd.sl_open h.cls
  obtain ⟨rfl, rfl⟩ : a1 = ac ∧ c1 = cc := by simp at hv1; exact ⟨hv1.1.symm, hv1.2.symm⟩
  obtain ⟨a2, c2, hv2, hs2⟩ := Rd.sl_open h.prs
  obtain ⟨rfl, rfl⟩ : a2 = ap ∧ c2 = cp := by simp at hv2; exact ⟨hv2.1.symm, hv2.2.symm⟩
  have l1 : cls.length ≤ c1 := by simpa using hs1.le
  have l2 : prs.length ≤ c2 := by simpa using hs2.le
  have m1 := hs1.max
  have m2 := hs2.max
  unfold maxLen at m1 m2
  have H1 := Lib.hid hs1
  have H2 := Lib.hid hs2
  have SC := Lib.hid sca
  have SP := Lib.hid spa
  have NI := Lib.hid (fun w => name_any id w (by omega))
  have HE : Hid (At.err ⟨id, cls, prs⟩ = if emptyS id = false ∧ nameOk id = false then 6 else if clsErr [] cls ≠ 0 then clsErr [] cls else if prsErr [] prs ≠ 0 then prsErr [] prs else if 32 < cls.length ∨ 32 < prs.length then 3 else 0) := rfl
  obtain ⟨V, hV⟩ : ∃ V, V = At.err ⟨id, cls, prs⟩ := ⟨_, rfl⟩
  rw [← hV] at HE ⊢
  clear hV sca spa hs1 hs2 hv1 hv2 h
  by_cases hbad : emptyS id = false ∧ nameOk id = false
  · have HV : Hid (V = 6) := by show V = 6; rw [HE.out, if_pos hbad]
    rw [hbad.2] at NI
    have hie : id.toList.isEmpty = false := by rw [emp_eq]; exact hbad.1
    clear hbad HE
    go_enter Tryz.func179, Tryz.ntmps179
    go_wp2_with (go_at_call 68; refine (NI.out _).mono ?_; rintro e w1 ⟨rfl, rfl⟩)
    go_ret
    exact ⟨by rw [HV.out]; rfl, (Below.refl _ _).alloc (Nat.le_refl _) _⟩
  have hgood : id.toList.isEmpty = true ∨ (id.toList.isEmpty = false ∧ nameOk id = true) := by
    rw [emp_eq]
    cases h1 : emptyS id
    · right
      refine ⟨rfl, ?_⟩
      cases h2 : nameOk id
      · exact absurd ⟨h1, h2⟩ hbad
      · rfl
    · left; rfl
  have HE2 : Hid (V = if clsErr [] cls ≠ 0 then clsErr [] cls else if prsErr [] prs ≠ 0 then prsErr [] prs else if 32 < cls.length ∨ 32 < prs.length then 3 else 0) := by show V = _; rw [HE.out, if_neg hbad]
  obtain ⟨w1, hw1⟩ : ∃ w1, w1 = (w.alloc (.cells #[.string id, .slice a1 cls.length c1, .slice a2 prs.length c2] 44)).alloc (.map #[] 0) := ⟨_, rfl⟩
  have R0 : Hid (AcRel1 44 w.heap.size [.string id, .slice a1 cls.length c1, .slice a2 prs.length c2] w (w.heap.size + 1) cls (clsErr [] cls) (.int .i64 0) w1) := by
    refine ⟨0, Nat.zero_le _, rfl, ⟨?_, ?_, ?_, by omega, by omega, Nat.le_refl _⟩, rfl⟩
    · rw [hw1]; exact (CB.new _ _ w).below ((Below.refl _ _).alloc (Nat.le_refl _) _)
    · rw [hw1]
      have := SetAt.made (w.alloc (.cells #[.string id, .slice a1 cls.length c1, .slice a2 prs.length c2] 44))
      rwa [World.size_alloc] at this
    · rw [hw1]; exact ((Below.refl _ _).alloc (Nat.le_refl _) _).alloc (by simp) _
  have HW1 := Lib.hid hw1
  obtain ⟨E1, hE1⟩ : ∃ E1, E1 = clsErr [] cls := ⟨_, rfl⟩
  obtain ⟨E2, hE2⟩ : ∃ E2, E2 = prsErr [] prs := ⟨_, rfl⟩
  rw [← hE1] at HE2 R0
  rw [← hE2] at HE2
  have HE2d := Lib.hid hE2
  clear hbad HE hw1 hE1 hE2
  have hmm := @run_makeMap Tryz.prog
  rcases hgood with hie | ⟨hie, hnm⟩
  · clear NI
    go_enter Tryz.func179, Tryz.ntmps179
    go_wp2
    rw [← HW1.out]
    clear hmm
    go_loopw [21] (fun i wr => AcRel1 44 w.heap.size [.string id, .slice a1 cls.length c1, .slice a2 prs.length c2] w (w.heap.size + 1) cls E1 i wr) (fun i _ => cls.length - (intOf i).toNat)
    case atStart => exact R0.out
    case round =>
      clear R0
      obtain ⟨k, hk, rfl, hEt, herr⟩ := hrel
      have HET := Lib.hid hEt
      by_cases hlt : k < cls.length
      · obtain ⟨x, hx⟩ : ∃ x, cls[k]? = some x := ⟨_, List.getElem?_eq_getElem hlt⟩
        obtain ⟨b, off, rfl, -, -, c0⟩ := strs_at H1.out hx
        have c0 : wr.cell? ⟨b, off + k, none⟩ = some (.string x) := by rw [hEt.2.2.1.cell (p := ⟨b, off + k, none⟩) (cell_lt c0)]; exact c0
        have hxs := SC.out x (List.mem_of_getElem? hx)
        have CN := Lib.hid (fun w => name_any x w (by omega))
        have hlk := hEt.2.1.look x (by unfold maxLen; omega)
        obtain ⟨w', hup, hS', hg⟩ := hEt.2.1.put x (by unfold maxLen; omega) (by unfold maxLen; omega)
        have HN' := Lib.hid (hEt.put hg hS')
        rw [hasB_rev] at hlk
        rw [drop_cons cls k x hx, clsErr] at herr
        have HTK : Hid (cls.take (k + 1) = cls.take k ++ [x]) := by show _ = _; rw [List.take_add_one, hx]; rfl
        have HERR := Lib.hid herr
        clear herr hS' hg hEt hx
        cases hn : nameOk x with
        | false =>
          rw [hn] at CN
          have HV : Hid (V = 6) := by
            show V = 6
            have := HERR.out
            rw [if_pos hn] at this
            rw [HE2.out, ← this]; rfl
          clear hn hup
          go_wp2_with fail
          refine (CN.out _).mono ?_
          rintro e w3 ⟨rfl, rfl⟩
          go_wp2
          go_ret
          exact ⟨by rw [HV.out]; rfl, HET.out.2.2.1⟩
        | true =>
          rw [hn] at CN
          cases hb : hasB (cls.take k) x with
          | true =>
            rw [hb] at hlk
            have HV : Hid (V = 7) := by
              show V = 7
              have := HERR.out
              rw [if_neg (by rw [hn]; decide), if_pos hb] at this
              rw [HE2.out, ← this]; rfl
            clear hn hb hup
            go_wp2_with fail
            refine (CN.out _).mono ?_
            rintro e w3 ⟨rfl, rfl⟩
            go_wp2
            go_ret
            exact ⟨by rw [HV.out]; rfl, HET.out.2.2.1⟩
          | false =>
            rw [hb] at hlk
            have HN2 : Hid (clsErr (cls.take (k + 1)) (cls.drop (k + 1)) = E1) := by
              show _ = _
              have := HERR.out
              rw [if_neg (by rw [hn]; decide), if_neg (by rw [hb]; decide)] at this
              rw [HTK.out]; exact this
            clear hn hb
            go_wp2_with fail
            refine (CN.out _).mono ?_
            rintro e w3 ⟨rfl, rfl⟩
            go_wp2
            go_roundw
            case rel => exact ⟨k + 1, by omega, by go_num, by rw [HTK.out, List.reverse_append]; exact HN'.out, HN2.out⟩
            case measure => simp [intOf]; omega
      · obtain rfl : k = cls.length := by omega
        have HE10 : Hid (E1 = 0) := by
          show E1 = 0
          rw [List.drop_length, clsErr] at herr; exact herr.symm
        obtain ⟨w2, hcl, hS2, hg2⟩ : ∃ w2, (∀ ty, (Builtin.clear_ #[92] ty #[.map (some (w.heap.size + 1))]).run Tryz.prog wr = .ok (.tuple #[]) w2) ∧ SetAt w2 (w.heap.size + 1) 0 [] ∧ wr.grownBy w2 (some (w.heap.size + 1)) := by
          obtain ⟨w2, h1, h2, h3⟩ := hEt.2.1.cleared 0
          exact ⟨w2, fun ty => h1, h2, h3⟩
        have R2 : Hid (AcRel2 44 w.heap.size [.string id, .slice a1 cls.length c1, .slice a2 prs.length c2] w (w.heap.size + 1) prs E2 (.int .i64 0) w2) := ⟨0, Nat.zero_le _, rfl, hEt.put hg2 hS2, HE2d.out.symm⟩
        have p2 : w2.cell? ⟨w.heap.size, 2, none⟩ = some (.slice a2 prs.length c2) := (hEt.put hg2 hS2).1.cell 2 _ rfl
        clear herr hEt HET hS2 hg2 hk hlt
        go_wp2
        go_loopw [38] (fun i wr => AcRel2 44 w.heap.size [.string id, .slice a1 cls.length c1, .slice a2 prs.length c2] w (w.heap.size + 1) prs E2 i wr) (fun i _ => prs.length - (intOf i).toNat)
        case atStart => exact R2.out
        case round =>
          clear R2 hcl p2
          obtain ⟨k, hk, rfl, hEt, herr⟩ := hrel
          have HET := Lib.hid hEt
          by_cases hlt : k < prs.length
          · obtain ⟨x, hx⟩ : ∃ x, prs[k]? = some x := ⟨_, List.getElem?_eq_getElem hlt⟩
            obtain ⟨b, off, rfl, -, -, c0, c1'⟩ := prs_at H2.out hx
            have c0 : wr.cell? ⟨b, off + k * 2, none⟩ = some (.string x.key) := by rw [hEt.2.2.1.cell (p := ⟨b, off + k * 2, none⟩) (cell_lt c0)]; exact c0
            have c1' : wr.cell? ⟨b, off + k * 2 + 1, none⟩ = some (.string x.val) := by rw [hEt.2.2.1.cell (p := ⟨b, off + k * 2 + 1, none⟩) (cell_lt c1')]; exact c1'
            have hxs := SP.out x (List.mem_of_getElem? hx)
            have HX := Lib.hid hx
            have HERR : Hid (prsErr ((prs.take k).map Pr.key) (x :: prs.drop (k + 1)) = E2) := by show _ = _; rw [← drop_cons prs k x hx]; exact herr
            obtain ⟨key, val⟩ := x
            dsimp only at c0 c1' hxs
            have CN := Lib.hid (fun w => name_any key w (by omega))
            have CV := Lib.hid (fun w => aLine_any val w (by omega))
            have HTK : Hid ((prs.take (k + 1)).map Pr.key = (prs.take k).map Pr.key ++ [key]) := by show _ = _; rw [List.take_add_one, HX.out]; simp
            obtain ⟨wi, hwi⟩ : ∃ wi, wi = wr.alloc (.cells #[.string key, .string val] 61) := ⟨_, rfl⟩
            have hEi := hEt.alloc (.cells #[.string key, .string val] 61)
            rw [← hwi] at hEi
            have i0 : wi.cell? ⟨wr.heap.size, 0, none⟩ = some (.string key) := by rw [hwi]; exact new_cell wr [.string key, .string val] _ 0 _ rfl
            have i1 : wi.cell? ⟨wr.heap.size, 1, none⟩ = some (.string val) := by rw [hwi]; exact new_cell wr [.string key, .string val] _ 1 _ rfl
            have HEI := Lib.hid hEi
            clear herr hEt hx
            cases hn : nameOk key with
            | false =>
              rw [hn] at CN
              have HV : Hid (V = 6) := by
                show V = 6
                have := HERR.out
                rw [prsErr, if_pos hn] at this
                rw [HE2.out, HE10.out, ← this]; rfl
              clear hn
              go_upto_region 17 with (fail)
              rw [← hwi]
              clear hwi hEi
              go_wp2_with fail
              refine (CN.out _).mono ?_
              rintro e w3 ⟨rfl, rfl⟩
              go_wp2
              go_ret
              exact ⟨by rw [HV.out]; rfl, HEI.out.2.2.1⟩
            | true =>
              rw [hn] at CN
              cases hln : lineS val with
              | false =>
                rw [hln] at CV
                have HV : Hid (V = 17) := by
                  show V = 17
                  have := HERR.out
                  rw [prsErr, if_neg (by rw [hn]; decide), if_pos hln] at this
                  rw [HE2.out, HE10.out, ← this]; rfl
                clear hn hln
                go_upto_region 17 with (fail)
                rw [← hwi]
                clear hwi hEi
                go_wp2_with fail
                refine (CN.out _).mono ?_
                rintro e w3 ⟨rfl, rfl⟩
                go_wp2_with fail
                refine (CV.out _).mono ?_
                rintro e w3 ⟨rfl, q, rfl⟩
                go_wp2
                go_ret
                exact ⟨by rw [HV.out]; rfl, below_dN HEI.out.2.2.1 q⟩
              | true =>
                rw [hln] at CV
                have HLK := Lib.hid (fun q => (hEi.drewN q).2.1.look key (by unfold maxLen; omega))
                have HPUT := Lib.hid (fun q => (hEi.drewN q).2.1.put key (by unfold maxLen; omega) (by unfold maxLen; omega))
                cases hb : hasB ((prs.take k).map Pr.key) key with
                | true =>
                  have HV : Hid (V = 7) := by
                    show V = 7
                    have := HERR.out
                    rw [prsErr, if_neg (by rw [hn]; decide), if_neg (by rw [hln]; decide), if_pos hb] at this
                    rw [HE2.out, HE10.out, ← this]; rfl
                  have HB := Lib.hid hb
                  clear hn hln hb
                  go_upto_region 17 with (fail)
                  rw [← hwi]
                  clear hwi hEi
                  go_wp2_with fail
                  refine (CN.out _).mono ?_
                  rintro e w3 ⟨rfl, rfl⟩
                  go_wp2_with fail
                  refine (CV.out _).mono ?_
                  rintro e w3 ⟨rfl, q, rfl⟩
                  have hlk := HLK.out q
                  rw [hasB_rev, HB.out] at hlk
                  go_wp2
                  go_ret
                  exact ⟨by rw [HV.out]; rfl, below_dN HEI.out.2.2.1 q⟩
                | false =>
                  have HN2 : Hid (prsErr ((prs.take (k + 1)).map Pr.key) (prs.drop (k + 1)) = E2) := by
                    show _ = _
                    have := HERR.out
                    rw [prsErr, if_neg (by rw [hn]; decide), if_neg (by rw [hln]; decide), if_neg (by rw [hb]; decide)] at this
                    rw [HTK.out]; exact this
                  have HB := Lib.hid hb
                  clear hn hln hb
                  go_upto_region 17 with (fail)
                  rw [← hwi]
                  clear hwi hEi
                  go_wp2_with fail
                  refine (CN.out _).mono ?_
                  rintro e w3 ⟨rfl, rfl⟩
                  go_wp2_with fail
                  refine (CV.out _).mono ?_
                  rintro e w3 ⟨rfl, q, rfl⟩
                  have hlk := HLK.out q
                  rw [hasB_rev, HB.out] at hlk
                  obtain ⟨w', hup, hS', hg⟩ := HPUT.out q
                  have HN' := Lib.hid ((HEI.out.drewN q).put hg hS')
                  clear hS' hg
                  go_wp2
                  go_roundw
                  case rel => exact ⟨k + 1, by omega, by go_num, by rw [HTK.out, List.reverse_append]; exact HN'.out, HN2.out⟩
                  case measure => simp [intOf]; omega
          · obtain rfl : k = prs.length := by omega
            have HV : Hid (V = if 32 < cls.length ∨ 32 < prs.length then 3 else 0) := by
              show V = _
              rw [List.drop_length, prsErr] at herr
              rw [HE2.out, HE10.out, ← herr]; rfl
            have p1 : wr.cell? ⟨w.heap.size, 1, none⟩ = some (.slice a1 cls.length c1) := hEt.1.cell 1 _ rfl
            have p2 : wr.cell? ⟨w.heap.size, 2, none⟩ = some (.slice a2 prs.length c2) := hEt.1.cell 2 _ rfl
            clear herr hEt hk hlt
            by_cases h1 : 32 < cls.length
            · have q1 : decide ((32 : Int) < (cls.length : Int)) = true := by simp; omega
              go_wp2
              go_ret
              exact ⟨by rw [HV.out, if_pos (.inl h1)]; rfl, HET.out.2.2.1⟩
            · have q1 : decide ((32 : Int) < (cls.length : Int)) = false := by simp; omega
              by_cases h2 : 32 < prs.length
              · have q2 : decide ((32 : Int) < (prs.length : Int)) = true := by simp; omega
                go_wp2
                go_ret
                exact ⟨by rw [HV.out, if_pos (.inr h2)]; rfl, HET.out.2.2.1⟩
              · have q2 : decide ((32 : Int) < (prs.length : Int)) = false := by simp; omega
                go_wp2
                go_ret
                exact ⟨by rw [HV.out, if_neg (by omega)]; rfl, HET.out.2.2.1⟩
  · rw [hnm] at NI
    clear hnm
    go_enter Tryz.func179, Tryz.ntmps179
    go_wp2_with (go_at_call 68; refine (NI.out _).mono ?_; rintro e w1 ⟨rfl, rfl⟩)
    rw [← HW1.out]
    clear hmm
    go_loopw [21] (fun i wr => AcRel1 44 w.heap.size [.string id, .slice a1 cls.length c1, .slice a2 prs.length c2] w (w.heap.size + 1) cls E1 i wr) (fun i _ => cls.length - (intOf i).toNat)
    case atStart => exact R0.out
    case round =>
      clear R0
      obtain ⟨k, hk, rfl, hEt, herr⟩ := hrel
      have HET := Lib.hid hEt
      by_cases hlt : k < cls.length
      · obtain ⟨x, hx⟩ : ∃ x, cls[k]? = some x := ⟨_, List.getElem?_eq_getElem hlt⟩
        obtain ⟨b, off, rfl, -, -, c0⟩ := strs_at H1.out hx
        have c0 : wr.cell? ⟨b, off + k, none⟩ = some (.string x) := by rw [hEt.2.2.1.cell (p := ⟨b, off + k, none⟩) (cell_lt c0)]; exact c0
        have hxs := SC.out x (List.mem_of_getElem? hx)
        have CN := Lib.hid (fun w => name_any x w (by omega))
        have hlk := hEt.2.1.look x (by unfold maxLen; omega)
        obtain ⟨w', hup, hS', hg⟩ := hEt.2.1.put x (by unfold maxLen; omega) (by unfold maxLen; omega)
        have HN' := Lib.hid (hEt.put hg hS')
        rw [hasB_rev] at hlk
        rw [drop_cons cls k x hx, clsErr] at herr
        have HTK : Hid (cls.take (k + 1) = cls.take k ++ [x]) := by show _ = _; rw [List.take_add_one, hx]; rfl
        have HERR := Lib.hid herr
        clear herr hS' hg hEt hx
        cases hn : nameOk x with
        | false =>
          rw [hn] at CN
          have HV : Hid (V = 6) := by
            show V = 6
            have := HERR.out
            rw [if_pos hn] at this
            rw [HE2.out, ← this]; rfl
          clear hn hup
          go_wp2_with fail
          refine (CN.out _).mono ?_
          rintro e w3 ⟨rfl, rfl⟩
          go_wp2
          go_ret
          exact ⟨by rw [HV.out]; rfl, HET.out.2.2.1⟩
        | true =>
          rw [hn] at CN
          cases hb : hasB (cls.take k) x with
          | true =>
            rw [hb] at hlk
            have HV : Hid (V = 7) := by
              show V = 7
              have := HERR.out
              rw [if_neg (by rw [hn]; decide), if_pos hb] at this
              rw [HE2.out, ← this]; rfl
            clear hn hb hup
            go_wp2_with fail
            refine (CN.out _).mono ?_
            rintro e w3 ⟨rfl, rfl⟩
            go_wp2
            go_ret
            exact ⟨by rw [HV.out]; rfl, HET.out.2.2.1⟩
          | false =>
            rw [hb] at hlk
            have HN2 : Hid (clsErr (cls.take (k + 1)) (cls.drop (k + 1)) = E1) := by
              show _ = _
              have := HERR.out
              rw [if_neg (by rw [hn]; decide), if_neg (by rw [hb]; decide)] at this
              rw [HTK.out]; exact this
            clear hn hb
            go_wp2_with fail
            refine (CN.out _).mono ?_
            rintro e w3 ⟨rfl, rfl⟩
            go_wp2
            go_roundw
            case rel => exact ⟨k + 1, by omega, by go_num, by rw [HTK.out, List.reverse_append]; exact HN'.out, HN2.out⟩
            case measure => simp [intOf]; omega
      · obtain rfl : k = cls.length := by omega
        have HE10 : Hid (E1 = 0) := by
          show E1 = 0
          rw [List.drop_length, clsErr] at herr; exact herr.symm
        obtain ⟨w2, hcl, hS2, hg2⟩ : ∃ w2, (∀ ty, (Builtin.clear_ #[92] ty #[.map (some (w.heap.size + 1))]).run Tryz.prog wr = .ok (.tuple #[]) w2) ∧ SetAt w2 (w.heap.size + 1) 0 [] ∧ wr.grownBy w2 (some (w.heap.size + 1)) := by
          obtain ⟨w2, h1, h2, h3⟩ := hEt.2.1.cleared 0
          exact ⟨w2, fun ty => h1, h2, h3⟩
        have R2 : Hid (AcRel2 44 w.heap.size [.string id, .slice a1 cls.length c1, .slice a2 prs.length c2] w (w.heap.size + 1) prs E2 (.int .i64 0) w2) := ⟨0, Nat.zero_le _, rfl, hEt.put hg2 hS2, HE2d.out.symm⟩
        have p2 : w2.cell? ⟨w.heap.size, 2, none⟩ = some (.slice a2 prs.length c2) := (hEt.put hg2 hS2).1.cell 2 _ rfl
        clear herr hEt HET hS2 hg2 hk hlt
        go_wp2
        go_loopw [38] (fun i wr => AcRel2 44 w.heap.size [.string id, .slice a1 cls.length c1, .slice a2 prs.length c2] w (w.heap.size + 1) prs E2 i wr) (fun i _ => prs.length - (intOf i).toNat)
        case atStart => exact R2.out
        case round =>
          clear R2 hcl p2
          obtain ⟨k, hk, rfl, hEt, herr⟩ := hrel
          have HET := Lib.hid hEt
          by_cases hlt : k < prs.length
          · obtain ⟨x, hx⟩ : ∃ x, prs[k]? = some x := ⟨_, List.getElem?_eq_getElem hlt⟩
            obtain ⟨b, off, rfl, -, -, c0, c1'⟩ := prs_at H2.out hx
            have c0 : wr.cell? ⟨b, off + k * 2, none⟩ = some (.string x.key) := by rw [hEt.2.2.1.cell (p := ⟨b, off + k * 2, none⟩) (cell_lt c0)]; exact c0
            have c1' : wr.cell? ⟨b, off + k * 2 + 1, none⟩ = some (.string x.val) := by rw [hEt.2.2.1.cell (p := ⟨b, off + k * 2 + 1, none⟩) (cell_lt c1')]; exact c1'
            have hxs := SP.out x (List.mem_of_getElem? hx)
            have HX := Lib.hid hx
            have HERR : Hid (prsErr ((prs.take k).map Pr.key) (x :: prs.drop (k + 1)) = E2) := by show _ = _; rw [← drop_cons prs k x hx]; exact herr
            obtain ⟨key, val⟩ := x
            dsimp only at c0 c1' hxs
            have CN := Lib.hid (fun w => name_any key w (by omega))
            have CV := Lib.hid (fun w => aLine_any val w (by omega))
            have HTK : Hid ((prs.take (k + 1)).map Pr.key = (prs.take k).map Pr.key ++ [key]) := by show _ = _; rw [List.take_add_one, HX.out]; simp
            obtain ⟨wi, hwi⟩ : ∃ wi, wi = wr.alloc (.cells #[.string key, .string val] 61) := ⟨_, rfl⟩
            have hEi := hEt.alloc (.cells #[.string key, .string val] 61)
            rw [← hwi] at hEi
            have i0 : wi.cell? ⟨wr.heap.size, 0, none⟩ = some (.string key) := by rw [hwi]; exact new_cell wr [.string key, .string val] _ 0 _ rfl
            have i1 : wi.cell? ⟨wr.heap.size, 1, none⟩ = some (.string val) := by rw [hwi]; exact new_cell wr [.string key, .string val] _ 1 _ rfl
            have HEI := Lib.hid hEi
            clear herr hEt hx
            cases hn : nameOk key with
            | false =>
              rw [hn] at CN
              have HV : Hid (V = 6) := by
                show V = 6
                have := HERR.out
                rw [prsErr, if_pos hn] at this
                rw [HE2.out, HE10.out, ← this]; rfl
              clear hn
              go_upto_region 17 with (fail)
              rw [← hwi]
              clear hwi hEi
              go_wp2_with fail
              refine (CN.out _).mono ?_
              rintro e w3 ⟨rfl, rfl⟩
              go_wp2
              go_ret
              exact ⟨by rw [HV.out]; rfl, HEI.out.2.2.1⟩
            | true =>
              rw [hn] at CN
              cases hln : lineS val with
              | false =>
                rw [hln] at CV
                have HV : Hid (V = 17) := by
                  show V = 17
                  have := HERR.out
                  rw [prsErr, if_neg (by rw [hn]; decide), if_pos hln] at this
                  rw [HE2.out, HE10.out, ← this]; rfl
                clear hn hln
                go_upto_region 17 with (fail)
                rw [← hwi]
                clear hwi hEi
                go_wp2_with fail
                refine (CN.out _).mono ?_
                rintro e w3 ⟨rfl, rfl⟩
                go_wp2_with fail
                refine (CV.out _).mono ?_
                rintro e w3 ⟨rfl, q, rfl⟩
                go_wp2
                go_ret
                exact ⟨by rw [HV.out]; rfl, below_dN HEI.out.2.2.1 q⟩
              | true =>
                rw [hln] at CV
                have HLK := Lib.hid (fun q => (hEi.drewN q).2.1.look key (by unfold maxLen; omega))
                have HPUT := Lib.hid (fun q => (hEi.drewN q).2.1.put key (by unfold maxLen; omega) (by unfold maxLen; omega))
                cases hb : hasB ((prs.take k).map Pr.key) key with
                | true =>
                  have HV : Hid (V = 7) := by
                    show V = 7
                    have := HERR.out
                    rw [prsErr, if_neg (by rw [hn]; decide), if_neg (by rw [hln]; decide), if_pos hb] at this
                    rw [HE2.out, HE10.out, ← this]; rfl
                  have HB := Lib.hid hb
                  clear hn hln hb
                  go_upto_region 17 with (fail)
                  rw [← hwi]
                  clear hwi hEi
                  go_wp2_with fail
                  refine (CN.out _).mono ?_
                  rintro e w3 ⟨rfl, rfl⟩
                  go_wp2_with fail
                  refine (CV.out _).mono ?_
                  rintro e w3 ⟨rfl, q, rfl⟩
                  have hlk := HLK.out q
                  rw [hasB_rev, HB.out] at hlk
                  go_wp2
                  go_ret
                  exact ⟨by rw [HV.out]; rfl, below_dN HEI.out.2.2.1 q⟩
                | false =>
                  have HN2 : Hid (prsErr ((prs.take (k + 1)).map Pr.key) (prs.drop (k + 1)) = E2) := by
                    show _ = _
                    have := HERR.out
                    rw [prsErr, if_neg (by rw [hn]; decide), if_neg (by rw [hln]; decide), if_neg (by rw [hb]; decide)] at this
                    rw [HTK.out]; exact this
                  have HB := Lib.hid hb
                  clear hn hln hb
                  go_upto_region 17 with (fail)
                  rw [← hwi]
                  clear hwi hEi
                  go_wp2_with fail
                  refine (CN.out _).mono ?_
                  rintro e w3 ⟨rfl, rfl⟩
                  go_wp2_with fail
                  refine (CV.out _).mono ?_
                  rintro e w3 ⟨rfl, q, rfl⟩
                  have hlk := HLK.out q
                  rw [hasB_rev, HB.out] at hlk
                  obtain ⟨w', hup, hS', hg⟩ := HPUT.out q
                  have HN' := Lib.hid ((HEI.out.drewN q).put hg hS')
                  clear hS' hg
                  go_wp2
                  go_roundw
                  case rel => exact ⟨k + 1, by omega, by go_num, by rw [HTK.out, List.reverse_append]; exact HN'.out, HN2.out⟩
                  case measure => simp [intOf]; omega
          · obtain rfl : k = prs.length := by omega
            have HV : Hid (V = if 32 < cls.length ∨ 32 < prs.length then 3 else 0) := by
              show V = _
              rw [List.drop_length, prsErr] at herr
              rw [HE2.out, HE10.out, ← herr]; rfl
            have p1 : wr.cell? ⟨w.heap.size, 1, none⟩ = some (.slice a1 cls.length c1) := hEt.1.cell 1 _ rfl
            have p2 : wr.cell? ⟨w.heap.size, 2, none⟩ = some (.slice a2 prs.length c2) := hEt.1.cell 2 _ rfl
            clear herr hEt hk hlt
            by_cases h1 : 32 < cls.length
            · have q1 : decide ((32 : Int) < (cls.length : Int)) = true := by simp; omega
              go_wp2
              go_ret
              exact ⟨by rw [HV.out, if_pos (.inl h1)]; rfl, HET.out.2.2.1⟩
            · have q1 : decide ((32 : Int) < (cls.length : Int)) = false := by simp; omega
              by_cases h2 : 32 < prs.length
              · have q2 : decide ((32 : Int) < (prs.length : Int)) = true := by simp; omega
                go_wp2
                go_ret
                exact ⟨by rw [HV.out, if_pos (.inr h2)]; rfl, HET.out.2.2.1⟩
              · have q2 : decide ((32 : Int) < (prs.length : Int)) = false := by simp; omega
                go_wp2
                go_ret
                exact ⟨by rw [HV.out, if_neg (by omega)]; rfl, HET.out.2.2.1⟩
end Go.Proofs.YtjobjicdfoklpaaGreatDoor
