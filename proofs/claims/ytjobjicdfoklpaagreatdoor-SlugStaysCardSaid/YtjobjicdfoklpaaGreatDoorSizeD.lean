/- publisherref04.count, sizes, Size, Depth; tree.sizeOfLine, sizeOfBlocks, Size, Depth. Size and Depth of documents, of tree and of the reference. -/
import Derived.Test.YtjobjicdfoklpaaGreatDoorSmall
import Derived.Test.YtjobjicdfoklpaaGreatDoorChA
import Derived.Test.YtjobjicdfoklpaaGreatDoorInlsW
import Derived.BigRegion
import Derived.Test.YtjobjicdfoklpaaGreatDoorChH
namespace Go.Proofs.YtjobjicdfoklpaaGreatDoor
open Go.RowKit
set_option linter.unusedVariables false
set_option linter.unusedSimpArgs false

theorem Inl.szL_part (l : List Inl) (k : Nat) (x : Inl) (h : l[k]? = some x) : Inl.szL (l.take k) + x.sz ≤ Inl.szL l := by
  have h1 : Inl.szL (l.take (k + 1)) ≤ Inl.szL l := by
    have := Inl.szL_app (l.take (k + 1)) (l.drop (k + 1))
    rw [List.take_append_drop] at this
    omega
  rw [Inl.szL_snoc h] at h1
  exact h1
theorem Blk.allL_part (l : List Blk) (k : Nat) (x : Blk) (h : l[k]? = some x) : Blk.allL (l.take k) + x.all ≤ Blk.allL l := by
  have h1 : Blk.allL (l.take (k + 1)) ≤ Blk.allL l := by
    have := Blk.allL_app (l.take (k + 1)) (l.drop (k + 1))
    rw [List.take_append_drop] at this
    omega
  rw [Blk.allL_snoc h] at h1
  exact h1
theorem Blk.all_pos (x : Blk) : 1 ≤ x.all := by cases x; rw [Blk.all]; omega
theorem Blk.len_all : ∀ (l : List Blk), l.length ≤ Blk.allL l
  | [] => by simp
  | x :: l => by have := Blk.len_all l; have := x.all_pos; rw [Blk.allL]; simp; omega
/-- A call that leaves the world, in a region that draws. -/
theorem q_eq {P : Program} {f : FuncId} {args : Array Value} {w : World} {a n : Nat} {v : Value} (h : Calls P f args (w.drewN (a + n)) fun e w' => e = .returned v ∧ w.drewN (a + n) = w') :
    Calls P f args (w.drewN (a + n)) fun e w'' => e = .returned v ∧ ∃ m, w'' = w.drewN (a + m) := h.mono fun _ _ ⟨he, hm⟩ => ⟨he, n, hm.symm⟩
theorem q_dr {P : Program} {f : FuncId} {args : Array Value} {w : World} {a n : Nat} {v : Value} (h : Calls P f args (w.drewN (a + n)) (Dr v (w.drewN (a + n)))) :
    Calls P f args (w.drewN (a + n)) fun e w'' => e = .returned v ∧ ∃ m, w'' = w.drewN (a + m) := h.mono fun _ _ ⟨he, m, hm⟩ => ⟨he, n + m, by rw [hm, World.drewN_drewN, Nat.add_assoc]⟩
def SzRel (l : List Inl) (vn vi : Value) : Prop := ∃ k n : Nat, k ≤ l.length ∧ vi = .int .i64 k ∧ vn = .int .i64 n ∧ n = Inl.szL (l.take k) + (l.length - k)
def SbRel (l : List Blk) (w : World) (vn vi : Value) (wr : World) : Prop := ∃ k n q : Nat, k ≤ l.length ∧ vi = .int .i64 k ∧ vn = .int .i64 n ∧ n = Blk.allL (l.take k) + (l.length - k) ∧ wr = w.drewN q


set_option maxRecDepth 100000 in
set_option maxHeartbeats 2000000 in
theorem count_any (n : Nat) : ∀ (l : List Inl) (ok : Nat → Prop) (v : Value) (w : World), Inl.szL l ≤ n → n ≤ 1000000 → Rd ok w (inlsD l) [v] →
    Calls Tryz.prog 157 #[v] w fun e w' => e = .returned (.int .i64 (Inl.szL l : Nat)) ∧ w = w' := by
  induction n using Nat.strongRecOn with
  | _ n ih =>
    intro l ok v w hn hnm h1
    obtain ⟨a, cap, hv, hs⟩ := Rd.sl_open h1
    obtain rfl : v = .slice a l.length cap := by simpa using hv
    have hcap : l.length ≤ cap := by simpa using hs.le
    have hmx := hs.max
    unfold maxLen at hmx
    have HS := Lib.hid hs
    have IH := Lib.hid ih
    have R0 : Hid (SzRel l (.int .i64 (l.length : Int)) (.int .i64 0)) := ⟨0, l.length, Nat.zero_le _, rfl, rfl, by rw [List.take_zero, Inl.szL]; simp⟩
    clear hs hv h1 ih
    go_enter Tryz.func157, Tryz.ntmps157
    go_wp2
    go_loop [3, 4] (fun vn vi => SzRel l vn vi) (fun _ i => l.length - (intOf i).toNat)
    case atStart => exact R0.out
    case round =>
      clear R0
      obtain ⟨k, m, hk, rfl, rfl, hm⟩ := hrel
      by_cases hlt : k < l.length
      · obtain ⟨x, hx⟩ : ∃ x, l[k]? = some x := ⟨_, List.getElem?_eq_getElem hlt⟩
        have hsz := Inl.szL_part l k _ hx
        have hsn := Inl.szL_snoc hx
        obtain ⟨kd, t, d, ti, at_, ar, ci, ks⟩ := x
        obtain ⟨g, off, vc, vp, va, vi, vk, rfl, hok, hbl, hc, hR⟩ := inls_at HS.out hx
        rw [Inl.sz] at hsz hsn
        obtain ⟨ak, nk, ck, rfl⟩ := Rd.slf hR.kids
        have p9 := hc.c9
        have CK := Lib.hid (IH.out (Inl.szL ks) (by omega) ks ok (.slice ak nk ck) w (Nat.le_refl _) (by omega) hR.kids)
        have HM : Hid (m + Inl.szL ks = Inl.szL (l.take (k + 1)) + (l.length - (k + 1))) := by show _ = _; omega
        have hlm : l.length - k ≤ 1000000 := by have := Inl.len_le l; omega
        have hmb : m + Inl.szL ks ≤ 3000000 := by omega
        generalize Inl.szL ks = K at *
        clear hc hR hx hm hsn hsz hlm
        go_wp2_with fail
        refine CK.out.mono ?_
        rintro e w1 ⟨rfl, rfl⟩
        go_wp2
        go_round
        case rel => exact ⟨k + 1, m + K, by omega, by go_num, by go_num, HM.out⟩
        case measure => simp [intOf]; omega
      · obtain rfl : k = l.length := by omega
        have hv : m = Inl.szL l := by rw [hm, List.take_length]; omega
        have HV := Lib.hid hv
        clear hv hm
        go_wp2
        go_ret
        exact ⟨by rw [← HV.out]; rfl, rfl⟩


set_option maxRecDepth 100000 in
set_option maxHeartbeats 2000000 in
theorem sizeOfLine_any (n : Nat) : ∀ (l : List Inl) (ok : Nat → Prop) (v : Value) (w : World), Inl.szL l ≤ n → n ≤ 1000000 → Rd ok w (inlsD l) [v] →
    Calls Tryz.prog 128 #[v] w fun e w' => e = .returned (.int .i64 (Inl.szL l : Nat)) ∧ w = w' := by
  induction n using Nat.strongRecOn with
  | _ n ih =>
    intro l ok v w hn hnm h1
    obtain ⟨a, cap, hv, hs⟩ := Rd.sl_open h1
    obtain rfl : v = .slice a l.length cap := by simpa using hv
    have hcap : l.length ≤ cap := by simpa using hs.le
    have hmx := hs.max
    unfold maxLen at hmx
    have HS := Lib.hid hs
    have IH := Lib.hid ih
    have R0 : Hid (SzRel l (.int .i64 (l.length : Int)) (.int .i64 0)) := ⟨0, l.length, Nat.zero_le _, rfl, rfl, by rw [List.take_zero, Inl.szL]; simp⟩
    clear hs hv h1 ih
    go_enter Tryz.func128, Tryz.ntmps128
    go_wp2
    go_loop [3, 9] (fun vn vi => SzRel l vn vi) (fun _ i => l.length - (intOf i).toNat)
    case atStart => exact R0.out
    case round =>
      clear R0
      obtain ⟨k, m, hk, rfl, rfl, hm⟩ := hrel
      by_cases hlt : k < l.length
      · obtain ⟨x, hx⟩ : ∃ x, l[k]? = some x := ⟨_, List.getElem?_eq_getElem hlt⟩
        have hsz := Inl.szL_part l k _ hx
        have hsn := Inl.szL_snoc hx
        obtain ⟨kd, t, d, ti, at_, ar, ci, ks⟩ := x
        obtain ⟨g, off, vc, vp, va, vi, vk, rfl, hok, hbl, hc, hR⟩ := inls_at HS.out hx
        rw [Inl.sz] at hsz hsn
        obtain ⟨ak, nk, ck, rfl⟩ := Rd.slf hR.kids
        have p9 := hc.c9
        have CK := Lib.hid (IH.out (Inl.szL ks) (by omega) ks ok (.slice ak nk ck) w (Nat.le_refl _) (by omega) hR.kids)
        have HM : Hid (m + Inl.szL ks = Inl.szL (l.take (k + 1)) + (l.length - (k + 1))) := by show _ = _; omega
        have hlm : l.length - k ≤ 1000000 := by have := Inl.len_le l; omega
        have hmb : m + Inl.szL ks ≤ 3000000 := by omega
        generalize Inl.szL ks = K at *
        clear hc hR hx hm hsn hsz hlm
        go_wp2_with fail
        refine CK.out.mono ?_
        rintro e w1 ⟨rfl, rfl⟩
        go_wp2
        go_round
        case rel => exact ⟨k + 1, m + K, by omega, by go_num, by go_num, HM.out⟩
        case measure => simp [intOf]; omega
      · obtain rfl : k = l.length := by omega
        have hv : m = Inl.szL l := by rw [hm, List.take_length]; omega
        have HV := Lib.hid hv
        clear hv hm
        go_wp2
        go_ret
        exact ⟨by rw [← HV.out]; rfl, rfl⟩


set_option maxRecDepth 100000 in
set_option maxHeartbeats 4000000 in
theorem sizes_any (n : Nat) : ∀ (l : List Blk) (ok : Nat → Prop) (v : Value) (w : World), Blk.allL l ≤ n → n ≤ 1000000 → Rd ok w (blksD l) [v] →
    Calls Tryz.prog 100 #[v] w (Dr (.int .i64 (Blk.allL l : Nat)) w) := by
  induction n using Nat.strongRecOn with
  | _ n ih =>
    intro l ok v w hn hnm h1
    obtain ⟨a, cap, hv, hs⟩ := Rd.sl_open h1
    obtain rfl : v = .slice a l.length cap := by simpa using hv
    have hcap : l.length ≤ cap := by simpa using hs.le
    have hmx := hs.max
    unfold maxLen at hmx
    have HS := Lib.hid hs
    have IH := Lib.hid ih
    have R0 : Hid (SbRel l w (.int .i64 (l.length : Int)) (.int .i64 0) w) := ⟨0, l.length, 0, Nat.zero_le _, rfl, rfl, by rw [List.take_zero, Blk.allL]; simp, rfl⟩
    clear hs hv h1 ih
    go_enter Tryz.func100, Tryz.ntmps100
    go_wp2
    go_loopw [3, 4] (fun vn vi wr => SbRel l w vn vi wr) (fun _ i _ => l.length - (intOf i).toNat)
    case atStart => exact R0.out
    case round =>
      clear R0
      obtain ⟨k, m, q, hk, rfl, rfl, hm, rfl⟩ := hrel
      by_cases hlt : k < l.length
      · obtain ⟨x, hx⟩ : ∃ x, l[k]? = some x := ⟨_, List.getElem?_eq_getElem hlt⟩
        have hsz := Blk.allL_part l k _ hx
        have hsn := Blk.allL_snoc hx
        obtain ⟨kd, lv, i, t, d, ti, at_, li, ks⟩ := x
        obtain ⟨g, off, vc, vp, vl, vk, rfl, hok, hbl, hc, hR⟩ := blks_at HS.out hx
        rw [Blk.all] at hsz hsn
        obtain ⟨ak, nk, ck, rfl⟩ := Rd.slf hR.kids
        obtain ⟨al, nl, cl, rfl⟩ := Rd.slf hR.line
        have p9 := hc.c9
        have p10 := hc.c10
        have hst : ∀ q, Stays ok ok w (w.drewN q) := fun q b h _ => ⟨h, rfl⟩
        have CL := Lib.hid (fun q => count_any _ li ok (.slice al nl cl) (w.drewN q) (Nat.le_refl _) (by omega) (Rd.keep (hst q) _ _ hR.line))
        have CK := Lib.hid (fun q => IH.out (Blk.allL ks) (by omega) ks ok (.slice ak nk ck) (w.drewN q) (Nat.le_refl _) (by omega) (Rd.keep (hst q) _ _ hR.kids))
        have HM : Hid (m + (Inl.szL li + Blk.allL ks) = Blk.allL (l.take (k + 1)) + (l.length - (k + 1))) := by show _ = _; omega
        have hlm : l.length - k ≤ 1000000 := by have := Blk.len_all l; omega
        have hmb : m + (Inl.szL li + Blk.allL ks) ≤ 3000000 := by omega
        generalize Inl.szL li = L at *
        generalize Blk.allL ks = K at *
        have s1 : IntKind.i64.wrap ((L : Int) + (K : Int)) = (L : Int) + (K : Int) := wrap_id (by omega) (by omega)
        have s2 : IntKind.i64.wrap ((m : Int) + ((L : Int) + (K : Int))) = (m : Int) + ((L : Int) + (K : Int)) := wrap_id (by omega) (by omega)
        clear hc hR hx hm hsn hsz hlm hst
        go_wp2_with fail
        go_quiet ((first | (go_at_call 157; exact q_eq (CL.out _)) | (go_at_call 100; exact q_dr (CK.out _))))
        clear s1 s2
        go_wp2
        go_roundw
        case rel => exact ⟨k + 1, m + (L + K), _, by omega, by go_num, by go_num, HM.out, rfl⟩
        case measure => simp [intOf]; omega
      · obtain rfl : k = l.length := by omega
        have hv : m = Blk.allL l := by rw [hm, List.take_length]; omega
        have HV := Lib.hid hv
        clear hv hm
        go_wp2
        go_ret
        exact ⟨by rw [← HV.out]; rfl, q, rfl⟩


set_option maxRecDepth 100000 in
set_option maxHeartbeats 4000000 in
theorem sizeOfBlocks_any (n : Nat) : ∀ (l : List Blk) (ok : Nat → Prop) (v : Value) (w : World), Blk.allL l ≤ n → n ≤ 1000000 → Rd ok w (blksD l) [v] →
    Calls Tryz.prog 73 #[v] w (Dr (.int .i64 (Blk.allL l : Nat)) w) := by
  induction n using Nat.strongRecOn with
  | _ n ih =>
    intro l ok v w hn hnm h1
    obtain ⟨a, cap, hv, hs⟩ := Rd.sl_open h1
    obtain rfl : v = .slice a l.length cap := by simpa using hv
    have hcap : l.length ≤ cap := by simpa using hs.le
    have hmx := hs.max
    unfold maxLen at hmx
    have HS := Lib.hid hs
    have IH := Lib.hid ih
    have R0 : Hid (SbRel l w (.int .i64 (l.length : Int)) (.int .i64 0) w) := ⟨0, l.length, 0, Nat.zero_le _, rfl, rfl, by rw [List.take_zero, Blk.allL]; simp, rfl⟩
    clear hs hv h1 ih
    go_enter Tryz.func73, Tryz.ntmps73
    go_wp2
    go_loopw [3, 9] (fun vn vi wr => SbRel l w vn vi wr) (fun _ i _ => l.length - (intOf i).toNat)
    case atStart => exact R0.out
    case round =>
      clear R0
      obtain ⟨k, m, q, hk, rfl, rfl, hm, rfl⟩ := hrel
      by_cases hlt : k < l.length
      · obtain ⟨x, hx⟩ : ∃ x, l[k]? = some x := ⟨_, List.getElem?_eq_getElem hlt⟩
        have hsz := Blk.allL_part l k _ hx
        have hsn := Blk.allL_snoc hx
        obtain ⟨kd, lv, i, t, d, ti, at_, li, ks⟩ := x
        obtain ⟨g, off, vc, vp, vl, vk, rfl, hok, hbl, hc, hR⟩ := blks_at HS.out hx
        rw [Blk.all] at hsz hsn
        obtain ⟨ak, nk, ck, rfl⟩ := Rd.slf hR.kids
        obtain ⟨al, nl, cl, rfl⟩ := Rd.slf hR.line
        have p9 := hc.c9
        have p10 := hc.c10
        have hst : ∀ q, Stays ok ok w (w.drewN q) := fun q b h _ => ⟨h, rfl⟩
        have CL := Lib.hid (fun q => sizeOfLine_any _ li ok (.slice al nl cl) (w.drewN q) (Nat.le_refl _) (by omega) (Rd.keep (hst q) _ _ hR.line))
        have CK := Lib.hid (fun q => IH.out (Blk.allL ks) (by omega) ks ok (.slice ak nk ck) (w.drewN q) (Nat.le_refl _) (by omega) (Rd.keep (hst q) _ _ hR.kids))
        have HM : Hid (m + (Inl.szL li + Blk.allL ks) = Blk.allL (l.take (k + 1)) + (l.length - (k + 1))) := by show _ = _; omega
        have hlm : l.length - k ≤ 1000000 := by have := Blk.len_all l; omega
        have hmb : m + (Inl.szL li + Blk.allL ks) ≤ 3000000 := by omega
        generalize Inl.szL li = L at *
        generalize Blk.allL ks = K at *
        have s1 : IntKind.i64.wrap ((L : Int) + (K : Int)) = (L : Int) + (K : Int) := wrap_id (by omega) (by omega)
        have s2 : IntKind.i64.wrap ((m : Int) + ((L : Int) + (K : Int))) = (m : Int) + ((L : Int) + (K : Int)) := wrap_id (by omega) (by omega)
        clear hc hR hx hm hsn hsz hlm hst
        go_wp2_with fail
        go_quiet ((first | (go_at_call 128; exact q_eq (CL.out _)) | (go_at_call 73; exact q_dr (CK.out _))))
        clear s1 s2
        go_wp2
        go_roundw
        case rel => exact ⟨k + 1, m + (L + K), _, by omega, by go_num, by go_num, HM.out, rfl⟩
        case measure => simp [intOf]; omega
      · obtain rfl : k = l.length := by omega
        have hv : m = Blk.allL l := by rw [hm, List.take_length]; omega
        have HV := Lib.hid hv
        clear hv hm
        go_wp2
        go_ret
        exact ⟨by rw [← HV.out]; rfl, q, rfl⟩

end Go.Proofs.YtjobjicdfoklpaaGreatDoor

namespace Go.Proofs.YtjobjicdfoklpaaGreatDoor
open Go.RowKit
set_option linter.unusedVariables false
set_option linter.unusedSimpArgs false

mutual
def Blk.dep : Blk → Nat
  | .mk _ _ _ _ _ _ _ _ ks => 1 + Blk.depL ks
def Blk.depL : List Blk → Nat
  | [] => 0
  | x :: l => max x.dep (Blk.depL l)
end
theorem Blk.depL_app : ∀ (l m : List Blk), Blk.depL (l ++ m) = max (Blk.depL l) (Blk.depL m)
  | [], m => by rw [List.nil_append, Blk.depL]; omega
  | x :: l, m => by rw [List.cons_append, Blk.depL, Blk.depL, Blk.depL_app l m]; omega
theorem Blk.depL_snoc {l : List Blk} {k : Nat} {x : Blk} (hx : l[k]? = some x) : Blk.depL (l.take (k + 1)) = max (Blk.depL (l.take k)) x.dep := by
  rw [List.take_add_one, hx, Blk.depL_app, Option.toList_some, Blk.depL, Blk.depL]; omega
mutual
theorem Blk.dep_sz : ∀ (x : Blk), x.dep ≤ x.sz
  | .mk _ _ _ _ _ _ _ _ ks => by have := Blk.depL_sz ks; rw [Blk.dep, Blk.sz]; omega
theorem Blk.depL_sz : ∀ (l : List Blk), Blk.depL l ≤ Blk.szL l
  | [] => by rw [Blk.depL]; omega
  | x :: l => by have := Blk.dep_sz x; have := Blk.depL_sz l; rw [Blk.depL, Blk.szL]; omega
end
theorem Blk.szL_part (l : List Blk) : ∀ k, Blk.szL (l.take k) ≤ Blk.szL l := by
  intro k
  have h : ∀ (l m : List Blk), Blk.szL (l ++ m) = Blk.szL l + Blk.szL m := by
    intro l m
    induction l with
    | nil => rw [List.nil_append, Blk.szL]; omega
    | cons x l ih => rw [List.cons_append, Blk.szL, Blk.szL, ih]; omega
  have := h (l.take k) (l.drop k)
  rw [List.take_append_drop] at this
  omega
def DpL (l : List Blk) (vn vi : Value) : Prop := ∃ k n : Nat, k ≤ l.length ∧ vi = .int .i64 k ∧ vn = .int .i64 n ∧ n = Blk.depL (l.take k)


set_option maxRecDepth 100000 in
set_option maxHeartbeats 2000000 in
theorem tDepth_any (n : Nat) : ∀ (l : List Blk) (ok : Nat → Prop) (v : Value) (w : World), Blk.szL l ≤ n → n ≤ 1000000 → Rd ok w (blksD l) [v] →
    Calls Tryz.prog 65 #[v] w fun e w' => e = .returned (.int .i64 (Blk.depL l : Nat)) ∧ w = w' := by
  induction n using Nat.strongRecOn with
  | _ n ih =>
    intro l ok v w hn hnm h1
    obtain ⟨a, cap, hv, hs⟩ := Rd.sl_open h1
    obtain rfl : v = .slice a l.length cap := by simpa using hv
    have hcap : l.length ≤ cap := by simpa using hs.le
    have hmx := hs.max
    unfold maxLen at hmx
    have HS := Lib.hid hs
    have IH := Lib.hid ih
    have R0 : Hid (DpL l (.int .i64 0) (.int .i64 0)) := ⟨0, 0, Nat.zero_le _, rfl, rfl, by rw [List.take_zero, Blk.depL]⟩
    clear hs hv h1 ih
    go_enter Tryz.func65, Tryz.ntmps65
    go_wp2
    go_loop [3, 7] (fun vn vi => DpL l vn vi) (fun _ i => l.length - (intOf i).toNat)
    case atStart => exact R0.out
    case round =>
      clear R0
      obtain ⟨k, m, hk, rfl, rfl, hm⟩ := hrel
      by_cases hlt : k < l.length
      · obtain ⟨x, hx⟩ : ∃ x, l[k]? = some x := ⟨_, List.getElem?_eq_getElem hlt⟩
        have hsz := Blk.szL_get l k _ hx
        have hsn := Blk.depL_snoc hx
        have hmb : m ≤ 1000000 := by have h1 := Blk.depL_sz (l.take k); have h2 := Blk.szL_part l k; omega
        obtain ⟨kd, lv, i, t, d, ti, at_, li, ks⟩ := x
        obtain ⟨g, off, vc, vp, vl, vk, rfl, hok, hbl, hc, hR⟩ := blks_at HS.out hx
        rw [Blk.sz] at hsz
        rw [Blk.dep] at hsn
        have hkb : Blk.depL ks ≤ 1000000 := by have h1 := Blk.depL_sz ks; omega
        obtain ⟨ak, nk, ck, rfl⟩ := Rd.slf hR.kids
        have p10 := hc.c10
        have CK := Lib.hid (IH.out (Blk.szL ks) (by omega) ks ok (.slice ak nk ck) w (Nat.le_refl _) (by omega) hR.kids)
        have HM : Hid (Blk.depL (l.take (k + 1)) = max m (1 + Blk.depL ks)) := by show _ = _; rw [hsn, hm]
        generalize Blk.depL ks = K at *
        clear hc hR hx hm hsn hsz
        by_cases hmx2 : m < 1 + K
        · have q1 : decide ((m : Int) < 1 + (K : Int)) = true := by simp; omega
          have HMX : Hid (max m (1 + K) = 1 + K) := by show _ = _; omega
          go_wp2_with fail
          refine CK.out.mono ?_
          rintro e w1 ⟨rfl, rfl⟩
          go_wp2
          go_round
          case rel => exact ⟨k + 1, 1 + K, by omega, by go_num, by first | go_num | (refine congrArg (Value.int .i64) ?_; omega), by rw [HM.out, HMX.out]⟩
          case measure => simp [intOf]; omega
        · have q1 : decide ((m : Int) < 1 + (K : Int)) = false := by simp; omega
          have HMX : Hid (max m (1 + K) = m) := by show _ = _; omega
          go_wp2_with fail
          refine CK.out.mono ?_
          rintro e w1 ⟨rfl, rfl⟩
          go_wp2
          go_round
          case rel => exact ⟨k + 1, m, by omega, by go_num, by first | rfl | (refine congrArg (Value.int .i64) ?_; omega), by rw [HM.out, HMX.out]⟩
          case measure => simp [intOf]; omega
      · obtain rfl : k = l.length := by omega
        have hv : m = Blk.depL l := by rw [hm, List.take_length]
        have HV := Lib.hid hv
        clear hv hm
        go_wp2
        go_ret
        exact ⟨by rw [← HV.out]; rfl, rfl⟩


set_option maxRecDepth 100000 in
theorem rSize_any (l : List Blk) (am ab : Option Addr) (nm cm nb cb : Nat) (w : World) (hn : Blk.allL l ≤ 1000000) (h : Rd (· < w.heap.size) w (blksD l) [.slice ab nb cb]) :
    Calls Tryz.prog 49 #[.agg #[.slice am nm cm, .slice ab nb cb]] w (RetB (.int .i64 (Blk.allL l : Nat)) w) := by
  have hb0 : Below w.heap.size w (w.alloc (.cells #[.slice am nm cm, .slice ab nb cb] 25)) := (Below.refl _ _).alloc (Nat.le_refl _) _
  have SZ := Lib.hid (sizes_any _ l _ _ _ (Nat.le_refl _) hn (h.up hb0))
  have HB := Lib.hid hb0
  generalize Blk.allL l = N at *
  clear h hb0
  go_enter Tryz.func49, Tryz.ntmps49
  go_wp2_with fail
  refine SZ.out.mono ?_
  rintro e w1 ⟨rfl, q, rfl⟩
  go_wp2
  go_ret
  exact ⟨rfl, below_dN HB.out q⟩


set_option maxRecDepth 100000 in
theorem tSize_any (l : List Blk) (am ab : Option Addr) (nm cm nb cb : Nat) (w : World) (hn : Blk.allL l ≤ 1000000) (h : Rd (· < w.heap.size) w (blksD l) [.slice ab nb cb]) :
    Calls Tryz.prog 25 #[.agg #[.slice am nm cm, .slice ab nb cb]] w (RetB (.int .i64 (Blk.allL l : Nat)) w) := by
  have hb0 : Below w.heap.size w (w.alloc (.cells #[.slice am nm cm, .slice ab nb cb] 25)) := (Below.refl _ _).alloc (Nat.le_refl _) _
  have SZ := Lib.hid (sizeOfBlocks_any _ l _ _ _ (Nat.le_refl _) hn (h.up hb0))
  have HB := Lib.hid hb0
  generalize Blk.allL l = N at *
  clear h hb0
  go_enter Tryz.func25, Tryz.ntmps25
  go_wp2_with fail
  refine SZ.out.mono ?_
  rintro e w1 ⟨rfl, q, rfl⟩
  go_wp2
  go_ret
  exact ⟨rfl, below_dN HB.out q⟩

end Go.Proofs.YtjobjicdfoklpaaGreatDoor
