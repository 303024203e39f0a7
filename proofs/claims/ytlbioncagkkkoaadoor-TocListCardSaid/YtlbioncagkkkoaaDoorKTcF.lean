/- Contract of toc.full. -/
import Derived.Test.YtlbioncagkkkoaaDoorKTcL
import Derived.Test.YtlbioncagkkkoaaDoorKPlToc
import Derived.Test.YtlbioncagkkkoaaDoorKMerge
namespace Go.Proofs.YtlbioncagkkkoaaDoor
open Go.RowKit
set_option linter.unusedVariables false
set_option linter.unusedSimpArgs false

theorem fullL_snoc (l : List Inl) (k : Nat) (x : Inl) (h : l[k]? = some x) : fullL (l.take (k + 1)) = fullL (l.take k) ++ if fullB x = true then [x] else [] := by
  unfold fullL
  rw [List.take_add_one, h, List.filter_append]
  simp [List.filter_cons]
theorem fullL_len (l : List Inl) : (fullL l).length ≤ l.length := List.length_filter_le _ _
/-- At the head of the loop: what is collected is a part of the argument's elements. -/
def FuRel (f : List Inl → List Inl) (ok : Nat → Prop) (w wr : World) (l : List Inl) (v vi : Value) : Prop :=
  ∃ (k : Nat) (rows : List (List Value)), k ≤ l.length ∧ vi = .int .i64 k ∧ RowU 38 10 ok wr.heap.size w ((f (l.take k)).map Inl.d) rows v wr
def FuPost (ok : Nat → Prop) (w : World) (l : List Inl) (e : Ending) (w' : World) : Prop := ∃ v, e = .returned v ∧ Rd (fun b => ok b ∨ w.heap.size ≤ b) w' (inlsD l) [v] ∧ Below w.heap.size w w'

set_option maxRecDepth 100000 in
set_option maxHeartbeats 8000000 in
theorem full_any0 (l : List Inl) (ok : Nat → Prop) (v : Value) (w : World) (hn : l.length ≤ 1000000) (hrd : Rd ok w (inlsD l) [v]) (hB : ∀ b, ok b → b < w.heap.size) :
    Calls Tryd.prog 50 #[v] w (FuPost ok w (fullL l)) := by
    obtain ⟨iI, hiI, hzI0, hzI1, hzI2⟩ := info_parts infoIn
    obtain ⟨a, cap, hv, hs⟩ := Rd.sl_open hrd
    obtain rfl : v = .slice a l.length cap := by simpa using hv
    have hcap : l.length ≤ cap := by simpa using hs.le
    have hmx := hs.max
    have HS := Lib.hid hs
    have HB := Lib.hid hB
    have R0 := Lib.hid (show FuRel fullL ok w w l (.slice none 0 0) (.int .i64 0) from ⟨0, [], Nat.zero_le _, rfl, RowU.nil _ _ _ _⟩)
    clear hs hv hrd hB
    unfold maxLen at hmx
    go_enter Tryd.func50, Tryd.ntmps50
    go_wp2
    go_loopw [3, 8] (fun v vi wr => FuRel fullL ok w wr l v vi) (fun _ i _ => l.length - (intOf i).toNat)
    case atStart => exact R0.out
    case round =>
      clear R0
      obtain ⟨k, rows, hk, rfl, hrow⟩ := hrel
      obtain ⟨ds, hds⟩ : ∃ ds, ds = (fullL (l.take k)).map Inl.d := ⟨_, rfl⟩
      rw [← hds] at hrow
      obtain ⟨m, hm⟩ : ∃ m, m = ds.length := ⟨_, rfl⟩
      have hmk : m ≤ k := by rw [hm, hds, List.length_map]; have := fullL_len (l.take k); simp at this; omega
      have HDN := Lib.hid hm.symm
      have HDS := Lib.hid hds
      obtain ⟨av, cv, rfl, -, -⟩ := hrow.cap hm.symm
      have HROW := Lib.hid hrow
      have hbel := hrow.bel
      clear hrow hm hds
      by_cases hlt : k < l.length
      · obtain ⟨x, hx⟩ : ∃ x, l[k]? = some x := ⟨_, List.getElem?_eq_getElem hlt⟩
        have HX := Lib.hid (fullL_snoc l k x hx)
        have HFB : Hid (fullB x = (!decide (x.kd = 1) || !emptyS x.tx)) := rfl
        obtain ⟨kd, t, d, ti, at_, ar, ci, ks⟩ := x
        change Hid (fullB (Inl.mk kd t d ti at_ ar ci ks) = (!decide (kd = 1) || !emptyS t)) at HFB
        obtain ⟨g, off, vc, vp, va, vi, vk, rfl, hok, hbl, hc, hR⟩ := inls_at (HS.out.up0 hbel) hx
        obtain ⟨c0, c1, c2, c3, c4, c5, c6, c7, c8, c9⟩ := hc
        obtain ⟨ac, nc, cc, rfl⟩ := Rd.sl_form hR.at_.cls
        obtain ⟨ap, np, cp, rfl⟩ := Rd.sl_form hR.at_.prs
        obtain ⟨aa, na, ca, rfl⟩ := Rd.sl_form hR.args
        obtain ⟨ai, ni, ci', rfl⟩ := Rd.sl_form hR.cites
        obtain ⟨ak, nk, ck, rfl⟩ := Rd.sl_form hR.kids
        obtain ⟨p, hp⟩ : ∃ p, p = wr.heap.size := ⟨_, rfl⟩
        obtain ⟨wA, hwA⟩ : ∃ wA, wA = wr.alloc (.cells #[.int .i64 kd, .string t, .string d, .string ti, .string at_.id, .slice ac nc cc, .slice ap np cp, .slice aa na ca, .slice ai ni ci', .slice ak nk ck] 38) := ⟨_, rfl⟩
        have PA : PB p [.int .i64 kd, .string t, .string d, .string ti, .string at_.id, .slice ac nc cc, .slice ap np cp, .slice aa na ca, .slice ai ni ci', .slice ak nk ck] wA := by rw [hwA, hp]; exact heap_alloc_new wr _
        have UA := Lib.hid (show RowU 38 10 ok p w ds rows (.slice av m cv) wA by rw [hwA, hp]; exact HROW.out.alloc _)
        have HIN := Lib.hid (show Rd (fun b => ok b ∨ p ≤ b) wA (Inl.mk kd t d ti at_ ar ci ks).d [.int .i64 kd, .string t, .string d, .string ti, .string at_.id, .slice ac nc cc, .slice ap np cp, .slice aa na ca, .slice ai ni ci', .slice ak nk ck] from Rd.keep (fun b hb hlt => ⟨.inl hb, by rw [hwA]; exact Below.heap_alloc _ _ b hlt⟩) _ _ (Inl.mk_ kd t d ti hR))
        clear hR hx hbel hok hbl
        go_upto_region 5 with (fail)
        rw [← hwA, ← hp]
        obtain ⟨e0, e1, e2, e3, e4, e5, e6, e7, e8, e9, ef⟩ := PA.all
        clear hwA hp HROW c0 c1 c2 c3 c4 c5 c6 c7 c8 c9 PA
        have hdl : m ≤ 10000000 := by omega
        by_cases h1 : kd = 1
        · subst h1
          have q1 : ((1 : Int) != 1) = false := rfl
          by_cases h2 : emptyS t = true
          · have q2 : (!t.toList.isEmpty) = false := by rw [emp_eq0, h2]; rfl
            rw [HFB.out, h2, if_neg (by simp), List.append_nil] at HX
            have HR2 := Lib.hid (show RowU 38 10 ok wA.heap.size w ((fullL (l.take (k + 1))).map Inl.d) rows (.slice av m cv) wA by rw [HX.out, ← HDS.out]; exact UA.out.top)
            clear h2 HFB HX
            go_wp2
            go_roundw
            case rel => exact ⟨k + 1, _, by omega, by go_num, HR2.out⟩
            case measure => simp [intOf]; omega
          · have h2' : emptyS t = false := by simpa using h2
            have q2 : (!t.toList.isEmpty) = true := by rw [emp_eq0, h2']; rfl
            rw [HFB.out, h2', if_pos (by simp)] at HX
            have HX2 := Lib.hid (show (fullL (l.take (k + 1))).map Inl.d = ds ++ [(Inl.mk 1 t d ti at_ ar ci ks).d] by rw [HX.out, HDS.out, List.map_append]; rfl)
            clear h2 h2' HFB HX
            go_wp2_with (at_builtin; refine wpList_put rfl _ _ 33 rfl iI _ 192 Tryd.underlying33 hiI hzI0 hzI1 hzI2 rfl (by decide) UA.out HB.out (Inl.mk 1 t d ti at_ ar ci ks).d [.int .i64 1, .string t, .string d, .string ti, .string at_.id, .slice ac nc cc, .slice ap np cp, .slice aa na ca, .slice ai ni ci', .slice ak nk ck] HIN.out rfl one_ten HDN.out hdl (by decide) rfl rfl ?_)
            intro a' c' w5 hrow hg5
            have HROW := Lib.hid hrow
            rw [← HX2.out] at HROW
            clear hrow hg5
            go_wp2
            go_roundw
            case rel => exact ⟨k + 1, _, by omega, by go_num, HROW.out⟩
            case measure => simp [intOf]; omega
        · have q1 : (kd != 1) = true := neg_kd h1
          rw [HFB.out, decide_eq_false h1, if_pos (by simp)] at HX
          have HX2 := Lib.hid (show (fullL (l.take (k + 1))).map Inl.d = ds ++ [(Inl.mk kd t d ti at_ ar ci ks).d] by rw [HX.out, HDS.out, List.map_append]; rfl)
          clear h1 HFB HX
          go_wp2_with (at_builtin; refine wpList_put rfl _ _ 33 rfl iI _ 192 Tryd.underlying33 hiI hzI0 hzI1 hzI2 rfl (by decide) UA.out HB.out (Inl.mk kd t d ti at_ ar ci ks).d [.int .i64 kd, .string t, .string d, .string ti, .string at_.id, .slice ac nc cc, .slice ap np cp, .slice aa na ca, .slice ai ni ci', .slice ak nk ck] HIN.out rfl one_ten HDN.out hdl (by decide) rfl rfl ?_)
          intro a' c' w5 hrow hg5
          have HROW := Lib.hid hrow
          rw [← HX2.out] at HROW
          clear hrow hg5
          go_wp2
          go_roundw
          case rel => exact ⟨k + 1, _, by omega, by go_num, HROW.out⟩
          case measure => simp [intOf]; omega
      · have hkl : k = l.length := by omega
        subst hkl
        rw [HDS.out, List.take_length] at HROW
        go_wp2
        go_ret
        exact ⟨_, rfl, HROW.out.rd, hbel⟩
theorem FuPost.inside {ok : Nat → Prop} {w : World} {l : List Inl} {e : Ending} {w' : World} (h : FuPost (fun b => ok b ∧ b < w.heap.size) w l e w') : FuPost ok w l e w' := by
  obtain ⟨v, h1, h2, h3⟩ := h
  exact ⟨v, h1, h2.weaken (fun b hb => hb.imp And.left id), h3⟩
theorem full_any (l : List Inl) (ok : Nat → Prop) (v : Value) (w : World) (hn : l.length ≤ 1000000) (hrd : Rd ok w (inlsD l) [v]) :
    Calls Tryd.prog 50 #[v] w (FuPost ok w (fullL l)) :=
  (full_any0 l _ v w hn hrd.inside (fun _ h => h.2)).mono fun _ _ h => h.inside
end Go.Proofs.YtlbioncagkkkoaaDoor
