/- The contract of publisherref04.Merge, whatever blocks the inlines lead to. -/
import Derived.Test.YtlbioncagkkkoaaGreatDoorKInlsW
import Derived.Test.YtlbioncagkkkoaaGreatDoorKMerge
import Derived.Test.YtlbioncagkkkoaaGreatDoorKRowU
import Derived.RegionTactic
namespace Go.Proofs.YtlbioncagkkkoaaGreatDoor
open Go.RowKit
set_option linter.unusedVariables false
set_option linter.unusedSimpArgs false

/-- What has been collected; what it leads to lies below B or is new. -/
structure ColO (ok : Nat → Prop) (w : World) (acc : List Inl) (v : Value) (rows : List (List Value)) (wr : World) : Prop where
  own : wr.ownsRow w.heap.size 47 10 v acc.length rows.flatten
  red : RdL (fun b => (ok b ∨ w.heap.size ≤ b) ∧ v.ownBlock ≠ some b) wr (acc.map Inl.d) rows
  len : ∀ r ∈ rows, r.length = 10
  bel : Below w.heap.size w wr
theorem ColO.grown {ok : Nat → Prop} {w : World} {acc : List Inl} {v : Value} {rows : List (List Value)} {wr w' : World} (h : ColO ok w acc v rows wr) (hg : wr.grownBy w' none) : ColO ok w acc v rows w' :=
  ⟨h.own.kept hg (by cases v.ownBlock <;> simp), RdL.keep (fun b hb hlt => ⟨hb, hg.block b hlt (by simp)⟩) _ _ h.red, h.len, h.bel.grown hg h.bel.size (by simp)⟩
theorem ColO.push {ok : Nat → Prop} {w w2 w7 : World} {acc : List Inl} {v v' : Value} {rows : List (List Value)} {x : Inl} {cs : List Value} {S : Nat} {o : Obj} (h : ColO ok w acc v rows w2) (hS : ∀ g, v.ownBlock = some g → g < S) (hwS : w.heap.size ≤ S) (hBw : ∀ b, ok b → b < w.heap.size)
    (hx : Rd (fun b => ok b ∨ S ≤ b) w2 x.d cs) (hl : cs.length = 10) (hown : w7.ownsRow w.heap.size 47 10 v' (acc.length + 1) (rows.flatten ++ cs)) (hg : (w2.alloc o).grownBy w7 v.ownBlock)
    (hat : v'.ownBlock = v.ownBlock ∨ v'.ownBlock = some (w2.heap.size + 1)) : ColO ok w (acc ++ [x]) v' (rows ++ [cs]) w7 := by
  have hv' : ∀ b, b < w2.heap.size → v.ownBlock ≠ some b → v'.ownBlock ≠ some b := by
    intro b hb hne
    rcases hat with e | e
    · rw [e]; exact hne
    · rw [e]; intro h; have := Option.some.inj h; omega
  have hh : ∀ b, b < w2.heap.size → v.ownBlock ≠ some b → w7.heap[b]? = w2.heap[b]? := fun b hb hne =>
    (hg.block b (by rw [World.size_alloc]; omega) (fun e => hne e.symm)).trans (Below.heap_alloc _ _ b hb)
  refine ⟨?_, ?_, ?_, below_app h.bel h.bel.size h.own hg⟩
  · rw [List.length_append, List.flatten_append]; simpa using hown
  · rw [List.map_append]
    refine RdL.app (RdL.keep (fun b hb hlt' => ⟨⟨hb.1, hv' b hlt' hb.2⟩, hh b hlt' hb.2⟩) _ _ h.red) (RdL.one ?_)
    refine Rd.keep (fun b hb hlt' => ?_) _ _ hx
    have hne : v.ownBlock ≠ some b := fun e => by
      have h1 := hS b e
      have h2 := (h.own.lt b e).1
      rcases hb with hb | hb
      · have := hBw b hb; omega
      · omega
    exact ⟨⟨hb.imp id (fun h => by omega), hv' b hlt' hne⟩, hh b hlt' hne⟩
  · intro r hr
    rcases List.mem_append.1 hr with hr | hr
    · exact h.len r hr
    · simp at hr; subst hr; exact hl
theorem RdL.take_appO {ok : Nat → Prop} {w : World} : ∀ (l m : List D) (rows : List (List Value)), RdL ok w (l ++ m) rows → RdL ok w l (rows.take l.length)
  | [], m, rows, _ => by simp; exact RdL.none
  | d :: l, m, rows, h => by
      obtain ⟨r, rs, rfl, h1, h2⟩ := RdL.cons_open (show RdL ok w (d :: (l ++ m)) rows from h)
      exact RdL.cons h1 (RdL.take_appO l m rs h2)
/-- The text of the last collected one grows in place. -/
theorem ColO.join {ok : Nat → Prop} {w w3 : World} {a0 : List Inl} {ky : Int} {ty dy tiy : ByteArray} {aty : At} {ary : List ByteArray} {ciy : List Ci} {ksy : List Inl} {rows : List (List Value)} {g2 cap2 : Nat} {vcy vpy vay viy vky : Value} (t : ByteArray)
    (h : ColO ok w (a0 ++ [Inl.mk ky ty dy tiy aty ary ciy ksy]) (.slice (some ⟨g2, 0, none⟩) (a0.length + 1) cap2) rows w3)
    (hr : rows[a0.length]? = some [.int .i64 ky, .string ty, .string dy, .string tiy, .string aty.id, vcy, vpy, vay, viy, vky])
    (hRy : InR (fun b => (ok b ∨ w.heap.size ≤ b) ∧ (Value.slice (some ⟨g2, 0, none⟩) (a0.length + 1) cap2).ownBlock ≠ some b) w3 aty ary ciy ksy vcy vpy vay viy vky) :
    ColO ok w (a0 ++ [Inl.mk ky (ty ++ t) dy tiy aty ary ciy ksy]) (.slice (some ⟨g2, 0, none⟩) (a0.length + 1) cap2) (rows.take a0.length ++ [[.int .i64 ky, .string (ty ++ t), .string dy, .string tiy, .string aty.id, vcy, vpy, vay, viy, vky]])
      ((w3.drew).setCell ⟨g2, a0.length * 10 + 1, none⟩ (.string (ty ++ t))) := by
  have hrl : rows.length = a0.length + 1 := by rw [h.red.len]; simp
  have hrows : rows = rows.take a0.length ++ [[.int .i64 ky, .string ty, .string dy, .string tiy, .string aty.id, vcy, vpy, vay, viy, vky]] := by
    have h1 := List.take_append_drop a0.length rows
    rw [List.drop_eq_getElem_cons (by omega), List.drop_eq_nil_of_le (by omega)] at h1
    have h2 := hr
    rw [List.getElem?_eq_getElem (by omega)] at h2
    rw [Option.some.inj h2] at h1
    exact h1.symm
  have htk : (rows.take a0.length).flatten.length = a0.length * 10 := by
    have h2 : ∀ (L : List (List Value)), (∀ r ∈ L, r.length = 10) → L.flatten.length = L.length * 10 := by
      intro L
      induction L with
      | nil => intro _; rfl
      | cons r L ih => intro hL; rw [List.flatten_cons, List.length_append, hL r (by simp), ih (fun r hr => hL r (by simp [hr])), List.length_cons]; omega
    rw [h2 _ (fun r hr => h.len r (List.mem_of_mem_take hr)), List.length_take, hrl, Nat.min_eq_left (by omega)]
  have ho := h.own
  have hlen1 : (a0 ++ [Inl.mk ky ty dy tiy aty ary ciy ksy]).length = a0.length + 1 := by simp
  have hg := (ho.lt g2 rfl).1
  have hst : ∀ b, g2 ≠ b → ((w3.drew).setCell ⟨g2, a0.length * 10 + 1, none⟩ (.string (ty ++ t))).heap[b]? = w3.heap[b]? := fun b hb => Below.heap_setCell w3.drew ⟨g2, a0.length * 10 + 1, none⟩ _ b (fun e => hb e.symm)
  have hne : ∀ b, (Value.slice (some ⟨g2, 0, none⟩) (a0.length + 1) cap2).ownBlock ≠ some b → g2 ≠ b := fun b hb e => hb (by rw [← e]; rfl)
  refine ⟨?_, ?_, ?_, h.bel.drew.setCell (p := ⟨g2, a0.length * 10 + 1, none⟩) hg _⟩
  · rw [hlen1, hrows, List.flatten_append, List.flatten_singleton] at ho
    have := stored_at (w := w3.drew) ho.drew htk 1 (.string (ty ++ t))
    rw [List.flatten_append, List.flatten_singleton]
    have hl2 : (a0 ++ [Inl.mk ky (ty ++ t) dy tiy aty ary ciy ksy]).length = a0.length + 1 := by simp
    rw [hl2]
    exact this
  · rw [List.map_append]
    have hk : Stays (fun b => (ok b ∨ w.heap.size ≤ b) ∧ (Value.slice (some ⟨g2, 0, none⟩) (a0.length + 1) cap2).ownBlock ≠ some b) (fun b => (ok b ∨ w.heap.size ≤ b) ∧ (Value.slice (some ⟨g2, 0, none⟩) (a0.length + 1) cap2).ownBlock ≠ some b) w3 ((w3.drew).setCell ⟨g2, a0.length * 10 + 1, none⟩ (.string (ty ++ t))) := fun b hb _ => ⟨hb, hst b (hne b hb.2)⟩
    refine RdL.app ?_ (RdL.one (Inl.mk_ ky (ty ++ t) dy tiy ⟨⟨Rd.keep hk _ _ hRy.at_.cls, Rd.keep hk _ _ hRy.at_.prs⟩, Rd.keep hk _ _ hRy.args, Rd.keep hk _ _ hRy.cites, Rd.keep hk _ _ hRy.kids⟩))
    have h1 := h.red
    rw [List.map_append] at h1
    have h2 := RdL.take_appO _ _ _ h1
    rw [List.length_map] at h2
    exact RdL.keep hk _ _ h2
  · intro r hr
    rcases List.mem_append.1 hr with hr | hr
    · exact h.len r (List.mem_of_mem_take hr)
    · simp at hr; subst hr; rfl
def RmRelO (ok : Nat → Prop) (w : World) (l : List Inl) (v vi : Value) (wr : World) : Prop :=
  ∃ (k : Nat) (rows : List (List Value)), k ≤ l.length ∧ vi = .int .i64 k ∧ ColO ok w (Inl.mergeL (l.take k)) v rows wr ∧ ∀ y ∈ Inl.mergeL (l.take k), y.tx.size ≤ k * 100000
def RmPostO (ok : Nat → Prop) (w : World) (l : List Inl) (e : Ending) (w' : World) : Prop := ∃ v, e = .returned v ∧ Rd (fun b => ok b ∨ w.heap.size ≤ b) w' (inlsD l) [v] ∧ Below w.heap.size w w'
theorem bound_pushO {acc : List Inl} {x : Inl} {k : Nat} (h : ∀ y ∈ acc, y.tx.size ≤ k * 100000) (hx : x.tx.size ≤ 100000) : ∀ y ∈ acc ++ [x], y.tx.size ≤ (k + 1) * 100000 := by
  intro y hy
  rcases List.mem_append.1 hy with h1 | h1
  · exact Nat.le_trans (h y h1) (Nat.mul_le_mul_right 100000 (Nat.le_succ k))
  · have h1 := List.mem_singleton.1 h1; subst h1; exact Nat.le_trans hx (Nat.le_mul_of_pos_left 100000 (Nat.succ_pos k))
theorem emp_eq1O (s : ByteArray) : s.toList.isEmpty = emptyS s := by
  rw [Lib.toList_data, Bool.eq_iff_iff, List.isEmpty_iff, emptyS, decide_eq_true_iff]


set_option maxRecDepth 100000 in
set_option maxHeartbeats 1500000 in
theorem rMergeO_any (n : Nat) : ∀ (l : List Inl) (ok : Nat → Prop) (v : Value) (w : World), Inl.szL l ≤ n → n ≤ 1000000 → Rd ok w (inlsD l) [v] → (∀ b, ok b → b < w.heap.size) → Inl.txBL l →
    Calls Tryz.prog 100 #[v] w (RmPostO ok w (Inl.mergeL l)) := by
  induction n using Nat.strongRecOn with
  | _ n ih =>
    intro l ok v w hn hnm hrd hB htx
    have HTX := Lib.hid htx
    clear htx
    obtain ⟨iI, hiI, hzI0, hzI1, hzI2⟩ := info_parts infoIn
    obtain ⟨a, cap, hv, hs⟩ := Rd.sl_open hrd
    obtain rfl : v = .slice a l.length cap := by simpa using hv
    have hcap : l.length ≤ cap := by simpa using hs.le
    have hll := Inl.len_le l
    have hmx := hs.max
    unfold maxLen at hmx
    have HS := Lib.hid hs
    have IH := Lib.hid ih
    have R0 : Hid (RmRelO ok w l (.slice none 0 0) (.int .i64 0) w) := ⟨0, [], Nat.zero_le _, rfl, ⟨nil_owns _ _ _ _, RdL.none, by simp, Below.refl _ _⟩, fun y hy => (by cases hy)⟩
    clear hs hv hrd ih
    go_enter Tryz.func100, Tryz.ntmps100
    go_wp2
    go_loopw [3, 4] (fun v vi wr => RmRelO ok w l v vi wr) (fun _ i _ => l.length - (intOf i).toNat)
    case atStart => exact R0.out
    case round =>
      clear R0
      obtain ⟨k, rows, hk, rfl, hco, htb⟩ := hrel
      have hol : (Inl.mergeL (l.take k)).length ≤ k := by
        have := mergeA_len (l.take k) []
        unfold Inl.mergeL
        simp only [List.length_nil, List.length_take] at this
        omega
      obtain ⟨acc, hout⟩ : ∃ acc, acc = Inl.mergeL (l.take k) := ⟨_, rfl⟩
      have HOUT := Lib.hid hout
      rw [← hout] at hco hol htb
      have HTB := Lib.hid htb
      clear htb
      obtain ⟨av, cv, rfl⟩ := own_slice hco.own
      have HCO := Lib.hid hco
      clear hco hout
      by_cases hlt : k < l.length
      · obtain ⟨x, hx⟩ : ∃ x, l[k]? = some x := ⟨_, List.getElem?_eq_getElem hlt⟩
        obtain ⟨kd, t, d, ti, at_, ar, ci, ks⟩ := x
        obtain ⟨g, off, vc, vp, va, vi, vk, rfl, hok, hbl, hc, hR⟩ := inls_at (HS.out.up0 HCO.out.bel) hx
        obtain ⟨aa, na, ca, rfl⟩ := Rd.sl_form hR.args
        obtain ⟨ai, ni, cai, rfl⟩ := Rd.sl_form hR.cites
        obtain ⟨ac, nc, cc, rfl⟩ := Rd.sl_form hR.at_.cls
        obtain ⟨ap, np, cp, rfl⟩ := Rd.sl_form hR.at_.prs
        obtain ⟨ak, nk, ck, rfl⟩ := Rd.sl_form hR.kids
        have ht1 := Inl.txBL_get l k _ HTX.out hx
        rw [Inl.txB] at ht1
        have hts := ht1.1
        have hsz := Inl.szL_get l k _ hx
        rw [Inl.sz] at hsz
        obtain ⟨c0, c1, c2, c3, c4, c5, c6, c7, c8, c9⟩ := hc
        have hbw := HCO.out.bel.size
        obtain ⟨wA, hwA⟩ : ∃ wA, wA = wr.alloc (.cells #[.int .i64 kd, .string t, .string d, .string ti, .string at_.id, .slice ac nc cc, .slice ap np cp, .slice aa na ca, .slice ai ni cai, .slice ak nk ck] 47) := ⟨_, rfl⟩
        have PA : PB wr.heap.size [.int .i64 kd, .string t, .string d, .string ti, .string at_.id, .slice ac nc cc, .slice ap np cp, .slice aa na ca, .slice ai ni cai, .slice ak nk ck] wA := by rw [hwA]; exact heap_alloc_new wr _
        have bA : Below wr.heap.size wr wA := by rw [hwA]; exact (Below.refl _ _).alloc (Nat.le_refl _) _
        have hzA : wA.heap.size = wr.heap.size + 1 := by rw [hwA]; simp
        have RM := Lib.hid (IH.out (Inl.szL ks) (by omega) ks ok (.slice ak nk ck) wA (Nat.le_refl _) (by omega) (hR.kids.up0 bA) (fun b hb => by have := hB b hb; omega) ht1.2)
        have HM0 : Hid (Inl.mergeL (l.take (k + 1)) = addM acc (Inl.mk kd t d ti at_ ar ci (Inl.mergeL ks))) := by
          show _ = _
          rw [mergeL_snoc hx, ← HOUT.out, Inl.mergeX]; rfl
        have HR := Lib.hid hR
        have BA := Lib.hid bA
        have HPA := Lib.hid PA
        have p9 := PA.cell 9 _ rfl
        clear hx hR hok hbl bA PA ht1
        go_upto_region 6 with (fail)
        rw [← hwA]
        clear hwA c0 c1 c2 c3 c4 c5 c6 c7 c8 c9
        go_wp2_with fail
        refine RM.out.mono ?_
        rintro e w2 ⟨vk1, rfl, hk1, b2⟩
        obtain ⟨ak1, nk1, ck1, rfl⟩ := Rd.sl_form hk1
        have P2 := HPA.out.grown (grown_below b2)
        have HP2 := Lib.hid P2
        have p9 := P2.cell 9 _ rfl
        have f9 := P2.free 9
        have BW2 := Lib.hid (below_trans_size BA.out b2)
        have HK1 := Lib.hid hk1
        clear P2 HPA hk1 RM
        go_upto_region 7 with (fail)
        obtain ⟨w3, hw3⟩ : ∃ w3, w3 = w2.setCell ⟨wr.heap.size, 9, none⟩ (.slice ak1 nk1 ck1) := ⟨_, rfl⟩
        have P3 : PB wr.heap.size [.int .i64 kd, .string t, .string d, .string ti, .string at_.id, .slice ac nc cc, .slice ap np cp, .slice aa na ca, .slice ai ni cai, .slice ak1 nk1 ck1] w3 := by rw [hw3]; exact HP2.out.set 9 _
        have BW3 : Below wr.heap.size wr w3 := by rw [hw3]; exact BW2.out.setCell (p := ⟨wr.heap.size, 9, none⟩) (Nat.le_refl _) _
        have HC3 := Lib.hid (HCO.out.grown (grown_below BW3))
        have IN3 : Hid (InR (fun b => ok b ∨ wr.heap.size ≤ b) w3 at_ ar ci (Inl.mergeL ks) (.slice ac nc cc) (.slice ap np cp) (.slice aa na ca) (.slice ai ni cai) (.slice ak1 nk1 ck1)) := by
          have hk0 : ∀ b, ok b → b < wr.heap.size → (ok b ∨ wr.heap.size ≤ b) ∧ w3.heap[b]? = wr.heap[b]? := fun b h1 h2 => ⟨.inl h1, BW3.block b h2⟩
          refine ⟨⟨Rd.keep hk0 _ _ HR.out.at_.cls, Rd.keep hk0 _ _ HR.out.at_.prs⟩, Rd.keep hk0 _ _ HR.out.args, Rd.keep hk0 _ _ HR.out.cites, ?_⟩
          refine Rd.keep (fun b h1 h2 => ⟨h1.imp id (fun h => by omega), ?_⟩) _ _ HK1.out
          rw [hw3]; exact Below.heap_setCell w2 ⟨wr.heap.size, 9, none⟩ _ b (by show b ≠ wr.heap.size; rcases h1 with h1 | h1; have := hB b h1; omega; omega)
        rw [← hw3]
        have hz3 := BW3.size
        have HBW3 := Lib.hid BW3

        have e0 := P3.cell 0 _ rfl
        have e1 := P3.cell 1 _ rfl
        have e2 := P3.cell 2 _ rfl
        have e3 := P3.cell 3 _ rfl
        have e4 := P3.cell 4 _ rfl
        have e5 := P3.cell 5 _ rfl
        have e6 := P3.cell 6 _ rfl
        have e7 := P3.cell 7 _ rfl
        have e8 := P3.cell 8 _ rfl
        have e9 := P3.cell 9 _ rfl
        clear hw3 p9 f9 HP2 P3 BW3
        by_cases hkd : kd = 1
        case neg =>
          have hke := beq_false_of_ne hkd
          have HM : Hid (Inl.mergeL (l.take (k + 1)) = acc ++ [Inl.mk kd t d ti at_ ar ci (Inl.mergeL ks)]) := by show _ = _; rw [HM0.out, addM_not acc (Inl.mk kd t d ti at_ ar ci (Inl.mergeL ks)) hkd]
          clear hkd
          go_wp2_with (at_builtin; refine wpList_append_any _ rfl (.tmp 61) (.tmp 63) 38 rfl w.heap.size 47 iI _ 10 192 Tryz.underlying38 hiI hzI0 hzI1 hzI2 rfl (by decide) (.slice av acc.length cv) acc.length rows.flatten rfl (HC3.out.own.alloc _) (w3.heap.size + 1) (some ⟨w3.heap.size, 0, none⟩) 1 1 [.int .i64 kd, .string t, .string d, .string ti, .string at_.id, .slice ac nc cc, .slice ap np cp, .slice aa na ca, .slice ai ni cai, .slice ak1 nk1 ck1] rfl ?g1 ?g2 ?g3 ?g4 ?g5 ?_)
          case g1 => exact ⟨rfl, fun _ => ⟨_, rfl, by simp, new_cells w3 [.int .i64 kd, .string t, .string d, .string ti, .string at_.id, .slice ac nc cc, .slice ap np cp, .slice aa na ca, .slice ai ni cai, .slice ak1 nk1 ck1] _⟩⟩
          case g2 => intro u hu; simp at hu; rcases hu with rfl | rfl | rfl | rfl | rfl | rfl | rfl | rfl | rfl | rfl <;> rfl
          case g3 => unfold maxLen; omega
          case g4 => omega
          case g5 => simp; omega
          intro v' w7 hown' hgrow hat
          have P7 := Lib.hid (HC3.out.push (x := Inl.mk kd t d ti at_ ar ci (Inl.mergeL ks)) (S := wr.heap.size) (cs := [.int .i64 kd, .string t, .string d, .string ti, .string at_.id, .slice ac nc cc, .slice ap np cp, .slice aa na ca, .slice ai ni cai, .slice ak1 nk1 ck1]) (fun g hg => (HCO.out.own.lt g hg).2) HCO.out.bel.size hB (Inl.mk_ kd t d ti IN3.out) rfl hown' hgrow (by simpa using hat))
          clear hown' hgrow hat
          go_wp2
          go_roundw
          case rel => exact ⟨k + 1, _, by omega, by go_num, by rw [HM.out]; exact P7.out, by rw [HM.out]; exact bound_pushO HTB.out hts⟩
          case measure => simp [intOf]; omega
        subst hkd
        cases het : emptyS t with
        | true =>
          have hie : t.toList.isEmpty = true := by rw [emp_eq1O]; exact het
          have HM : Hid (Inl.mergeL (l.take (k + 1)) = acc) := by show _ = _; rw [HM0.out, addM_empty acc (Inl.mk 1 t d ti at_ ar ci (Inl.mergeL ks)) rfl het]
          clear het
          go_wp2
          go_roundw
          case rel => exact ⟨k + 1, _, by omega, by go_num, by rw [HM.out]; exact HC3.out, by rw [HM.out]; exact fun y hy => Nat.le_trans (HTB.out y hy) (Nat.mul_le_mul_right 100000 (Nat.le_succ k))⟩
          case measure => simp [intOf]; omega
        | false =>
          have hie : t.toList.isEmpty = false := by rw [emp_eq1O]; exact het
          rcases List.eq_nil_or_concat acc with hnil | ⟨a0, y, hcat⟩
          · subst hnil
            have HM : Hid (Inl.mergeL (l.take (k + 1)) = [] ++ [Inl.mk 1 t d ti at_ ar ci (Inl.mergeL ks)]) := by
              show _ = _
              rw [HM0.out, addM_first [] (Inl.mk 1 t d ti at_ ar ci (Inl.mergeL ks)) rfl het (fun y hy => by simp at hy)]
            clear het
            go_wp2_with (at_builtin; refine wpList_append_any _ rfl (.tmp 61) (.tmp 63) 38 rfl w.heap.size 47 iI _ 10 192 Tryz.underlying38 hiI hzI0 hzI1 hzI2 rfl (by decide) (.slice av ([] : List Inl).length cv) ([] : List Inl).length rows.flatten rfl (HC3.out.own.alloc _) (w3.heap.size + 1) (some ⟨w3.heap.size, 0, none⟩) 1 1 [.int .i64 1, .string t, .string d, .string ti, .string at_.id, .slice ac nc cc, .slice ap np cp, .slice aa na ca, .slice ai ni cai, .slice ak1 nk1 ck1] rfl ?g1 ?g2 ?g3 ?g4 ?g5 ?_)
            case g1 => exact ⟨rfl, fun _ => ⟨_, rfl, by simp, new_cells w3 [.int .i64 1, .string t, .string d, .string ti, .string at_.id, .slice ac nc cc, .slice ap np cp, .slice aa na ca, .slice ai ni cai, .slice ak1 nk1 ck1] _⟩⟩
            case g2 => intro u hu; simp at hu; rcases hu with rfl | rfl | rfl | rfl | rfl | rfl | rfl | rfl | rfl | rfl <;> rfl
            case g3 => unfold maxLen; omega
            case g4 => omega
            case g5 => simp; omega
            intro v' w7 hown' hgrow hat
            have P7 := Lib.hid (HC3.out.push (x := Inl.mk 1 t d ti at_ ar ci (Inl.mergeL ks)) (S := wr.heap.size) (cs := [.int .i64 1, .string t, .string d, .string ti, .string at_.id, .slice ac nc cc, .slice ap np cp, .slice aa na ca, .slice ai ni cai, .slice ak1 nk1 ck1]) (fun g hg => (HCO.out.own.lt g hg).2) HCO.out.bel.size hB (Inl.mk_ 1 t d ti IN3.out) rfl hown' hgrow (by simpa using hat))
            clear hown' hgrow hat
            go_wp2
            go_roundw
            case rel => exact ⟨k + 1, _, by omega, by go_num, by rw [HM.out]; exact P7.out, by rw [HM.out]; exact bound_pushO HTB.out hts⟩
            case measure => simp [intOf]; omega
          · obtain ⟨m, hm⟩ : ∃ m, m = a0.length := ⟨_, rfl⟩
            have hcat' : acc = a0 ++ [y] := by simpa using hcat
            have hlen : acc.length = m + 1 := by rw [hcat', hm]; simp
            have hym : acc[m]? = some y := by rw [hcat', hm]; simp
            obtain ⟨r, hr, hrd⟩ := HC3.out.red.get m y.d (by rw [List.getElem?_map, hym]; rfl)
            obtain ⟨ky, ty, dy, tiy, aty, ary, ciy, ksy⟩ := y
            obtain ⟨vcy, vpy, vay, viy, vky, rfl, hRy⟩ := Inl.open_ hrd
            have hown := HC3.out.own
            rw [hlen] at hown hol
            rw [hlen]
            obtain ⟨g2, cap2, hv2, hcap2⟩ := own_form hown (by omega)
            obtain ⟨rfl, rfl⟩ : av = some ⟨g2, 0, none⟩ ∧ cap2 = cv := by
              simp at hv2; exact ⟨hv2.1, hv2.2.symm⟩
            have k0 : w3.cell? ⟨g2, m * 10, none⟩ = some (.int .i64 ky) := by
              have h1 := flat_get 10 rows HC3.out.len m 0 _ _ hr rfl
              have h2 := hown.cellAt (m * 10 + 0) (by omega)
              rw [h1] at h2
              exact h2
            have k1 : w3.cell? ⟨g2, m * 10 + 1, none⟩ = some (.string ty) := by
              have h1 := flat_get 10 rows HC3.out.len m 1 _ _ hr rfl
              have h2 := hown.cellAt (m * 10 + 1) (by omega)
              rw [h1] at h2
              exact h2
            have HK0 := Lib.hid k0
            have HK1 := Lib.hid k1
            have HOW := Lib.hid hown
            have HCAT := Lib.hid hcat'
            have HLEN := Lib.hid hlen
            have HMM := Lib.hid hm
            have HRY := Lib.hid hRy
            have HRR := Lib.hid hr
            clear hcat hcat' hym hr hrd hRy hown hv2 hlen hm k0 k1
            have hpos : decide ((0 : Int) < (m : Int) + 1) = true := decide_eq_true (by omega)
            by_cases hky : ky = 1
            case neg =>
              have hyk := beq_false_of_ne hky
              have HM : Hid (Inl.mergeL (l.take (k + 1)) = acc ++ [Inl.mk 1 t d ti at_ ar ci (Inl.mergeL ks)]) := by
                show _ = _
                rw [HM0.out, addM_first acc (Inl.mk 1 t d ti at_ ar ci (Inl.mergeL ks)) rfl het (fun y hy => by rw [HCAT.out] at hy; simp at hy; rw [← hy]; exact hky)]
              have k0 := HK0.out
              clear het hky
              go_wp2_with (at_builtin; refine wpList_append_any _ rfl (.tmp 61) (.tmp 63) 38 rfl w.heap.size 47 iI _ 10 192 Tryz.underlying38 hiI hzI0 hzI1 hzI2 rfl (by decide) (.slice (some ⟨g2, 0, none⟩) (m + 1) cap2) (m + 1) rows.flatten rfl (HOW.out.alloc _) (w3.heap.size + 1) (some ⟨w3.heap.size, 0, none⟩) 1 1 [.int .i64 1, .string t, .string d, .string ti, .string at_.id, .slice ac nc cc, .slice ap np cp, .slice aa na ca, .slice ai ni cai, .slice ak1 nk1 ck1] rfl ?g1 ?g2 ?g3 ?g4 ?g5 ?_)
              case g1 => exact ⟨rfl, fun _ => ⟨_, rfl, by simp, new_cells w3 [.int .i64 1, .string t, .string d, .string ti, .string at_.id, .slice ac nc cc, .slice ap np cp, .slice aa na ca, .slice ai ni cai, .slice ak1 nk1 ck1] _⟩⟩
              case g2 => intro u hu; simp at hu; rcases hu with rfl | rfl | rfl | rfl | rfl | rfl | rfl | rfl | rfl | rfl <;> rfl
              case g3 => unfold maxLen; omega
              case g4 => omega
              case g5 => simp; omega
              intro v' w7 hown' hgrow hat
              have P7 := Lib.hid (HC3.out.push (x := Inl.mk 1 t d ti at_ ar ci (Inl.mergeL ks)) (S := wr.heap.size) (cs := [.int .i64 1, .string t, .string d, .string ti, .string at_.id, .slice ac nc cc, .slice ap np cp, .slice aa na ca, .slice ai ni cai, .slice ak1 nk1 ck1]) (fun g hg => (HCO.out.own.lt g hg).2) HCO.out.bel.size hB (Inl.mk_ 1 t d ti IN3.out) rfl (by rw [HLEN.out]; exact hown') hgrow (by rw [HLEN.out]; simpa using hat))
              clear hown' hgrow hat
              go_wp2
              go_roundw
              case rel => exact ⟨k + 1, _, by omega, by go_num, by rw [HM.out]; exact P7.out, by rw [HM.out]; exact bound_pushO HTB.out hts⟩
              case measure => simp [intOf]; omega
            subst hky
            have k0 := HK0.out
            have k1 := HK1.out
            have hg2 := HOW.out
            have fz : w3.frozen? ⟨g2, m * 10 + 1, none⟩ = false := by
              rcases HOW.out.2 with ⟨h1, _⟩ | ⟨g', cap', cur, h1, _, h2, _⟩
              · cases h1
              · injection h1 with h1 _ _
                injection h1 with h1
                injection h1 with h1 _ _
                subst h1
                simp [World.frozen?, h2]
            have hty : ty.size + t.size ≤ 9223372036854775807 := by
              have := HTB.out (Inl.mk 1 ty dy tiy aty ary ciy ksy) (by rw [HCAT.out]; simp)
              change ty.size ≤ _ at this
              omega
            clear hg2
            have HET := Lib.hid het
            clear het
            go_upto_region 10 with (fail)
            go_cut [] (fun wx => wx = (w3.drew).setCell ⟨g2, m * 10 + 1, none⟩ (.string (ty ++ t)))
            case first =>
              go_region
              all_goals
                go_wp2_with fail
                go_meet
                rfl
            case rest =>
              have hm := HMM.out
              subst hm
              have hcat := HCAT.out
              subst hcat
              have hl1 : (a0 ++ [Inl.mk 1 ty dy tiy aty ary ciy ksy]).length = a0.length + 1 := by simp
              have HJ : Hid (ColO ok w (a0 ++ [Inl.mk 1 (ty ++ t) dy tiy aty ary ciy ksy]) (.slice (some ⟨g2, 0, none⟩) (a0.length + 1) cap2) (rows.take a0.length ++ [[.int .i64 1, .string (ty ++ t), .string dy, .string tiy, .string aty.id, vcy, vpy, vay, viy, vky]]) wc) := by
                show _
                rw [hcut]
                have hc := HC3.out
                rw [hl1] at hc
                exact ColO.join (rows := rows) t hc HRR.out HRY.out
              have HM : Hid (Inl.mergeL (l.take (k + 1)) = a0 ++ [Inl.mk 1 (ty ++ t) dy tiy aty ary ciy ksy]) := by
                show _ = _
                rw [HM0.out, addM_join a0 (Inl.mk 1 ty dy tiy aty ary ciy ksy) (Inl.mk 1 t d ti at_ ar ci (Inl.mergeL ks)) rfl rfl HET.out]
                rfl
              have HTB2 : Hid (∀ y ∈ a0 ++ [Inl.mk 1 (ty ++ t) dy tiy aty ary ciy ksy], y.tx.size ≤ (k + 1) * 100000) := by
                intro y hy
                rcases List.mem_append.1 hy with h1 | h1
                · exact Nat.le_trans (HTB.out y (by simp [h1])) (Nat.mul_le_mul_right 100000 (Nat.le_succ k))
                · have h1 := List.mem_singleton.1 h1
                  subst h1
                  have h2 := HTB.out (Inl.mk 1 ty dy tiy aty ary ciy ksy) (by simp)
                  show (ty ++ t).size ≤ _
                  rw [ByteArray.size_append, Nat.succ_mul]
                  exact Nat.add_le_add h2 hts
              clear hcut
              go_wp2
              go_roundw
              case rel => exact ⟨k + 1, _, by omega, by go_num, by rw [HM.out]; exact HJ.out, by rw [HM.out]; exact HTB2.out⟩
              case measure => simp [intOf]; omega
      · have hkl : k = l.length := by omega
        subst hkl
        rw [List.take_length] at HOUT
        go_wp2
        go_ret
        have RED := HCO.out.red
        rw [HOUT.out] at RED
        refine ⟨_, rfl, Rd.sl_own (rows := rows) (B := w.heap.size) (e := 47) ?_ (RdL.keep (fun b hb _ => ⟨hb.1, rfl⟩) _ _ RED) HCO.out.len (fun g hg => .inr (HCO.out.own.lt g hg).1), HCO.out.bel⟩
        rw [List.length_map, ← HOUT.out]; exact HCO.out.own
end Go.Proofs.YtlbioncagkkkoaaGreatDoor
