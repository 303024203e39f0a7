/- The walk of publisherlaw24.TocItems. -/
import Derived.Test.YtlbioncagkkkoaaDoorKTwL
import Derived.Test.YtlbioncagkkkoaaDoorKRIds
import Derived.Test.YtlbioncagkkkoaaDoorKRList
import Derived.BigQuiet
import Derived.Deep.QuietTactic
import Derived.Laws.Concat
namespace Go.Proofs.YtlbioncagkkkoaaDoor
open Go.RowKit
set_option linter.unusedVariables false
set_option linter.unusedSimpArgs false

theorem item_sz (e : En) (ks : List Blk) : (itemB e ks).sz = 2 + Blk.szL ks := by
  unfold itemB paraB
  rw [Blk.sz, Blk.szL, Blk.sz, Blk.szL]; omega
theorem bul_sz (l : List Blk) : Blk.szL (bulB l) ≤ 1 + Blk.szL l := by
  unfold bulB
  split
  · rw [Blk.szL]; omega
  · rw [Blk.szL, Blk.sz, Blk.szL]; omega
theorem items_sz (n : Nat) : ∀ (l : List En), l.length ≤ n → Blk.szL (itemsR l) ≤ 3 * l.length := by
  induction n with
  | zero =>
    intro l hl
    obtain rfl : l = [] := List.eq_nil_of_length_eq_zero (by omega)
    rw [itemsR_nil, Blk.szL]; omega
  | succ n ih =>
    intro l hl
    cases l with
    | nil => rw [itemsR_nil, Blk.szL]; omega
    | cons e l =>
      simp only [List.length_cons] at hl ⊢
      have h1 := takeW_len e.over l
      have h2 := dropW_len e.over l
      have h3 := tw_dw_len e.over l
      have i1 := ih (l.takeWhile e.over) (by omega)
      have i2 := ih (l.dropWhile e.over) (by omega)
      have b1 := bul_sz (itemsR (l.takeWhile e.over))
      rw [itemsR_cons, Blk.szL, item_sz]
      unfold listR
      omega
theorem list_sz (l : List En) : Blk.szL (listR l) ≤ 1 + 3 * l.length := by
  have h1 := items_sz l.length l (Nat.le_refl _)
  have h2 := bul_sz (itemsR l)
  unfold listR; omega
theorem bul_inls (l : List Blk) : (Blk.inlsL (bulB l)).length = (Blk.inlsL l).length := by
  unfold bulB
  split
  · rename_i h
    rw [List.isEmpty_iff] at h
    subst h; rfl
  · rw [Blk.inlsL, Blk.inls, Blk.inlsL, Inl.deepL]; simp
theorem item_inls (e : En) (ks : List Blk) : (Blk.inlsL [itemB e ks]).length = Inl.szL [shownI e] + (Blk.inlsL ks).length := by
  unfold itemB paraB
  simp only [Blk.inlsL, Blk.inls, Inl.deepL, Inl.szL, List.nil_append, List.append_nil, List.length_append, Inl.deep_sz]
  omega
theorem shown_sz (e : En) (h : EnSm e) : Inl.szL [shownI e] ≤ 122 := by
  have h1 := sh_sz e h
  have h2 := Inl.mergeA_szle (shKids e) []
  rw [show Inl.szL [] = 0 by rw [Inl.szL]] at h2
  rw [szL_one]
  unfold shownI
  rw [Inl.sz]
  unfold Inl.mergeL
  omega
theorem items_inls (n : Nat) : ∀ (l : List En), l.length ≤ n → (∀ x ∈ l, EnSm x) → (Blk.inlsL (itemsR l)).length ≤ 122 * l.length := by
  induction n with
  | zero =>
    intro l hl _
    obtain rfl : l = [] := List.eq_nil_of_length_eq_zero (by omega)
    rw [itemsR_nil, Blk.inlsL]; simp
  | succ n ih =>
    intro l hl hall
    cases l with
    | nil => rw [itemsR_nil, Blk.inlsL]; simp
    | cons e l =>
      simp only [List.length_cons] at hl ⊢
      have h1 := takeW_len e.over l
      have h2 := dropW_len e.over l
      have h3 := tw_dw_len e.over l
      have i1 := ih (l.takeWhile e.over) (by omega) (fun x hx => hall x (List.mem_cons_of_mem _ (List.takeWhile_subset _ hx)))
      have i2 := ih (l.dropWhile e.over) (by omega) (fun x hx => hall x (List.mem_cons_of_mem _ (List.dropWhile_subset _ hx)))
      have h4 := shown_sz e (hall e (List.mem_cons_self ..))
      rw [itemsR_cons, show itemB e (listR (l.takeWhile e.over)) :: itemsR (l.dropWhile e.over) = [itemB e (listR (l.takeWhile e.over))] ++ itemsR (l.dropWhile e.over) from rfl, Blk.inlsL_app, List.length_append, item_inls]
      unfold listR
      rw [bul_inls]
      omega
theorem list_inls (l : List En) (hall : ∀ x ∈ l, EnSm x) : (Blk.inlsL (listR l)).length ≤ 122 * l.length := by
  unfold listR
  rw [bul_inls]
  exact items_inls l.length l (Nat.le_refl _) hall
def cntI (l : List Blk) : Nat := (l.filter isItemB).length
theorem cntI_snoc (l : List Blk) (k : Nat) (x : Blk) (h : l[k]? = some x) : cntI (l.take (k + 1)) = cntI (l.take k) + if isItemB x = true then 1 else 0 := by
  unfold cntI
  rw [List.take_add_one, h, List.filter_append, List.length_append]
  by_cases hx : isItemB x = true <;> simp [hx]
/-- An item among the blocks is the entry's whose number it has. -/
theorem item_at (l : List Blk) (en : List En) (h : Items (l.filter isItemB) en) (k : Nat) (x : Blk) (hx : l[k]? = some x) (hi : isItemB x = true) : ∃ e ks, en[cntI (l.take k)]? = some e ∧ x = itemB e ks := by
  have h1 : (l.filter isItemB)[cntI (l.take k)]? = some x := by
    have e1 : l = l.take k ++ x :: l.drop (k + 1) := by
      have := List.take_append_drop k l
      rw [List.drop_eq_getElem_cons (List.getElem?_eq_some_iff.1 hx).1, (List.getElem?_eq_some_iff.1 hx).2] at this
      exact this.symm
    conv => lhs; lhs; rw [e1]
    rw [List.filter_append, List.filter_cons, if_pos hi]
    unfold cntI
    rw [List.getElem?_append_right (Nat.le_refl _), Nat.sub_self]; rfl
  exact h.get _ x h1

set_option maxRecDepth 100000 in
set_option maxHeartbeats 8000000 in
theorem items_walk (l : List En) (v : Value) (w : World) (hrd : Rd (· < w.heap.size) w (ensD l) [v]) (hwf : ∀ x ∈ l, x.wf) (hT : PT w) :
    Calls Tryd.prog 4 #[v] w fun e w' => e = .returned (.bool true) ∧ Below w.heap.size w w' := by
  obtain ⟨a, cap, hv, hs0⟩ := Rd.sl_open hrd
  obtain rfl : v = .slice a l.length cap := by simpa using hv
  have hcap : l.length ≤ cap := by simpa using hs0.le
  have hmx := hs0.max
  unfold maxLen at hmx
  have SM := Lib.hid (smallE_any l _ w hrd hwf)
  have HRD := Lib.hid hrd
  have HT := Lib.hid hT
  clear hrd hwf hT hv hs0
  go_enter Tryd.func4, Tryd.ntmps4
  go_wp2_with fail
  refine SM.out.mono ?_
  rintro e w1 ⟨b, rfl, hb, b1⟩
  have HB1 := Lib.hid b1
  have HT1 := Lib.hid (HT.out.below b1)
  have HR1 := Lib.hid (HRD.out.up b1)
  cases b with
  | false =>
    clear hb b1 SM
    go_wp2_with fail
    refine (awake_any _ HT1.out).mono ?_
    rintro e w2 ⟨rfl, b2⟩
    have HZ := Lib.hid (below_trans_size HB1.out b2)
    clear b2
    go_wp2
    go_ret
    exact ⟨rfl, HZ.out⟩
  | true =>
    obtain ⟨h30, hall⟩ := hb rfl
    have HEN : Hid (EnsOk l) := ⟨by omega, fun x hx => sh_ok x (hall x hx)⟩
    have HRN : Hid (REnsOk l) := ⟨by omega, fun x hx => rsh_ok x (hall x hx)⟩
    have HEI : Hid (∀ x ∈ l, x.id.size ≤ 100) := fun x hx => (hall x hx).id
    have hsz := list_sz l
    have hil := list_inls l hall
    have LS := Lib.hid (tocList_any l _ w1 HR1.out HEN.out)
    clear hb b1 SM hall
    go_wp2_with fail
    refine LS.out.mono ?_
    rintro e w2 ⟨v2, rfl, h2, b2⟩
    obtain ⟨a2, n2, c2, rfl⟩ := Rd.sl_form h2
    have HB2 := Lib.hid (below_trans_size HB1.out b2)
    have HT2 := Lib.hid (HT1.out.below b2)
    have HR2 := Lib.hid (HR1.out.up b2)
    have RL := Lib.hid (list_any 1000000 (listR l) w2.heap.size (.slice a2 n2 c2) w2 (by omega) (Nat.le_refl _) h2.anyLt (Nat.le_refl _))
    clear h2 b2 LS
    go_wp2_with fail
    refine RL.out.mono ?_
    rintro e w3 ⟨v3, rows, rfl, hrow⟩
    obtain ⟨E, hE⟩ : ∃ E, E = Blk.eachL (listR l) := ⟨_, rfl⟩
    have HIT := Lib.hid (list_items l)
    rw [← hE] at hrow HIT
    obtain ⟨nE, hnE⟩ : ∃ nE, nE = E.length := ⟨_, rfl⟩
    have hEl : nE ≤ 1000000 := by rw [hnE, hE, Blk.eachL_sz]; omega
    obtain ⟨a3, c3, hv3⟩ := own_slice hrow.own
    rw [List.length_map, ← hnE] at hv3
    subst hv3
    have hcp3 := own_cap' hrow.own
    rw [List.length_map, ← hnE] at hcp3
    obtain ⟨hcp3, hcm3⟩ := hcp3
    unfold maxLen at hcm3
    have HROW := Lib.hid hrow
    have HNE := Lib.hid hnE
    have HB3 := Lib.hid (below_trans_size HB2.out hrow.bel)
    have HT3 := Lib.hid (HT2.out.below hrow.bel)
    have HR3 := Lib.hid (HR2.out.up hrow.bel)
    have HRL := Lib.hid hEl
    obtain ⟨a', cap', hv', hs3⟩ := Rd.sl_open HR3.out
    obtain ⟨rfl, rfl⟩ : a = a' ∧ cap = cap' := by
      have h9 := (List.cons.inj hv').1
      injection h9 with h9 _ h10
      exact ⟨h9, h10⟩
    have HS3 := Lib.hid hs3
    have R9 : Hid (∃ (k q : Nat), k ≤ nE ∧ (.int .i64 0 : Value) = .int .i64 (k : Int) ∧ (.int .i64 0 : Value) = .int .i64 ((cntI (E.take k) : Nat) : Int) ∧ w3 = w3.drewN q) := ⟨0, 0, Nat.zero_le _, rfl, rfl, rfl⟩
    clear hrow hE hnE hs3 hv' RL
    go_wp2
    go_loopw [4, 5] (fun vn vk wr => ∃ (k q : Nat), k ≤ nE ∧ vk = .int .i64 (k : Int) ∧ vn = .int .i64 ((cntI (E.take k) : Nat) : Int) ∧ wr = w3.drewN q) (fun _ vk _ => nE - (intOf vk).toNat)
    case atStart => exact R9.out
    case round =>
      clear R9
      obtain ⟨k, q, hk, rfl, rfl, rfl⟩ := hrel
      by_cases hlt : k < nE
      · obtain ⟨x, hx⟩ : ∃ x, E[k]? = some x := ⟨_, List.getElem?_eq_getElem (by rw [← HNE.out]; exact hlt)⟩
        have hsn := cntI_snoc E k x hx
        have HSN := Lib.hid hsn
        obtain ⟨r, hr, hd⟩ := HROW.out.red.get k _ (by rw [List.getElem?_map, hx]; rfl)
        have hown := HROW.out.own
        rw [List.length_map, ← HNE.out] at hown
        obtain ⟨g9, cap9, hvg, -⟩ := own_form hown (by omega)
        obtain ⟨rfl, rfl⟩ : a3 = some ⟨g9, 0, none⟩ ∧ c3 = cap9 := by injection hvg with h1 _ h3; exact ⟨h1, h3⟩
        have hk0 : (0 : Int) ≤ (k : Int) := by omega
        have hk1 : (k : Int) < (nE : Int) := by omega
        by_cases hi : isItemB x = true
        · obtain ⟨e, ks, hen, rfl⟩ := item_at E l HIT.out k x hx hi
          have HS2 : Hid (cntI (E.take (k + 1)) = cntI (E.take k) + 1) := by show _ = _; rw [HSN.out, if_pos hi]
          obtain ⟨m, hm⟩ : ∃ m, m = cntI (E.take k) := ⟨_, rfl⟩
          rw [← hm] at hen HS2 ⊢
          have hml : m < l.length := (List.getElem?_eq_some_iff.1 hen).1
          have hd' : Rd (· < w2.heap.size) w3 (Blk.mk 9 0 ⟨#[]⟩ ⟨#[]⟩ ⟨#[]⟩ ⟨#[]⟩ at0 [] (paraB e :: ks)).d r := hd
          obtain ⟨vc, vp, vl, vk, rfl, hB⟩ := Blk.open_ hd'
          obtain ⟨nk, hnk⟩ : ∃ nk, nk = ((paraB e :: ks).map Blk.d).length := ⟨_, rfl⟩
          have hnk0 : 0 < nk := by rw [hnk]; simp
          obtain ⟨ak, ck, hvk, hks⟩ := Rd.sl_open hB.kids
          obtain rfl : vk = .slice ak nk ck := by rw [hnk]; simpa using hvk
          have hkc : nk ≤ ck := by rw [hnk]; exact hks.le
          have hkm := hks.max
          unfold maxLen at hkm
          obtain ⟨b5, o5, vc5, vp5, vl5, vk5, rfl, -, hb5, hc5, hB5⟩ := blks_at hks (k := 0) (kd := 1) (lv := 0) (i := ⟨#[]⟩) (t := ⟨#[]⟩) (d := ⟨#[]⟩) (ti := ⟨#[]⟩) (at_ := at0) (li := [shownI e]) (ks := []) rfl
          obtain ⟨al5, cl5, hvl5, hls⟩ := Rd.sl_open hB5.line
          obtain rfl : vl5 = .slice al5 1 cl5 := by simpa using hvl5
          have hlc : 1 ≤ cl5 := by simpa using hls.le
          have hlm := hls.max
          unfold maxLen at hlm
          obtain ⟨b6, o6, wc6, wp6, wa6, wi6, wk6, rfl, -, hb6, hc6, -⟩ := inls_at hls (k := 0) (kd := 9) (t := ⟨#[]⟩) (d := hashB ++ e.id) (ti := ⟨#[]⟩) (at_ := at0) (ar := []) (ci := []) (ks := Inl.mergeL (shKids e)) rfl
          have y9 := hc5.c9
          have y2 : w3.cell? ⟨b6, o6 + 0 * 10 + 2, none⟩ = some (.string ((⟨#[35]⟩ : ByteArray) ++ e.id)) := hc6.c2
          simp only [Nat.zero_mul, Nat.add_zero] at y9 y2
          obtain ⟨b7, o7, vl7, vr7, rfl, -, hb7, z0, z1, -, -, -, -⟩ := ens_at HS3.out hen
          have k0 : w3.cell? ⟨g9, k * 11, none⟩ = some (.int .i64 9) := by
            have h1 := flat_get 11 rows HROW.out.len k 0 _ _ hr rfl
            have h2 := hown.cellAt (k * 11 + 0) (by omega)
            rw [h1] at h2
            exact h2
          have k10 : w3.cell? ⟨g9, k * 11 + 10, none⟩ = some (.slice (some ⟨b5, o5, none⟩) nk ck) := by
            have h1 := flat_get 11 rows HROW.out.len k 10 _ _ hr rfl
            have h2 := hown.cellAt (k * 11 + 10) (by omega)
            rw [h1] at h2
            exact h2
          have hiz : e.id.size ≤ 100 := HEI.out e (List.mem_of_getElem? hen)
          obtain ⟨ide, hide⟩ : ∃ ide, ide = e.id := ⟨_, rfl⟩
          rw [← hide] at y2 z1 hiz
          have q5 : (⟨#[35]⟩ : ByteArray).size + ide.size ≤ 9223372036854775807 := by have : (⟨#[35]⟩ : ByteArray).size = 1 := rfl; omega
          have hadd : ∀ W : World, (Op.stringOp .add (⟨#[35]⟩ : ByteArray) ide).run Tryd.prog W = .ok (.string (⟨#[35]⟩ ++ ide)) W := fun W => run_string_add_sum W _ _ q5
          have q6 : ((nk : Int) == 0) = false := by rw [beq_eq_false_iff_ne]; omega
          have q7 : decide ((l.length : Int) ≤ (m : Int)) = false := decide_eq_false (by omega)
          have q8 : decide (l.length ≤ m) = false := decide_eq_false (by omega)
          have hm0 : (0 : Int) ≤ (m : Int) := by omega
          have hm1 : (m : Int) < (l.length : Int) := by omega
          have hn0 : (0 : Int) < (nk : Int) := by omega
          clear hx hr hd hd' hown hvg hi hsn HSN hB hvk hks hc5 hB5 hvl5 hls hc6 hnk hide hen hm
          go_wp2_with fail
          go_quiet (fail)
          go_wp2
          go_roundw
          case rel => exact ⟨k + 1, _, by omega, by go_num, by rw [HS2.out]; go_num, rfl⟩
          case measure => simp [intOf]; omega
        · have HS2 : Hid (cntI (E.take (k + 1)) = cntI (E.take k)) := by show _ = _; rw [HSN.out, if_neg hi]; rfl
          obtain ⟨kd, lv, i, t, d, ti, at_, li, ks⟩ := x
          have h9 : kd ≠ 9 := fun e => hi (by rw [e]; rfl)
          have q9 : (kd != 9) = true := by rw [bne_iff_ne]; exact h9
          obtain ⟨vc, vp, vl, vk, rfl, hB⟩ := Blk.open_ hd
          have k0 : w3.cell? ⟨g9, k * 11, none⟩ = some (.int .i64 kd) := by
            have h1 := flat_get 11 rows HROW.out.len k 0 _ _ hr rfl
            have h2 := hown.cellAt (k * 11 + 0) (by omega)
            rw [h1] at h2
            exact h2
          clear hx hr hd hown hvg hi hsn HSN hB h9
          go_wp2
          go_roundw
          case rel => exact ⟨k + 1, q, by omega, by go_num, by rw [HS2.out], rfl⟩
          case measure => simp [intOf]; omega
      · have hkk : k = nE := by omega
        have hcnt : cntI (E.take k) = l.length := by
          rw [hkk, HNE.out, List.take_length]
          exact HIT.out.len
        rw [hcnt]
        obtain ⟨w4, hw4⟩ : ∃ w4, w4 = w3.drewN q := ⟨_, rfl⟩
        have b4 : Below w3.heap.size w3 w4 := by rw [hw4]; exact below_dN (Below.refl _ _) q
        rw [← hw4]
        have HB4 := Lib.hid (below_trans_size HB3.out b4)
        have HT4 := Lib.hid (HT3.out.below b4)
        have HR4 := Lib.hid (HR3.out.up b4)
        have LS := Lib.hid (tocList_any l _ w4 HR4.out HEN.out)
        clear hw4 b4 hcnt hkk
        go_wp2_with fail
        refine LS.out.mono ?_
        rintro e w5 ⟨v5, rfl, h5, b5⟩
        obtain ⟨a5, n5, c5, rfl⟩ := Rd.sl_form h5
        have HB5 := Lib.hid (below_trans_size HB4.out b5)
        have HT5 := Lib.hid (HT4.out.below b5)
        have HR5 := Lib.hid (HR4.out.up b5)
        have ID5 := Lib.hid (ids_any 200000 (listR l) w5.heap.size (.slice a5 n5 c5) w5 (by omega) (Nat.le_refl _) h5.anyLt (Nat.le_refl _))
        clear h5 b5 LS
        go_wp2_with fail
        refine ID5.out.mono ?_
        rintro e w6 ⟨v6, rfl, h6⟩
        obtain ⟨a6, c6, rfl⟩ := own_slice h6.own
        have HB6 := Lib.hid (below_trans_size HB5.out h6.bel)
        have HT6 := Lib.hid (HT5.out.below h6.bel)
        have HR6 := Lib.hid (HR5.out.up h6.bel)
        have RL6 := Lib.hid (rList24_any l.length l (.slice a l.length cap) (· < w6.heap.size) w6 (Nat.le_refl _) HR6.out (fun b hb => hb) HRN.out)
        clear h6 ID5
        go_wp2_with fail
        refine RL6.out.mono ?_
        rintro e w7 ⟨v7, rfl, h7, b7⟩
        obtain ⟨a7, n7, c7, rfl⟩ := Rd.sl_form h7
        have HB7 := Lib.hid (below_trans_size HB6.out b7)
        have HT7 := Lib.hid (HT6.out.below b7)
        have ID7 := Lib.hid (ids_any 200000 (listR l) w7.heap.size (.slice a7 n7 c7) w7 (by omega) (Nat.le_refl _) h7.anyLt (Nat.le_refl _))
        clear h7 b7 RL6
        go_wp2_with fail
        refine ID7.out.mono ?_
        rintro e w8 ⟨v8, rfl, h8⟩
        obtain ⟨a8, c8, rfl⟩ := own_slice h8.own
        have HB8 := Lib.hid (below_trans_size HB7.out h8.bel)
        have HT8 := Lib.hid (HT7.out.below h8.bel)
        clear h8 ID7
        go_wp2_with fail
        refine (awake_any _ HT8.out).mono ?_
        rintro e w9 ⟨rfl, b9⟩
        have HZ := Lib.hid (below_trans_size HB8.out b9)
        clear b9
        go_wp2
        go_ret
        exact ⟨rfl, HZ.out⟩
end Go.Proofs.YtlbioncagkkkoaaDoor
