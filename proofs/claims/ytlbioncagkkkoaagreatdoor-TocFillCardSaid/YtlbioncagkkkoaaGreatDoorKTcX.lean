/- Contract of the function of Kids of toc.Fill. -/
import Derived.Test.YtlbioncagkkkoaaGreatDoorKTcV
namespace Go.Proofs.YtlbioncagkkkoaaGreatDoor
open Go.RowKit Go.Maps
set_option linter.unusedVariables false
set_option linter.unusedSimpArgs false

theorem FlS.grown {N mb p5 p4 : Nat} {v2 : Value} {all : List En} {Fz : Nat → Prop} {w w' : World} (h : FlS N mb p5 p4 v2 all Fz w) (h1 : mb < N) (h2 : p5 < N) (h3 : p4 < N) (hg : w.grownBy w' none) : FlS N mb p5 p4 v2 all Fz w' :=
  h.keep h1 h2 h3 (fun b hb => hg.block b (by rcases hb with hb | hb; exact Nat.lt_of_lt_of_le hb h.n; exact (h.lt b hb).2) (by simp)) hg.size
theorem upto_snoc (l : List En) (n : Int) (k : Nat) (x : En) (h : l[k]? = some x) : uptoE (l.take (k + 1)) n = uptoE (l.take k) n ++ if decide (x.lv ≤ n) = true then [x] else [] := by
  unfold uptoE
  rw [List.take_add_one, h, List.filter_append]
  by_cases hs : x.lv ≤ n <;> simp [hs]
theorem upto_len (l : List En) (n : Int) : (uptoE l n).length ≤ l.length := List.length_filter_le _ _
theorem EnsOk.upto {all : List En} (h : EnsOk all) (n : Int) : EnsOk (uptoE all n) := ⟨Nat.le_trans (upto_len all n) h.len, fun x hx => h.sh x (List.mem_filter.1 hx).1⟩
/-- At the head of the loop over the entries. -/
def F2Rel (N mb : Nat) (wl : World) (all : List En) (dep : Int) (v vi : Value) (wr : World) : Prop :=
  ∃ (k : Nat) (rows : List (List Value)), k ≤ all.length ∧ vi = .int .i64 k ∧ RowU 42 5 (fun b => b < N ∧ b ≠ mb) wr.heap.size wl ((uptoE (all.take k) dep).map En.d) rows v wr

/-- Does the value say a depth? -/
def digB (o : Option ByteArray) : Bool := match o with
  | some v => match v.data.toList with
    | [c] => decide (49 ≤ c.toNat) && decide (c.toNat ≤ 54)
    | _ => false
  | none => false
theorem digB_no (o : Option ByteArray) (h : digB o = false) : depV o = 3 := by
  unfold digB at h
  unfold depV
  split at h
  · split at h
    · rename_i c hc
      simp only [hc]
      exact if_neg (fun hh => by simp [hh.1, hh.2] at h)
    · rename_i hx
      simp only
  · rfl
theorem digB_yes (o : Option ByteArray) (h : digB o = true) : ∃ c : UInt8, o = some ⟨#[c]⟩ ∧ 49 ≤ c.toNat ∧ c.toNat ≤ 54 ∧ depV o = (c.toNat : Int) - 48 := by
  unfold digB at h
  split at h
  · rename_i v
    split at h
    · rename_i c hc
      simp at h
      obtain ⟨⟨l⟩⟩ := v
      simp only at hc
      subst hc
      exact ⟨c, rfl, h.1, h.2, by unfold depV; simp only; rw [if_pos h]⟩
    · cases h
  · cases h

set_option maxRecDepth 100000 in
set_option maxHeartbeats 8000000 in
theorem fill2_any {N mb p5 p4 : Nat} {v2 : Value} {all : List En} (h1 : mb < N) (h2 : p5 < N) (h3 : p4 < N) (h5 : p5 ≠ mb) (h4 : p4 ≠ mb) (hok : EnsOk all) (Fz : Nat → Prop) (w : World) (k lv : Int) (i t d ti : ByteArray) (at_ : At) (ac ap al ak : Option Addr) (nc cc np cp nl cl nk ck : Nat)
    (hf : FlS N mb p5 p4 v2 all Fz w) (hA : AtR (· < w.heap.size) w at_ (.slice ac nc cc) (.slice ap np cp)) :
    Calls Tryz.prog 36 #[.agg #[.int .i64 k, .int .i64 lv, .string i, .string t, .string d, .string ti, .string at_.id, .slice ac nc cc, .slice ap np cp, .slice al nl cl, .slice ak nk ck], .pointer (some ⟨p5, 0, none⟩), .pointer (some ⟨p4, 0, none⟩)] w
      (KcPost (FlS N mb p5 p4 v2 all) mb Fz w (listR (uptoE all (depthOf at_)))) := by
  obtain ⟨iE, hiE, hzE0, hzE1, hzE2⟩ := info_parts infoEn
  obtain ⟨ea, ec, hv2, hs2⟩ := Rd.sl_open hf.en
  obtain rfl : v2 = .slice ea all.length ec := by simpa using hv2
  have hcap : all.length ≤ ec := by simpa using hs2.le
  have hmx := hs2.max
  unfold maxLen at hmx
  have hlen := hok.len
  obtain ⟨w1, hw1⟩ : ∃ w1, w1 = w.alloc (.cells #[.int .i64 k, .int .i64 lv, .string i, .string t, .string d, .string ti, .string at_.id, .slice ac nc cc, .slice ap np cp, .slice al nl cl, .slice ak nk ck] 53) := ⟨_, rfl⟩
  have k1 : CB 53 w.heap.size [.int .i64 k, .int .i64 lv, .string i, .string t, .string d, .string ti, .string at_.id, .slice ac nc cc, .slice ap np cp, .slice al nl cl, .slice ak nk ck] w1 := by rw [hw1]; exact CB.new _ _ _
  have b1 : Below w.heap.size w w1 := by rw [hw1]; exact (Below.refl _ _).alloc (Nat.le_refl _) _
  have GT := Lib.hid (get_any at_.id depS at_.prs ac nc cc (.slice ap np cp) w1 ((hA.prs.below b1).weaken (fun b hb => Nat.lt_of_lt_of_le hb b1.size)))
  have B1 := Lib.hid b1
  have HF := Lib.hid hf
  have HOK := Lib.hid hok
  have hNw := hf.n
  obtain ⟨dep, hdep⟩ : ∃ dep, dep = depthOf at_ := ⟨_, rfl⟩
  have hdb := dep_bd (getP at_.prs depS)
  change 1 ≤ depthOf at_ ∧ depthOf at_ ≤ 6 at hdb
  rw [← hdep] at hdb ⊢
  obtain ⟨hd1, hd6⟩ := hdb
  have HDEP : Hid (dep = depV (getP at_.prs depS)) := hdep
  have d6 := k1.cell 6 _ rfl
  have d7 := k1.cell 7 _ rfl
  have d8 := k1.cell 8 _ rfl
  clear hv2 hs2 hok hf hA k1 b1 hdep
  go_enter Tryz.func36, Tryz.ntmps36
  go_upto_region 2 with (fail)
  rw [← hw1]
  clear hw1
  go_wp2_with fail
  refine GT.out.mono ?_
  rintro e w3 ⟨rfl, b2⟩
  have hb3 := below_trans_size B1.out b2
  clear b2 GT d6 d7 d8
  generalize getP at_.prs depS = o at *
  go_upto_region 3 with (fail)
  go_cut [33] (fun v wx => v = .bool (digB o) ∧ wx = w3)
  case first =>
    cases o with
    | none =>
      go_wp2
      go_meet
      exact ⟨rfl, rfl⟩
    | some v =>
      by_cases hv1 : v.size = 1
      · obtain ⟨c, rfl⟩ : ∃ c, v = ⟨#[c]⟩ := by
          obtain ⟨⟨l⟩⟩ := v
          match l, hv1 with
          | [c], _ => exact ⟨c, rfl⟩
        have HD : Hid (digB (some ⟨#[c]⟩) = (decide (49 ≤ c.toNat) && decide (c.toNat ≤ 54))) := rfl
        have hc := c.toNat_lt
        have ei : ∀ h : 0 < (⟨#[c]⟩ : ByteArray).size, (⟨#[c]⟩ : ByteArray)[0]'h = c := fun _ => rfl
        by_cases hc1 : 49 ≤ c.toNat
        · have qa : decide ((49 : Int) ≤ (c.toNat : Int)) = true := decide_eq_true (by omega)
          by_cases hc2 : c.toNat ≤ 54
          · have qb : decide ((c.toNat : Int) ≤ 54) = true := decide_eq_true (by omega)
            go_wp2
            go_meet
            exact ⟨by rw [HD.out]; simp [hc1, hc2], rfl⟩
          · have qb : decide ((c.toNat : Int) ≤ 54) = false := decide_eq_false (by omega)
            go_wp2
            go_meet
            exact ⟨by rw [HD.out]; simp [hc2], rfl⟩
        · have qa : decide ((49 : Int) ≤ (c.toNat : Int)) = false := decide_eq_false (by omega)
          go_wp2
          go_meet
          exact ⟨by rw [HD.out]; simp [hc1], rfl⟩
      · have HD : Hid (digB (some v) = false) := by
          show _ = _
          unfold digB
          obtain ⟨⟨l⟩⟩ := v
          match l, hv1 with
          | [], _ => rfl
          | [c], h => exact absurd rfl h
          | _ :: _ :: _, _ => rfl
        have q1 : ((v.size : Int) == 1) = false := by rw [beq_eq_false_iff_ne]; omega
        go_wp2
        go_meet
        exact ⟨by rw [HD.out], rfl⟩
  case rest =>
    obtain ⟨rfl, rfl⟩ := hcut
    go_upto_if 33 with (fail)
    go_cut [5] (fun v wx => v = .int .i64 dep ∧ wx = wc)
    case first =>
      cases hdg : digB o with
      | true =>
        obtain ⟨c, rfl, hc1, hc2, hc3⟩ := digB_yes o hdg
        have HD2 : Hid (dep = (c.toNat : Int) - 48) := HDEP.out.trans hc3
        have hc := c.toNat_lt
        have ei : ∀ h : 0 < (⟨#[c]⟩ : ByteArray).size, (⟨#[c]⟩ : ByteArray)[0]'h = c := fun _ => rfl
        have qw : IntKind.u8.wrap ((c.toNat : Int) - 48) = (c.toNat : Int) - 48 := by unfold IntKind.wrap; simp [IntKind.bits]; omega
        clear hc3 hdg
        go_wp2
        go_meet
        exact ⟨by rw [HD2.out], rfl⟩
      | false =>
        have HD2 : Hid (dep = 3) := HDEP.out.trans (digB_no o hdg)
        clear hdg
        go_wp2
        go_meet
        exact ⟨by rw [HD2.out], rfl⟩
    case rest =>
    obtain ⟨rfl, rfl⟩ := hcut
    obtain ⟨w3, hw3⟩ : ∃ w3 : World, w3 = wc := ⟨_, rfl⟩
    subst hw3
    have F3 := HF.out.grown h1 h2 h3 (grown_below hb3)
    obtain ⟨nn, f, m1, m2, m3⟩ := F3.mp
    have hlk := m1.look dep (WalkArith.wf_i64 (by omega))
    obtain ⟨x8, hx8⟩ : ∃ x8, x8 = (f dep).getD nilV := ⟨_, rfl⟩
    obtain ⟨o9, ho9⟩ : ∃ o9, o9 = (f dep).isSome := ⟨_, rfl⟩
    rw [← hx8, ← ho9] at hlk
    have HX8 := Lib.hid hx8
    have HO9 := Lib.hid ho9
    clear hx8 ho9
    have e5 := F3.k5.cell 0 _ rfl
    have e4 := F3.k4.cell 0 _ rfl
    have M1 := Lib.hid m1
    have M2 := Lib.hid m2
    have M3 := Lib.hid m3
    have HF3 := Lib.hid F3
    have B3 := Lib.hid hb3
    have hw3 := hb3.size
    clear m1 m2 m3 F3 hb3 B1 HF HDEP
    go_upto_if 45 with (fail)
    go_cut [8] (fun v wx => ∃ (F2 : Nat → Prop), Rd (fun b => F2 b ∨ (b < N ∧ b ≠ mb)) wx (ensD (uptoE all dep)) [v] ∧ FlS N mb p5 p4 (.slice ea all.length ec) all F2 wx ∧ w.grownBy wx (some mb) ∧ (∀ b, Fz b → F2 b) ∧ (∀ b, F2 b → Fz b ∨ w.heap.size ≤ b))
    case first =>
      cases o9 with
      | true =>
        obtain ⟨v, hv⟩ := Option.isSome_iff_exists.1 HO9.out.symm
        obtain rfl : x8 = v := HX8.out.trans (by rw [hv]; rfl)
        have HV := Lib.hid (M3.out dep x8 hv)
        clear hv
        go_wp2
        go_meet
        exact ⟨Fz, HV.out, HF3.out, grown_any (grown_below B3.out) _, fun b h => h, fun b h => .inl h⟩
      | false =>
        have hfd : f dep = none := Option.isNone_iff_eq_none.1 (by rw [Option.isNone_iff_eq_none, ← Option.not_isSome_iff_eq_none, ← HO9.out]; simp)
        obtain rfl : x8 = .slice none 0 0 := HX8.out.trans (by rw [hfd]; rfl)
        have HFD := Lib.hid hfd
        obtain ⟨ea', ec', hv2, hs2⟩ := Rd.sl_open HF3.out.en
        obtain ⟨rfl, rfl⟩ : ea = ea' ∧ ec = ec' := by
          have h9 := (List.cons.inj hv2).1
          injection h9 with h9 _ h10
          exact ⟨h9, h10⟩
        have HS2 := Lib.hid hs2
        have R0 := Lib.hid (show F2Rel N mb w3 all dep (.slice none 0 0) (.int .i64 0) w3 from ⟨0, [], Nat.zero_le _, rfl, RowU.nil _ _ _ _⟩)
        have hNw3 : N ≤ w3.heap.size := HF3.out.n
        clear hfd hv2 hs2
        simp only [Bool.not_false]
        go_wp2
        go_loopw [8, 48] (fun v vi wr => F2Rel N mb w3 all dep v vi wr) (fun _ i _ => all.length - (intOf i).toNat)
        case atStart => exact R0.out
        case round =>
          clear R0
          obtain ⟨k9, rows, hk, rfl, hrow⟩ := hrel
          obtain ⟨ds, hds⟩ : ∃ ds, ds = (uptoE (all.take k9) dep).map En.d := ⟨_, rfl⟩
          rw [← hds] at hrow
          obtain ⟨m, hm⟩ : ∃ m, m = ds.length := ⟨_, rfl⟩
          have hmk : m ≤ k9 := by
            have := upto_len (all.take k9) dep
            rw [List.length_take] at this
            rw [hm, hds, List.length_map]; omega
          have HDN := Lib.hid hm.symm
          have HDS := Lib.hid hds
          obtain ⟨av, cv, rfl, -, -⟩ := hrow.cap hm.symm
          have HROW := Lib.hid hrow
          have hbel := hrow.bel
          clear hrow hm hds
          by_cases hlt : k9 < all.length
          · obtain ⟨x, hx⟩ : ∃ x, all[k9]? = some x := ⟨_, List.getElem?_eq_getElem hlt⟩
            have hsn := upto_snoc all dep k9 x hx
            obtain ⟨g, off, vl, vr, rfl, hgo, hgl, c0, c1, c2, c3, c4, hER⟩ := ens_at (HS2.out.up0 hbel) hx
            obtain ⟨xl, id', tx, line, refs⟩ := x
            obtain ⟨al', nl', cl', rfl⟩ := Rd.sl_form hER.line
            obtain ⟨ar', nr', cr', rfl⟩ := Rd.sl_form hER.refs
            dsimp only at c0 c1 c2 c3 c4 hsn
            obtain ⟨p, hp⟩ : ∃ p, p = wr.heap.size := ⟨_, rfl⟩
            obtain ⟨wA, hwA⟩ : ∃ wA, wA = wr.alloc (.cells #[.int .i64 xl, .string id', .string tx, .slice al' nl' cl', .slice ar' nr' cr'] 42) := ⟨_, rfl⟩
            have PA : CB 42 p [.int .i64 xl, .string id', .string tx, .slice al' nl' cl', .slice ar' nr' cr'] wA := by rw [hwA, hp]; exact CB.new _ _ _
            have UA := Lib.hid (show RowU 42 5 (fun b => b < N ∧ b ≠ mb) p w3 ds rows (.slice av m cv) wA by rw [hwA, hp]; exact HROW.out.alloc _)
            have EL := Lib.hid (show Rd (fun b => (b < N ∧ b ≠ mb) ∨ p ≤ b) wA (En.mk xl id' tx line refs).d [.int .i64 xl, .string id', .string tx, .slice al' nl' cl', .slice ar' nr' cr'] from
              Rd.keep (ok := fun b => b < N ∧ b ≠ mb) (w := wr) (fun b hb hlt' => ⟨.inl hb, by rw [hwA]; exact Below.heap_alloc _ _ b hlt'⟩) _ _ (En.mk_ ⟨xl, id', tx, line, refs⟩ hER))
            obtain ⟨bb, hbb⟩ : ∃ bb, bb = decide (xl ≤ dep) := ⟨_, rfl⟩
            have qb : decide (xl ≤ dep) = bb := hbb.symm
            rw [qb] at hsn
            have HSN : Hid ((uptoE (all.take (k9 + 1)) dep).map En.d = ds ++ (if bb = true then [(⟨xl, id', tx, line, refs⟩ : En)] else []).map En.d) := by
              show _ = _
              rw [hsn, List.map_append, ← HDS.out]
            clear hER hx hbel hgo hgl hsn HDS hbb
            go_upto_region 10 with (fail)
            rw [← hwA, ← hp]
            clear hwA hp HROW c0 c1 c2 c3 c4
            have e0 := PA.cell 0 _ rfl
            have e1 := PA.cell 1 _ rfl
            have e2 := PA.cell 2 _ rfl
            have e3 := PA.cell 3 _ rfl
            have e4' := PA.cell 4 _ rfl
            cases bb with
            | false =>
              have HX : Hid ((uptoE (all.take (k9 + 1)) dep).map En.d = ds) := by show _ = _; rw [HSN.out]; simp
              have HROW := Lib.hid UA.out.top
              rw [← HX.out] at HROW
              go_wp2
              go_roundw
              case rel => exact ⟨k9 + 1, _, by omega, by go_num, HROW.out⟩
              case measure => simp [intOf]; omega
            | true =>
              have HX : Hid ((uptoE (all.take (k9 + 1)) dep).map En.d = ds ++ [(⟨xl, id', tx, line, refs⟩ : En).d]) := by show _ = _; rw [HSN.out]; simp
              go_wp2_with (at_builtin; refine wpList_put rfl (.tmp 56) (.tmp 58) 29 rfl iE _ 88 Tryz.underlying29 hiE hzE0 hzE1 hzE2 rfl (by decide) UA.out (fun b hb => Nat.lt_of_lt_of_le hb.1 hNw3) (⟨xl, id', tx, line, refs⟩ : En).d [.int .i64 xl, .string id', .string tx, .slice al' nl' cl', .slice ar' nr' cr'] EL.out rfl one_five HDN.out (by omega) (by decide) rfl rfl ?_)
              intro a' c' w9 hrow hg9
              have HROW := Lib.hid hrow
              rw [← HX.out] at HROW
              clear hrow hg9
              go_wp2
              go_roundw
              case rel => exact ⟨k9 + 1, _, by omega, by go_num, HROW.out⟩
              case measure => simp [intOf]; omega
          · have hkl : k9 = all.length := by omega
            subst hkl
            rw [List.take_length] at HDS
            have mR : ValAt wr mb nn f := M1.out.same (hbel.block mb (by omega))
            obtain ⟨w7, hup, hv7, hg7⟩ := mR.put dep (.slice av m cv) (WalkArith.wf_i64 (by omega)) (by have := cntF_le f; have := M2.out; unfold maxLen; omega)
            have FR := HF3.out.grown h1 h2 h3 (grown_below hbel)
            have e5 := FR.k5.cell 0 _ rfl
            have hRD := HROW.out.rd.inside
            rw [HDS.out] at hRD
            have hwr := hbel.size
            have ne : ∀ b, b ≠ mb → some b ≠ some mb := fun b hb e => hb (Option.some.inj e)
            have h7 : Rd (fun b => (Fz b ∨ (w3.heap.size ≤ b ∧ b < wr.heap.size)) ∨ (b < N ∧ b ≠ mb)) w7 (ensD (uptoE all dep)) [.slice av m cv] :=
              Rd.keep (ok := fun b => ((b < N ∧ b ≠ mb) ∨ w3.heap.size ≤ b) ∧ b < wr.heap.size) (w := wr) (fun b hb hlt' => ⟨by omega, hg7.block b hlt' (ne b (by omega))⟩) _ _ hRD
            have FIN : Hid (∃ (F2 : Nat → Prop), Rd (fun b => F2 b ∨ (b < N ∧ b ≠ mb)) w7 (ensD (uptoE all dep)) [.slice av m cv] ∧ FlS N mb p5 p4 (.slice ea all.length ec) all F2 w7 ∧ w.grownBy w7 (some mb) ∧ (∀ b, Fz b → F2 b) ∧ (∀ b, F2 b → Fz b ∨ w.heap.size ≤ b)) := by
              refine ⟨fun b => Fz b ∨ (w3.heap.size ≤ b ∧ b < wr.heap.size), h7, ?_, grown_trans (grown_trans (grown_any (grown_below B3.out) _) (grown_any (grown_below hbel) _)) hg7, fun b h => .inl h, fun b h => h.imp id (fun h => by omega)⟩
              have hsz := hg7.size
              refine ⟨Nat.le_trans FR.n hsz, fun b hb => ⟨by rcases hb with hb | hb; exact (FR.lt b hb).1; omega, Nat.lt_of_lt_of_le (by rcases hb with hb | hb; exact (FR.lt b hb).2; exact hb.2) hsz⟩, cb_grown FR.k5 hg7 (ne _ h5), cb_grown FR.k4 hg7 (ne _ h4), Rd.keep (fun b hb hlt' => ⟨hb, hg7.block b hlt' (ne b hb.2)⟩) _ _ FR.en, nn + 1, _, hv7, Nat.le_trans (Nat.succ_le_succ M2.out) (cntF_put f dep _ hd1 hd6 HFD.out), ?_⟩
              intro d v hdv
              by_cases hdd : d = dep
              · rw [if_pos hdd] at hdv
                rw [hdd, ← Option.some.inj hdv]
                exact h7
              · rw [if_neg hdd] at hdv
                refine Rd.keep (ok := fun b => Fz b ∨ (b < N ∧ b ≠ mb)) (w := w3) (fun b hb hlt' => ⟨hb.imp .inl id, ?_⟩) _ _ (M3.out d v hdv)
                have hbm : b ≠ mb := by
                  rcases hb with hb | hb
                  · have h9 := (HF3.out.lt b hb).1
                    omega
                  · exact hb.2
                rw [hg7.block b (by omega) (ne b hbm), hbel.block b hlt']
            clear mR hv7 hg7 FR hRD h7 ne hbel
            go_wp2
            go_meet
            exact FIN.out
    case rest =>
      obtain ⟨F2, hRD, F4, g4, m4a, m4b⟩ := hcut
      obtain ⟨av4, nv4, cv4, hv4⟩ := Rd.sl_form hRD
      subst hv4
      obtain ⟨w4, hw4⟩ : ∃ w4 : World, w4 = wc := ⟨_, rfl⟩
      subst hw4
      have LS := Lib.hid (tocList_any (uptoE all dep) (.slice av4 nv4 cv4) w4 (hRD.inside.weaken (fun b hb => hb.2)) (HOK.out.upto dep))
      have FIN : Hid (∀ (v5 : Value) (w5 : World), Rd (w4.heap.size ≤ ·) w5 (blksD (listR (uptoE all dep))) [v5] → Below w4.heap.size w4 w5 → KcPost (FlS N mb p5 p4 (.slice ea all.length ec) all) mb Fz w (listR (uptoE all dep)) (.returned v5) w5) :=
        fun v5 w5 h5' b5 => ⟨v5, F2, rfl, h5'.weaken (fun b hb => Nat.le_trans g4.size hb), grown_trans g4 (grown_any (grown_below b5) _), F4.grown h1 h2 h3 (grown_below b5), m4a, m4b⟩
      clear hRD F4 g4 m4a m4b M1 M2 M3 HF3 B3 HX8 HO9 hlk e5 e4
      go_wp2_with fail
      (with_reducible refine LS.out.mono ?_)
      rintro e w5 ⟨v5, rfl, h5', b5⟩
      have FI := FIN.out v5 w5 h5' b5
      have FIH := Lib.hid FI
      clear FI FIN h5' b5 LS
      go_wp2
      go_ret
      exact FIH.out
end Go.Proofs.YtlbioncagkkkoaaGreatDoor
