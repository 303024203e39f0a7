/- Contract of publisherref24.Entry. -/
import Derived.Test.YtlbioncagkkkoaaGreatDoorKRtT
namespace Go.Proofs.YtlbioncagkkkoaaGreatDoor
open Go.RowKit
set_option linter.unusedVariables false
set_option linter.unusedSimpArgs false

theorem entR_snoc (l : List Inl) (k : Nat) (x : Inl) (h : l[k]? = some x) : Inl.entR (l.take (k + 1)) = Inl.entR (l.take k) ++ x.entX := by
  rw [entR_flat, entR_flat, List.take_add_one, h, List.flatMap_append]; simp
theorem entR_len (l : List Inl) : (Inl.entR l).length ≤ Inl.szL l := Nat.le_trans (Inl.len_le _) (Inl.entR_szle l)
def EyRel (ok : Nat → Prop) (w : World) (l : List Inl) (v vi : Value) (wr : World) : Prop :=
  ∃ (k : Nat) (rows : List (List Value)), k ≤ l.length ∧ vi = .int .i64 k ∧ RowU 47 10 ok wr.heap.size w ((Inl.entR (l.take k)).map Inl.d) rows v wr
theorem beq_ff {k : Int} {n : Int} (h : k ≠ n) : (k == n) = false := by rw [beq_eq_false_iff_ne]; exact h

set_option maxRecDepth 100000 in
set_option maxHeartbeats 8000000 in
theorem rEntry_any (n : Nat) : ∀ (l : List Inl) (ok : Nat → Prop) (v : Value) (w : World), Inl.szL l ≤ n → n ≤ 1000000 → Inl.mzL l ≤ 100000 → Rd ok w (inlsD l) [v] → (∀ b, ok b → b < w.heap.size) →
    Calls Tryz.prog 31 #[v] w (RmPostO ok w (entL l)) := by
  induction n using Nat.strongRecOn with
  | _ n ih =>
    intro l ok v w hn hnm hmz hrd hB
    obtain ⟨iI, hiI, hzI0, hzI1, hzI2⟩ := info_parts infoIn
    obtain ⟨a, cap, hv, hs⟩ := Rd.sl_open hrd
    obtain rfl : v = .slice a l.length cap := by simpa using hv
    have hcap : l.length ≤ cap := by simpa using hs.le
    have hll := Inl.len_le l
    have hmx := hs.max
    have HS := Lib.hid hs
    have IH := Lib.hid ih
    have HB := Lib.hid hB
    have R0 := Lib.hid (show EyRel ok w l (.slice none 0 0) (.int .i64 0) w from ⟨0, [], Nat.zero_le _, rfl, by rw [List.take_zero, Inl.entR]; exact RowU.nil _ _ _ _⟩)
    clear hs hv hrd ih hB
    unfold maxLen at hmx
    go_enter Tryz.func31, Tryz.ntmps31
    go_wp2
    go_loopw [3, 8] (fun v vi wr => EyRel ok w l v vi wr) (fun _ i _ => l.length - (intOf i).toNat)
    case atStart => exact R0.out
    case round =>
      clear R0
      obtain ⟨k, rows, hk, rfl, hrow⟩ := hrel
      obtain ⟨raw, hraw⟩ : ∃ raw, raw = Inl.entR (l.take k) := ⟨_, rfl⟩
      rw [← hraw] at hrow
      obtain ⟨m, hm⟩ : ∃ m, m = (raw.map Inl.d).length := ⟨_, rfl⟩
      have hmk : m ≤ Inl.szL (l.take k) := by rw [hm, hraw, List.length_map]; exact entR_len _
      have hmk2 := Inl.szL_take_le l k
      have HDN := Lib.hid hm.symm
      have HRAW := Lib.hid hraw
      obtain ⟨av, cv, rfl, -, -⟩ := hrow.cap hm.symm
      have HROW := Lib.hid hrow
      have hbel := hrow.bel
      clear hrow hm hraw
      by_cases hlt : k < l.length
      · obtain ⟨x, hx⟩ : ∃ x, l[k]? = some x := ⟨_, List.getElem?_eq_getElem hlt⟩
        have hsn := entR_snoc l k x hx
        rw [← HRAW.out] at hsn
        have HSN := Lib.hid (show (Inl.entR (l.take (k + 1))).map Inl.d = raw.map Inl.d ++ x.entX.map Inl.d by rw [hsn, List.map_append])
        have hsz := Inl.szL_get l k x hx
        have hmz1 := Nat.le_trans (mzL_mem l x (List.mem_of_getElem? hx)) hmz
        obtain ⟨kd, t, d, ti, at_, ar, ci, ks⟩ := x
        rw [Inl.sz] at hsz
        rw [Inl.mz] at hmz1
        obtain ⟨g, off, vc, vp, va, vi, vk, rfl, hok, hbl, hc, hR⟩ := inls_at (HS.out.up0 hbel) hx
        obtain ⟨c0, c1, c2, c3, c4, c5, c6, c7, c8, c9⟩ := hc
        obtain ⟨ac, nc, cc, rfl⟩ := Rd.sl_form hR.at_.cls
        obtain ⟨ap, np, cp, rfl⟩ := Rd.sl_form hR.at_.prs
        obtain ⟨aa, na, ca, rfl⟩ := Rd.sl_form hR.args
        obtain ⟨ai, ni, ci', rfl⟩ := Rd.sl_form hR.cites
        obtain ⟨ak, nk, ck, rfl⟩ := Rd.sl_form hR.kids
        obtain ⟨p, hp⟩ : ∃ p, p = wr.heap.size := ⟨_, rfl⟩
        obtain ⟨wA, hwA⟩ : ∃ wA, wA = wr.alloc (.cells #[.int .i64 kd, .string t, .string d, .string ti, .string at_.id, .slice ac nc cc, .slice ap np cp, .slice aa na ca, .slice ai ni ci', .slice ak nk ck] 47) := ⟨_, rfl⟩
        have PA : PB p [.int .i64 kd, .string t, .string d, .string ti, .string at_.id, .slice ac nc cc, .slice ap np cp, .slice aa na ca, .slice ai ni ci', .slice ak nk ck] wA := by rw [hwA, hp]; exact heap_alloc_new wr _
        have UA := Lib.hid (show RowU 47 10 ok p w (raw.map Inl.d) rows (.slice av m cv) wA by rw [hwA, hp]; exact HROW.out.alloc _)
        have bwA : Below wr.heap.size wr wA := by rw [hwA]; exact (Below.refl _ _).alloc (Nat.le_refl _) _
        have HIN := Lib.hid (show InR ok wA at_ ar ci ks (.slice ac nc cc) (.slice ap np cp) (.slice aa na ca) (.slice ai ni ci') (.slice ak nk ck) from ⟨⟨hR.at_.cls.up0 bwA, hR.at_.prs.up0 bwA⟩, hR.args.up0 bwA, hR.cites.up0 bwA, hR.kids.up0 bwA⟩)
        have zA : wA.heap.size = p + 1 := by rw [hwA, hp]; simp
        have ZA := Lib.hid zA
        have hpw : w.heap.size ≤ p := by rw [hp]; exact hbel.size
        have HBp : Hid (∀ b, ok b → b < p) := fun b hb => by have := HB.out b hb; omega
        have HPA := Lib.hid PA
        have HMZ : Hid (Inl.mzL ks ≤ 100000) := by show _ ≤ _; omega
        have HKS := Lib.hid (show Inl.szL ks < n by omega)
        clear hR hx hbel hok hbl hsn zA bwA hmz1
        go_upto_region 5 with (fail)
        rw [← hwA, ← hp]
        obtain ⟨e0, e1, e2, e3, e4, e5, e6, e7, e8, e9, ef⟩ := PA.all
        clear hwA hp HROW c0 c1 c2 c3 c4 c5 c6 c7 c8 c9 PA
        have hdl : m ≤ 10000000 := by omega
        by_cases h1 : kd = 9 ∨ kd = 11
        · have HX2 := Lib.hid (show (Inl.entR (l.take (k + 1))).map Inl.d = raw.map Inl.d ++ (entL ks).map Inl.d by rw [HSN.out, Inl.entX, if_pos h1]; rfl)
          have hel := Nat.le_trans (Inl.len_le (entL ks)) (entL_szle ks)
          have IK := Lib.hid (IH.out (Inl.szL ks) HKS.out ks ok (.slice ak nk ck) wA (Nat.le_refl _) (by have := HKS.out; omega) HMZ.out HIN.out.kids (fun b hb => by have := HBp.out b hb; have := ZA.out; omega))
          obtain ⟨me, hme⟩ : ∃ me, me = ((entL ks).map Inl.d).length := ⟨_, rfl⟩
          have hme2 : me ≤ Inl.szL ks := by rw [hme, List.length_map]; exact hel
          have HME := Lib.hid hme.symm
          clear hel hme
          rcases h1 with rfl | rfl
          all_goals
            go_wp2_with fail
            (with_reducible refine IK.out.mono ?_)
            rintro e w1 ⟨vk1, rfl, hk1, b1⟩
            obtain ⟨ak1, ck1, hvk1, hsk1⟩ := Rd.sl_open hk1
            obtain rfl : vk1 = .slice ak1 me ck1 := by rw [HME.out] at hvk1; simpa using hvk1
            have U1 := Lib.hid (UA.out.below b1)
            have HK1 := Lib.hid (show Rd (fun b => ok b ∨ p ≤ b) w1 (.sl 10 ((entL ks).map Inl.d)) [.slice ak1 me ck1] from hk1.weaken (fun b hb => hb.imp id (fun hb => by have := ZA.out; omega)))
            have hsk := HKS.out
            clear hk1 b1 IK hvk1 hsk1
            go_wp2_with (at_builtin; refine wpList_puts rfl _ _ 38 rfl iI _ 192 Tryz.underlying38 hiI hzI0 hzI1 hzI2 rfl (by decide) U1.out HB.out (.slice ak1 me ck1) HK1.out (fun rs ok' h => one_inls (entL ks) rs ok' w1 h) HDN.out HME.out (by omega) (by decide) rfl rfl ?_)
            intro a' c' rows' w9 hrow hg9
            have HROW := Lib.hid hrow
            rw [← HX2.out] at HROW
            clear hrow hg9
            go_wp2
            go_roundw
            case rel => exact ⟨k + 1, _, by omega, by go_num, HROW.out⟩
            case measure => simp [intOf]; omega
        by_cases h2 : kd = 12 ∨ kd = 14 ∨ kd = 13
        · have HX2 := Lib.hid (show (Inl.entR (l.take (k + 1))).map Inl.d = raw.map Inl.d ++ [] by rw [HSN.out, Inl.entX, if_neg h1, if_pos h2]; first | rfl | simp)
          have HROW := Lib.hid UA.out.top
          have HX3 : Hid ((Inl.entR (l.take (k + 1))).map Inl.d = raw.map Inl.d) := by show _ = _; rw [HX2.out, List.append_nil]
          rw [← HX3.out] at HROW
          rcases h2 with rfl | rfl | rfl
          all_goals
            go_wp2
            go_roundw
            case rel => exact ⟨k + 1, _, by omega, by go_num, HROW.out⟩
            case measure => simp [intOf]; omega
        by_cases h4 : kd = 16
        · have HX2 := Lib.hid (show (Inl.entR (l.take (k + 1))).map Inl.d = raw.map Inl.d ++ [(txI d).d] by rw [HSN.out, Inl.entX, if_neg h1, if_neg h2, if_pos h4]; first | rfl | simp)
          subst h4
          go_wp2_with (at_builtin; refine wpList_put rfl _ _ 38 rfl iI _ 192 Tryz.underlying38 hiI hzI0 hzI1 hzI2 rfl (by decide) UA.out HB.out (txI d).d [.int .i64 1, .string d, .string ⟨#[]⟩, .string ⟨#[]⟩, .string ⟨#[]⟩, .slice none 0 0, .slice none 0 0, .slice none 0 0, .slice none 0 0, .slice none 0 0] (tx_nil _ _ _) rfl one_ten HDN.out hdl (by decide) rfl rfl ?_)
          intro a' c' w9 hrow hg9
          have HROW := Lib.hid hrow
          rw [← HX2.out] at HROW
          clear hrow hg9
          go_wp2
          go_roundw
          case rel => exact ⟨k + 1, _, by omega, by go_num, HROW.out⟩
          case measure => simp [intOf]; omega
        by_cases h3 : kd = 2 ∨ kd = 3
        · have HX2 := Lib.hid (show (Inl.entR (l.take (k + 1))).map Inl.d = raw.map Inl.d ++ [(txI ⟨#[32]⟩).d] by rw [HSN.out, Inl.entX, if_neg h1, if_neg h2, if_neg h4, if_pos h3]; first | rfl | simp)
          rcases h3 with rfl | rfl
          all_goals
            go_wp2_with (at_builtin; refine wpList_put rfl _ _ 38 rfl iI _ 192 Tryz.underlying38 hiI hzI0 hzI1 hzI2 rfl (by decide) UA.out HB.out (txI ⟨#[32]⟩).d [.int .i64 1, .string ⟨#[32]⟩, .string ⟨#[]⟩, .string ⟨#[]⟩, .string ⟨#[]⟩, .slice none 0 0, .slice none 0 0, .slice none 0 0, .slice none 0 0, .slice none 0 0] (tx_nil _ _ _) rfl one_ten HDN.out hdl (by decide) rfl rfl ?_)
            intro a' c' w9 hrow hg9
            have HROW := Lib.hid hrow
            rw [← HX2.out] at HROW
            clear hrow hg9
            go_wp2
            go_roundw
            case rel => exact ⟨k + 1, _, by omega, by go_num, HROW.out⟩
            case measure => simp [intOf]; omega
        by_cases h5 : kd = 10
        · have HX2 := Lib.hid (show (Inl.entR (l.take (k + 1))).map Inl.d = raw.map Inl.d ++ [(Inl.mk kd t d ti at0 ar ci (entL ks)).d] by rw [HSN.out, Inl.entX, if_neg h1, if_neg h2, if_neg h4, if_neg h3, if_pos h5]; first | rfl | simp)
          subst h5
          obtain ⟨w2, hw2⟩ : ∃ w2, w2 = ((wA.setCell ⟨p, 4, none⟩ (.string ⟨#[]⟩)).setCell ⟨p, 5, none⟩ (.slice none 0 0)).setCell ⟨p, 6, none⟩ (.slice none 0 0) := ⟨_, rfl⟩
          have HP2 : Hid (PB p [.int .i64 10, .string t, .string d, .string ti, .string ⟨#[]⟩, .slice none 0 0, .slice none 0 0, .slice aa na ca, .slice ai ni ci', .slice ak nk ck] w2) := by
            show PB _ _ _
            rw [hw2]; exact ((HPA.out.set 4 _).set 5 _).set 6 _
          have HU0 : Hid (RowU 47 10 ok p w (raw.map Inl.d) rows (.slice av m cv) w2) := by
            show RowU _ _ _ _ _ _ _ _ _
            rw [hw2]; exact ((UA.out.set (Nat.le_refl _) 4 _).set (Nat.le_refl _) 5 _).set (Nat.le_refl _) 6 _
          have st2 : ∀ b, ok b → w2.heap[b]? = wA.heap[b]? := fun b hb => by
            have hne : b ≠ p := by have := HBp.out b hb; omega
            rw [hw2, Below.heap_setCell _ ⟨p, 6, none⟩ _ b hne, Below.heap_setCell _ ⟨p, 5, none⟩ _ b hne, Below.heap_setCell _ ⟨p, 4, none⟩ _ b hne]
          have HI2 := Lib.hid (show InR ok w2 at0 ar ci ks (.slice none 0 0) (.slice none 0 0) (.slice aa na ca) (.slice ai ni ci') (.slice ak nk ck) from
            ⟨⟨Rd.nil_mk _ _ _, Rd.nil_mk _ _ _⟩, Rd.keep (fun b hb _ => ⟨hb, st2 b hb⟩) _ _ HIN.out.args, Rd.keep (fun b hb _ => ⟨hb, st2 b hb⟩) _ _ HIN.out.cites, Rd.keep (fun b hb _ => ⟨hb, st2 b hb⟩) _ _ HIN.out.kids⟩)
          have HW2 := Lib.hid hw2
          clear hw2 st2
          go_upto_region 20 with (fail)
          rw [← HW2.out]
          clear HW2 e0 e1 e2 e3 e4 e5 e6 e7 e8 e9 ef
          obtain ⟨e0, e1, e2, e3, e4, e5, e6, e7, e8, e9, ef⟩ := HP2.out.all
          have IK := Lib.hid (IH.out (Inl.szL ks) HKS.out ks ok (.slice ak nk ck) w2 (Nat.le_refl _) (by have := HKS.out; omega) HMZ.out HI2.out.kids (fun b hb => by have := HBp.out b hb; have := HP2.out.lt; omega))
          go_wp2_with fail
          (with_reducible refine IK.out.mono ?_)
          rintro e w3 ⟨vk1, rfl, hk1, b3⟩
          obtain ⟨me, hme⟩ : ∃ me, me = ((entL ks).map Inl.d).length := ⟨_, rfl⟩
          obtain ⟨ak1, ck1, hvk1, -⟩ := Rd.sl_open hk1
          obtain rfl : vk1 = .slice ak1 me ck1 := by rw [← hme] at hvk1; simpa using hvk1
          have hpl0 := HP2.out.lt
          have hk1' := hk1.weaken (ok' := fun b => ok b ∨ p < b) (fun b hb => hb.imp id (fun hb => by omega))
          have P3 := HP2.out.grown (grown_below b3)
          have HU3 := Lib.hid (HU0.out.below b3)
          obtain ⟨w4, hw4⟩ : ∃ w4, w4 = w3.setCell ⟨p, 9, none⟩ (.slice ak1 me ck1) := ⟨_, rfl⟩
          have far : ∀ b, b ≠ p → w4.heap[b]? = w3.heap[b]? := fun b hb => by rw [hw4]; exact Below.heap_setCell w3 ⟨p, 9, none⟩ _ b hb
          have HU4 : Hid (RowU 47 10 ok p w (raw.map Inl.d) rows (.slice av m cv) w4) := by
            show RowU _ _ _ _ _ _ _ _ _
            rw [hw4]; exact HU3.out.set (Nat.le_refl _) 9 _
          have P4 : PB p [.int .i64 10, .string t, .string d, .string ti, .string ⟨#[]⟩, .slice none 0 0, .slice none 0 0, .slice aa na ca, .slice ai ni ci', .slice ak1 me ck1] w4 := by rw [hw4]; exact P3.set 9 _
          have stA : ∀ (dd : D) (cs : List Value), Rd ok w2 dd cs → Rd (fun b => ok b ∨ p ≤ b) w4 dd cs := fun dd cs h => Rd.keep (fun b hb hlt' => ⟨.inl hb, by rw [far b (by have := HBp.out b hb; omega)]; exact b3.block b hlt'⟩) _ _ h
          have XD := Lib.hid (show Rd (fun b => ok b ∨ p ≤ b) w4 (Inl.mk 10 t d ti at0 ar ci (entL ks)).d [.int .i64 10, .string t, .string d, .string ti, .string ⟨#[]⟩, .slice none 0 0, .slice none 0 0, .slice aa na ca, .slice ai ni ci', .slice ak1 me ck1] from
            Inl.mk_ 10 t d ti (a := at0) ⟨⟨stA _ _ HI2.out.at_.cls, stA _ _ HI2.out.at_.prs⟩, stA _ _ HI2.out.args, stA _ _ HI2.out.cites, Rd.keep (fun b hb hlt' => ⟨hb.imp id Nat.le_of_lt, far b (by rcases hb with hb | hb; (have := HBp.out b hb; omega); omega)⟩) _ _ hk1'⟩)
          have HME := Lib.hid hme
          have y9 := P3.cell 9 _ rfl
          have yf := P3.free 9
          have hl3 := P3.lt
          have HW4 := Lib.hid hw4
          have HP4 := Lib.hid P4
          clear hk1 hk1' b3 IK hvk1 P3 HU3 P4 stA far hw4 hme e0 e1 e2 e3 e4 e5 e6 e7 e8 e9 ef
          go_upto_region 21 with (fail)
          rw [← HW4.out]
          clear HW4 y9 yf
          obtain ⟨z0, z1, z2, z3, z4, z5, z6, z7, z8, z9, zf⟩ := HP4.out.all
          go_wp2_with (at_builtin; refine wpList_put rfl _ _ 38 rfl iI _ 192 Tryz.underlying38 hiI hzI0 hzI1 hzI2 rfl (by decide) HU4.out HB.out (Inl.mk 10 t d ti at0 ar ci (entL ks)).d [.int .i64 10, .string t, .string d, .string ti, .string ⟨#[]⟩, .slice none 0 0, .slice none 0 0, .slice aa na ca, .slice ai ni ci', .slice ak1 me ck1] XD.out rfl one_ten HDN.out hdl (by decide) rfl rfl ?_)
          intro a' c' w9 hrow hg9
          have HROW := Lib.hid hrow
          rw [← HX2.out] at HROW
          clear hrow hg9
          go_wp2
          go_roundw
          case rel => exact ⟨k + 1, _, by omega, by go_num, HROW.out⟩
          case measure => simp [intOf]; omega
        by_cases h6 : kd = 6 ∨ kd = 7 ∨ kd = 8
        · have HXA := Lib.hid (show (Inl.entR (l.take (k + 1))).map Inl.d = raw.map Inl.d ++ (if (entL ks).isEmpty = true then [] else [Inl.mk kd t d ti at_ ar ci (entL ks)]).map Inl.d by rw [HSN.out, Inl.entX, if_neg h1, if_neg h2, if_neg h4, if_neg h3, if_neg h5, if_pos h6]; rfl)
          have HU0 := UA
          rcases h6 with rfl | rfl | rfl
          · have IK := Lib.hid (IH.out (Inl.szL ks) HKS.out ks ok (.slice ak nk ck) wA (Nat.le_refl _) (by have := HKS.out; omega) HMZ.out HIN.out.kids (fun b hb => by have := HBp.out b hb; have := HPA.out.lt; omega))
            go_wp2_with fail
            (with_reducible refine IK.out.mono ?_)
            rintro e w3 ⟨vk1, rfl, hk1, b3⟩
            obtain ⟨me, hme⟩ : ∃ me, me = ((entL ks).map Inl.d).length := ⟨_, rfl⟩
            obtain ⟨ak1, ck1, hvk1, -⟩ := Rd.sl_open hk1
            obtain rfl : vk1 = .slice ak1 me ck1 := by rw [← hme] at hvk1; simpa using hvk1
            have hpl0 := HPA.out.lt
            have hk1' := hk1.weaken (ok' := fun b => ok b ∨ p < b) (fun b hb => hb.imp id (fun hb => by omega))
            have P3 := HPA.out.grown (grown_below b3)
            have HU3 := Lib.hid (HU0.out.below b3)
            obtain ⟨w4, hw4⟩ : ∃ w4, w4 = w3.setCell ⟨p, 9, none⟩ (.slice ak1 me ck1) := ⟨_, rfl⟩
            have far : ∀ b, b ≠ p → w4.heap[b]? = w3.heap[b]? := fun b hb => by rw [hw4]; exact Below.heap_setCell w3 ⟨p, 9, none⟩ _ b hb
            have HU4 : Hid (RowU 47 10 ok p w (raw.map Inl.d) rows (.slice av m cv) w4) := by
              show RowU _ _ _ _ _ _ _ _ _
              rw [hw4]; exact HU3.out.set (Nat.le_refl _) 9 _
            have P4 : PB p [.int .i64 6, .string t, .string d, .string ti, .string at_.id, .slice ac nc cc, .slice ap np cp, .slice aa na ca, .slice ai ni ci', .slice ak1 me ck1] w4 := by rw [hw4]; exact P3.set 9 _
            have stA : ∀ (dd : D) (cs : List Value), Rd ok wA dd cs → Rd (fun b => ok b ∨ p ≤ b) w4 dd cs := fun dd cs h => Rd.keep (fun b hb hlt' => ⟨.inl hb, by rw [far b (by have := HBp.out b hb; omega)]; exact b3.block b hlt'⟩) _ _ h
            have XD := Lib.hid (show Rd (fun b => ok b ∨ p ≤ b) w4 (Inl.mk 6 t d ti at_ ar ci (entL ks)).d [.int .i64 6, .string t, .string d, .string ti, .string at_.id, .slice ac nc cc, .slice ap np cp, .slice aa na ca, .slice ai ni ci', .slice ak1 me ck1] from
              Inl.mk_ 6 t d ti (a := at_) ⟨⟨stA _ _ HIN.out.at_.cls, stA _ _ HIN.out.at_.prs⟩, stA _ _ HIN.out.args, stA _ _ HIN.out.cites, Rd.keep (fun b hb hlt' => ⟨hb.imp id Nat.le_of_lt, far b (by rcases hb with hb | hb; (have := HBp.out b hb; omega); omega)⟩) _ _ hk1'⟩)
            have HME := Lib.hid hme
            have y9 := P3.cell 9 _ rfl
            have yf := P3.free 9
            have hl3 := P3.lt
            have HW4 := Lib.hid hw4
            have HP4 := Lib.hid P4
            clear hk1 hk1' b3 IK hvk1 P3 HU3 P4 stA far hw4 hme e0 e1 e2 e3 e4 e5 e6 e7 e8 e9 ef
            go_upto_region 26 with (fail)
            rw [← HW4.out]
            clear HW4 y9 yf
            obtain ⟨z0, z1, z2, z3, z4, z5, z6, z7, z8, z9, zf⟩ := HP4.out.all
            have hz4 : w4.heap.size = w4.heap.size := rfl
            by_cases hem : (entL ks) = []
            · have hme0 : me = 0 := by rw [HME.out, hem]; rfl
              have q0 : decide ((0 : Int) < (me : Int)) = false := decide_eq_false (by omega)
              have q1 : decide (0 < me) = false := decide_eq_false (by omega)
              have HROW := Lib.hid HU4.out.top
              have HX3 : Hid ((Inl.entR (l.take (k + 1))).map Inl.d = raw.map Inl.d) := by show _ = _; rw [HXA.out, hem]; simp
              rw [← HX3.out] at HROW
              clear hz4 hem hme0
              go_wp2
              go_roundw
              case rel => exact ⟨k + 1, _, by omega, by go_num, HROW.out⟩
              case measure => simp [intOf]; omega
            · have hme0 : 0 < me := by
                rw [HME.out, List.length_map]
                exact List.length_pos_iff.2 hem
              have q0 : decide ((0 : Int) < (me : Int)) = true := decide_eq_true (by omega)
              have q1 : decide (0 < me) = true := decide_eq_true (by omega)
              have HX2 : Hid ((Inl.entR (l.take (k + 1))).map Inl.d = raw.map Inl.d ++ [(Inl.mk 6 t d ti at_ ar ci (entL ks)).d]) := by
                show _ = _
                rw [HXA.out, if_neg (by rw [List.isEmpty_iff]; exact hem)]; rfl
              clear hz4 hem
              go_wp2_with (at_builtin; refine wpList_put rfl _ _ 38 rfl iI _ 192 Tryz.underlying38 hiI hzI0 hzI1 hzI2 rfl (by decide) HU4.out HB.out (Inl.mk 6 t d ti at_ ar ci (entL ks)).d [.int .i64 6, .string t, .string d, .string ti, .string at_.id, .slice ac nc cc, .slice ap np cp, .slice aa na ca, .slice ai ni ci', .slice ak1 me ck1] XD.out rfl one_ten HDN.out hdl (by decide) rfl rfl ?_)
              intro a' c' w9 hrow hg9
              have HROW := Lib.hid hrow
              rw [← HX2.out] at HROW
              clear hrow hg9
              go_wp2
              go_roundw
              case rel => exact ⟨k + 1, _, by omega, by go_num, HROW.out⟩
              case measure => simp [intOf]; omega
          · have IK := Lib.hid (IH.out (Inl.szL ks) HKS.out ks ok (.slice ak nk ck) wA (Nat.le_refl _) (by have := HKS.out; omega) HMZ.out HIN.out.kids (fun b hb => by have := HBp.out b hb; have := HPA.out.lt; omega))
            go_wp2_with fail
            (with_reducible refine IK.out.mono ?_)
            rintro e w3 ⟨vk1, rfl, hk1, b3⟩
            obtain ⟨me, hme⟩ : ∃ me, me = ((entL ks).map Inl.d).length := ⟨_, rfl⟩
            obtain ⟨ak1, ck1, hvk1, -⟩ := Rd.sl_open hk1
            obtain rfl : vk1 = .slice ak1 me ck1 := by rw [← hme] at hvk1; simpa using hvk1
            have hpl0 := HPA.out.lt
            have hk1' := hk1.weaken (ok' := fun b => ok b ∨ p < b) (fun b hb => hb.imp id (fun hb => by omega))
            have P3 := HPA.out.grown (grown_below b3)
            have HU3 := Lib.hid (HU0.out.below b3)
            obtain ⟨w4, hw4⟩ : ∃ w4, w4 = w3.setCell ⟨p, 9, none⟩ (.slice ak1 me ck1) := ⟨_, rfl⟩
            have far : ∀ b, b ≠ p → w4.heap[b]? = w3.heap[b]? := fun b hb => by rw [hw4]; exact Below.heap_setCell w3 ⟨p, 9, none⟩ _ b hb
            have HU4 : Hid (RowU 47 10 ok p w (raw.map Inl.d) rows (.slice av m cv) w4) := by
              show RowU _ _ _ _ _ _ _ _ _
              rw [hw4]; exact HU3.out.set (Nat.le_refl _) 9 _
            have P4 : PB p [.int .i64 7, .string t, .string d, .string ti, .string at_.id, .slice ac nc cc, .slice ap np cp, .slice aa na ca, .slice ai ni ci', .slice ak1 me ck1] w4 := by rw [hw4]; exact P3.set 9 _
            have stA : ∀ (dd : D) (cs : List Value), Rd ok wA dd cs → Rd (fun b => ok b ∨ p ≤ b) w4 dd cs := fun dd cs h => Rd.keep (fun b hb hlt' => ⟨.inl hb, by rw [far b (by have := HBp.out b hb; omega)]; exact b3.block b hlt'⟩) _ _ h
            have XD := Lib.hid (show Rd (fun b => ok b ∨ p ≤ b) w4 (Inl.mk 7 t d ti at_ ar ci (entL ks)).d [.int .i64 7, .string t, .string d, .string ti, .string at_.id, .slice ac nc cc, .slice ap np cp, .slice aa na ca, .slice ai ni ci', .slice ak1 me ck1] from
              Inl.mk_ 7 t d ti (a := at_) ⟨⟨stA _ _ HIN.out.at_.cls, stA _ _ HIN.out.at_.prs⟩, stA _ _ HIN.out.args, stA _ _ HIN.out.cites, Rd.keep (fun b hb hlt' => ⟨hb.imp id Nat.le_of_lt, far b (by rcases hb with hb | hb; (have := HBp.out b hb; omega); omega)⟩) _ _ hk1'⟩)
            have HME := Lib.hid hme
            have y9 := P3.cell 9 _ rfl
            have yf := P3.free 9
            have hl3 := P3.lt
            have HW4 := Lib.hid hw4
            have HP4 := Lib.hid P4
            clear hk1 hk1' b3 IK hvk1 P3 HU3 P4 stA far hw4 hme e0 e1 e2 e3 e4 e5 e6 e7 e8 e9 ef
            go_upto_region 26 with (fail)
            rw [← HW4.out]
            clear HW4 y9 yf
            obtain ⟨z0, z1, z2, z3, z4, z5, z6, z7, z8, z9, zf⟩ := HP4.out.all
            have hz4 : w4.heap.size = w4.heap.size := rfl
            by_cases hem : (entL ks) = []
            · have hme0 : me = 0 := by rw [HME.out, hem]; rfl
              have q0 : decide ((0 : Int) < (me : Int)) = false := decide_eq_false (by omega)
              have q1 : decide (0 < me) = false := decide_eq_false (by omega)
              have HROW := Lib.hid HU4.out.top
              have HX3 : Hid ((Inl.entR (l.take (k + 1))).map Inl.d = raw.map Inl.d) := by show _ = _; rw [HXA.out, hem]; simp
              rw [← HX3.out] at HROW
              clear hz4 hem hme0
              go_wp2
              go_roundw
              case rel => exact ⟨k + 1, _, by omega, by go_num, HROW.out⟩
              case measure => simp [intOf]; omega
            · have hme0 : 0 < me := by
                rw [HME.out, List.length_map]
                exact List.length_pos_iff.2 hem
              have q0 : decide ((0 : Int) < (me : Int)) = true := decide_eq_true (by omega)
              have q1 : decide (0 < me) = true := decide_eq_true (by omega)
              have HX2 : Hid ((Inl.entR (l.take (k + 1))).map Inl.d = raw.map Inl.d ++ [(Inl.mk 7 t d ti at_ ar ci (entL ks)).d]) := by
                show _ = _
                rw [HXA.out, if_neg (by rw [List.isEmpty_iff]; exact hem)]; rfl
              clear hz4 hem
              go_wp2_with (at_builtin; refine wpList_put rfl _ _ 38 rfl iI _ 192 Tryz.underlying38 hiI hzI0 hzI1 hzI2 rfl (by decide) HU4.out HB.out (Inl.mk 7 t d ti at_ ar ci (entL ks)).d [.int .i64 7, .string t, .string d, .string ti, .string at_.id, .slice ac nc cc, .slice ap np cp, .slice aa na ca, .slice ai ni ci', .slice ak1 me ck1] XD.out rfl one_ten HDN.out hdl (by decide) rfl rfl ?_)
              intro a' c' w9 hrow hg9
              have HROW := Lib.hid hrow
              rw [← HX2.out] at HROW
              clear hrow hg9
              go_wp2
              go_roundw
              case rel => exact ⟨k + 1, _, by omega, by go_num, HROW.out⟩
              case measure => simp [intOf]; omega
          · have IK := Lib.hid (IH.out (Inl.szL ks) HKS.out ks ok (.slice ak nk ck) wA (Nat.le_refl _) (by have := HKS.out; omega) HMZ.out HIN.out.kids (fun b hb => by have := HBp.out b hb; have := HPA.out.lt; omega))
            go_wp2_with fail
            (with_reducible refine IK.out.mono ?_)
            rintro e w3 ⟨vk1, rfl, hk1, b3⟩
            obtain ⟨me, hme⟩ : ∃ me, me = ((entL ks).map Inl.d).length := ⟨_, rfl⟩
            obtain ⟨ak1, ck1, hvk1, -⟩ := Rd.sl_open hk1
            obtain rfl : vk1 = .slice ak1 me ck1 := by rw [← hme] at hvk1; simpa using hvk1
            have hpl0 := HPA.out.lt
            have hk1' := hk1.weaken (ok' := fun b => ok b ∨ p < b) (fun b hb => hb.imp id (fun hb => by omega))
            have P3 := HPA.out.grown (grown_below b3)
            have HU3 := Lib.hid (HU0.out.below b3)
            obtain ⟨w4, hw4⟩ : ∃ w4, w4 = w3.setCell ⟨p, 9, none⟩ (.slice ak1 me ck1) := ⟨_, rfl⟩
            have far : ∀ b, b ≠ p → w4.heap[b]? = w3.heap[b]? := fun b hb => by rw [hw4]; exact Below.heap_setCell w3 ⟨p, 9, none⟩ _ b hb
            have HU4 : Hid (RowU 47 10 ok p w (raw.map Inl.d) rows (.slice av m cv) w4) := by
              show RowU _ _ _ _ _ _ _ _ _
              rw [hw4]; exact HU3.out.set (Nat.le_refl _) 9 _
            have P4 : PB p [.int .i64 8, .string t, .string d, .string ti, .string at_.id, .slice ac nc cc, .slice ap np cp, .slice aa na ca, .slice ai ni ci', .slice ak1 me ck1] w4 := by rw [hw4]; exact P3.set 9 _
            have stA : ∀ (dd : D) (cs : List Value), Rd ok wA dd cs → Rd (fun b => ok b ∨ p ≤ b) w4 dd cs := fun dd cs h => Rd.keep (fun b hb hlt' => ⟨.inl hb, by rw [far b (by have := HBp.out b hb; omega)]; exact b3.block b hlt'⟩) _ _ h
            have XD := Lib.hid (show Rd (fun b => ok b ∨ p ≤ b) w4 (Inl.mk 8 t d ti at_ ar ci (entL ks)).d [.int .i64 8, .string t, .string d, .string ti, .string at_.id, .slice ac nc cc, .slice ap np cp, .slice aa na ca, .slice ai ni ci', .slice ak1 me ck1] from
              Inl.mk_ 8 t d ti (a := at_) ⟨⟨stA _ _ HIN.out.at_.cls, stA _ _ HIN.out.at_.prs⟩, stA _ _ HIN.out.args, stA _ _ HIN.out.cites, Rd.keep (fun b hb hlt' => ⟨hb.imp id Nat.le_of_lt, far b (by rcases hb with hb | hb; (have := HBp.out b hb; omega); omega)⟩) _ _ hk1'⟩)
            have HME := Lib.hid hme
            have y9 := P3.cell 9 _ rfl
            have yf := P3.free 9
            have hl3 := P3.lt
            have HW4 := Lib.hid hw4
            have HP4 := Lib.hid P4
            clear hk1 hk1' b3 IK hvk1 P3 HU3 P4 stA far hw4 hme e0 e1 e2 e3 e4 e5 e6 e7 e8 e9 ef
            go_upto_region 26 with (fail)
            rw [← HW4.out]
            clear HW4 y9 yf
            obtain ⟨z0, z1, z2, z3, z4, z5, z6, z7, z8, z9, zf⟩ := HP4.out.all
            have hz4 : w4.heap.size = w4.heap.size := rfl
            by_cases hem : (entL ks) = []
            · have hme0 : me = 0 := by rw [HME.out, hem]; rfl
              have q0 : decide ((0 : Int) < (me : Int)) = false := decide_eq_false (by omega)
              have q1 : decide (0 < me) = false := decide_eq_false (by omega)
              have HROW := Lib.hid HU4.out.top
              have HX3 : Hid ((Inl.entR (l.take (k + 1))).map Inl.d = raw.map Inl.d) := by show _ = _; rw [HXA.out, hem]; simp
              rw [← HX3.out] at HROW
              clear hz4 hem hme0
              go_wp2
              go_roundw
              case rel => exact ⟨k + 1, _, by omega, by go_num, HROW.out⟩
              case measure => simp [intOf]; omega
            · have hme0 : 0 < me := by
                rw [HME.out, List.length_map]
                exact List.length_pos_iff.2 hem
              have q0 : decide ((0 : Int) < (me : Int)) = true := decide_eq_true (by omega)
              have q1 : decide (0 < me) = true := decide_eq_true (by omega)
              have HX2 : Hid ((Inl.entR (l.take (k + 1))).map Inl.d = raw.map Inl.d ++ [(Inl.mk 8 t d ti at_ ar ci (entL ks)).d]) := by
                show _ = _
                rw [HXA.out, if_neg (by rw [List.isEmpty_iff]; exact hem)]; rfl
              clear hz4 hem
              go_wp2_with (at_builtin; refine wpList_put rfl _ _ 38 rfl iI _ 192 Tryz.underlying38 hiI hzI0 hzI1 hzI2 rfl (by decide) HU4.out HB.out (Inl.mk 8 t d ti at_ ar ci (entL ks)).d [.int .i64 8, .string t, .string d, .string ti, .string at_.id, .slice ac nc cc, .slice ap np cp, .slice aa na ca, .slice ai ni ci', .slice ak1 me ck1] XD.out rfl one_ten HDN.out hdl (by decide) rfl rfl ?_)
              intro a' c' w9 hrow hg9
              have HROW := Lib.hid hrow
              rw [← HX2.out] at HROW
              clear hrow hg9
              go_wp2
              go_roundw
              case rel => exact ⟨k + 1, _, by omega, by go_num, HROW.out⟩
              case measure => simp [intOf]; omega
        have HX2 := Lib.hid (show (Inl.entR (l.take (k + 1))).map Inl.d = raw.map Inl.d ++ [(Inl.mk kd t d ti at_ ar ci ks).d] by rw [HSN.out, Inl.entX, if_neg h1, if_neg h2, if_neg h4, if_neg h3, if_neg h5, if_neg h6]; rfl)
        have q9 := beq_ff (k := kd) (n := 9) (by omega)
        have q11 := beq_ff (k := kd) (n := 11) (by omega)
        have q12 := beq_ff (k := kd) (n := 12) (by omega)
        have q14 := beq_ff (k := kd) (n := 14) (by omega)
        have q13 := beq_ff (k := kd) (n := 13) (by omega)
        have q16 := beq_ff (k := kd) (n := 16) (by omega)
        have q2 := beq_ff (k := kd) (n := 2) (by omega)
        have q3 := beq_ff (k := kd) (n := 3) (by omega)
        have q10 := beq_ff (k := kd) (n := 10) (by omega)
        have q6 := beq_ff (k := kd) (n := 6) (by omega)
        have q7 := beq_ff (k := kd) (n := 7) (by omega)
        have q8 := beq_ff (k := kd) (n := 8) (by omega)
        clear h1 h2 h3 h4 h5 h6
        go_wp2_with (at_builtin; refine wpList_put rfl _ _ 38 rfl iI _ 192 Tryz.underlying38 hiI hzI0 hzI1 hzI2 rfl (by decide) UA.out HB.out (Inl.mk kd t d ti at_ ar ci ks).d [.int .i64 kd, .string t, .string d, .string ti, .string at_.id, .slice ac nc cc, .slice ap np cp, .slice aa na ca, .slice ai ni ci', .slice ak nk ck] ((Inl.mk_ kd t d ti HIN.out).weaken (fun b hb => .inl hb)) rfl one_ten HDN.out hdl (by decide) rfl rfl ?_)
        intro a' c' w9 hrow hg9
        have HROW := Lib.hid hrow
        rw [← HX2.out] at HROW
        clear hrow hg9
        go_wp2
        go_roundw
        case rel => exact ⟨k + 1, _, by omega, by go_num, HROW.out⟩
        case measure => simp [intOf]; omega
      · have hkl : k = l.length := by omega
        subst hkl
        rw [List.take_length] at HRAW
        have hrd := HROW.out.rd
        rw [HRAW.out] at hrd
        have TD := Lib.hid (rTidy_any (Inl.entR l) (fun b => (ok b ∨ w.heap.size ≤ b) ∧ b < wr.heap.size) (.slice av m cv) wr (Nat.le_trans (Inl.entR_szle l) (by omega)) (Nat.le_trans (Inl.entR_mz l) hmz) hrd.inside (fun b hb => hb.2))
        have HBEL := Lib.hid hbel
        have hwz := hbel.size
        clear hrd hbel
        go_wp2_with fail
        (with_reducible refine TD.out.mono ?_)
        rintro e w2 ⟨v2, rfl, hr2, b2⟩
        obtain ⟨a2, n2, c2, rfl⟩ := Rd.sl_form hr2
        have HEND : Hid (RmPostO ok w (entL l) (.returned (.slice a2 n2 c2)) w2) := ⟨_, rfl, hr2.weaken (fun b hb => by
          rcases hb with hb | hb
          · exact hb.1
          · exact .inr (by omega)), below_trans_size HBEL.out b2⟩
        clear hr2 b2
        go_wp2
        go_ret
        exact HEND.out
end Go.Proofs.YtlbioncagkkkoaaGreatDoor
