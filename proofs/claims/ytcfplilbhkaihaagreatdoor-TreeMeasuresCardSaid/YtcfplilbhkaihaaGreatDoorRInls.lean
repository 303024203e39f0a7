/- The contract of publisherref04.Inlines: all inlines of blocks. -/
import Derived.Test.YtcfplilbhkaihaaGreatDoorRList
import Derived.Test.YtcfplilbhkaihaaGreatDoorInlines
import Derived.Test.YtcfplilbhkaihaaGreatDoorSizeD
namespace Go.Proofs.YtcfplilbhkaihaaGreatDoor
open Go.RowKit
set_option linter.unusedVariables false
set_option linter.unusedSimpArgs false

def Blk.lnI : Blk → List Inl
  | .mk _ _ _ _ _ _ _ li _ => li
def deepB : List Blk → List Inl
  | [] => []
  | x :: l => Inl.deepL x.lnI ++ deepB l
theorem deepB_app : ∀ (l m : List Blk), deepB (l ++ m) = deepB l ++ deepB m
  | [], m => rfl
  | x :: l, m => by rw [List.cons_append, deepB, deepB_app l m, deepB, List.append_assoc]
theorem deepB_snoc {l : List Blk} {k : Nat} {x : Blk} (h : l[k]? = some x) : deepB (l.take (k + 1)) = deepB (l.take k) ++ Inl.deepL x.lnI := by
  rw [List.take_add_one, h, deepB_app]; simp [deepB]
theorem deepB_part (l : List Blk) (k : Nat) : (deepB (l.take k)).length ≤ (deepB l).length := by
  have h : deepB l = deepB (l.take k ++ l.drop k) := by rw [List.take_append_drop]
  rw [h, deepB_app, List.length_append]; omega
mutual
theorem Blk.inls_deep : ∀ (x : Blk), x.inls = deepB x.each
  | .mk k lv i t d ti a li ks => by rw [Blk.inls, Blk.each, deepB, Blk.inlsL_deep ks]; rfl
theorem Blk.inlsL_deep : ∀ (l : List Blk), Blk.inlsL l = deepB (Blk.eachL l)
  | [] => by rw [Blk.inlsL, Blk.eachL]; rfl
  | x :: l => by rw [Blk.inlsL, Blk.eachL, deepB_app, Blk.inls_deep x, Blk.inlsL_deep l]
end
theorem own_lower {w : World} {B B' : Nat} {e : TypeId} {k : Nat} {v : Value} {n : Nat} {xs : List Value} (h : w.ownsRow B e k v n xs) (hB : B' ≤ B) : w.ownsRow B' e k v n xs := by
  refine ⟨h.1, ?_⟩
  rcases h.2 with h0 | ⟨g, cap, cur, hv, hg, r⟩
  · exact .inl h0
  · exact .inr ⟨g, cap, cur, hv, Nat.le_trans hB hg, r⟩
def RiRel (B : Nat) (w : World) (l : List Blk) (v vi : Value) (wr : World) : Prop :=
  ∃ (k : Nat) (rows : List (List Value)), k ≤ l.length ∧ vi = .int .i64 k ∧ Row 58 10 B w ((deepB (l.take k)).map Inl.d) rows v wr

set_option maxRecDepth 100000 in
set_option maxHeartbeats 4000000 in
theorem rInls_any (l : List Blk) (v : Value) (w : World) (hsz : Blk.szL l ≤ 1000000) (hil : (Blk.inlsL l).length ≤ 1000000) (hrd : Rd (· < w.heap.size) w (blksD l) [v]) :
    Calls Tryz.prog 18 #[v] w fun e w' => ∃ v', e = .returned v' ∧ Rd (· < w'.heap.size) w' (inlsD (Blk.inlsL l)) [v'] ∧ Below w.heap.size w w' := by
  obtain ⟨iI, hiI, hzI0, hzI1, hzI2⟩ := info_parts infoIn
  have LS := Lib.hid (list_any _ l w.heap.size v w (Nat.le_refl _) hsz hrd (Nat.le_refl _))
  rw [Blk.inlsL_deep] at hil ⊢
  obtain ⟨E, hE⟩ : ∃ E, E = Blk.eachL l := ⟨_, rfl⟩
  rw [← hE] at LS hil ⊢
  clear hrd hE
  go_enter Tryz.func18, Tryz.ntmps18
  go_wp2_with fail
  refine LS.out.mono ?_
  rintro e w1 ⟨v1, rows1, rfl, hr1⟩
  have b1 := hr1.bel
  have hE1 : Rd (· < w1.heap.size) w1 (blksD E) [v1] :=
    Rd.sl_own (l := E.map Blk.d) (rows := rows1) (B := w.heap.size) (e := 36) hr1.own (RdL.keep (fun b h1 h2 => ⟨h2, rfl⟩) _ _ hr1.red) hr1.len (fun g hg => (hr1.own.lt g hg).2)
  obtain ⟨a1, c1, hv1, hs1⟩ := Rd.sl_open hE1
  obtain rfl : v1 = .slice a1 E.length c1 := by simpa using hv1
  have hc1 : E.length ≤ c1 := by simpa using hs1.le
  have hm1 := hs1.max
  unfold maxLen at hm1
  have HS := Lib.hid hs1
  have HB1 := Lib.hid b1
  have R0 : Hid (RiRel w1.heap.size w1 E (.slice none 0 0) (.int .i64 0) w1) := ⟨0, [], Nat.zero_le _, rfl, Row.nil _ _ _ _⟩
  clear hr1 hE1 hv1 hs1 b1 LS
  go_wp2
  go_loopw [3, 5] (fun v vi wr => RiRel w1.heap.size w1 E v vi wr) (fun _ i _ => E.length - (intOf i).toNat)
  case atStart => exact R0.out
  case round =>
    clear R0
    obtain ⟨k, rows, hk, rfl, hrow⟩ := hrel
    have hdp := deepB_part E k
    obtain ⟨L, hL⟩ : ∃ L, L = ((deepB (E.take k)).map Inl.d).length := ⟨_, rfl⟩
    have hLl : L ≤ 1000000 := by rw [hL, List.length_map]; omega
    have HL := Lib.hid hL
    have hown := hrow.own
    rw [← hL] at hown
    obtain ⟨av, cv, rfl⟩ := own_slice hown
    have HOWN := Lib.hid hown
    have HROW := Lib.hid hrow
    have hbel := hrow.bel
    have hz := hbel.size
    clear hL hrow hown
    by_cases hlt : k < E.length
    · obtain ⟨x, hx⟩ : ∃ x, E[k]? = some x := ⟨_, List.getElem?_eq_getElem hlt⟩
      have hsn := deepB_snoc hx
      have hsl := deepB_part E (k + 1)
      rw [hsn, List.length_append] at hsl
      obtain ⟨kd, lv, i, t, d, ti, at_, li, ks⟩ := x
      obtain ⟨g, off, vc, vp, vl, vk, rfl, hok, hbl, hc, hR⟩ := blks_at (HS.out.below hbel) hx
      obtain ⟨al, nl, cl, rfl⟩ := Rd.slf hR.line
      have c9 := hc.c9
      have hli : Inl.szL li ≤ 1000000 := by
        rw [← Inl.deepL_sz]
        have : (Inl.deepL li).length ≤ (deepB E).length := by change (deepB (E.take k)).length + (Inl.deepL li).length ≤ _ at hsl; omega
        omega
      have hsl2 : L + (Inl.deepL li).length ≤ 1000000 := by
        change (deepB (E.take k)).length + (Inl.deepL li).length ≤ _ at hsl
        rw [HL.out, List.length_map]; omega
      have DC := Lib.hid (deep_any _ li w1.heap.size (.slice al nl cl) wr (Nat.le_refl _) hli hR.line hz)
      have HSN := Lib.hid hsn
      clear hc hR hx hsn hsl hdp hok hbl hli
      go_wp2_with fail
      refine DC.out.mono ?_
      rintro e w2 ⟨v2, rows2, rfl, hrow2⟩
      obtain ⟨M, hM⟩ : ∃ M, M = ((Inl.deepL li).map Inl.d).length := ⟨_, rfl⟩
      have hMl : L + M ≤ 1000000 := by rw [hM, List.length_map]; exact hsl2
      have hown2 := hrow2.own
      rw [← hM] at hown2
      obtain ⟨a2, c2, rfl⟩ := own_slice hown2
      have hb2 := hrow2.bel
      have hz2 := hb2.size
      have ROW2 := Lib.hid (HROW.out.up hz hb2)
      have HROW2 := Lib.hid hrow2
      have RD2 := Lib.hid (Reads.of_own hown2)
      have ON2 := Lib.hid (RdL.cells1 _ _ hrow2.red)
      have HM := Lib.hid hM
      have OW2 := ROW2.out.own
      rw [← HL.out] at OW2
      have HOW2 := Lib.hid OW2
      clear hM hown2 hrow2 hb2 OW2 DC c9 hsl2
      go_wp2_with (at_builtin; refine wpList_append_any _ rfl (.tmp 14) (.tmp 20) 31 rfl w1.heap.size 58 iI _ 10 192 Tryz.underlying31 hiI hzI0 hzI1 hzI2 rfl (by decide) (.slice av L cv) L rows.flatten rfl HOW2.out w2.heap.size a2 M c2 rows2.flatten rfl RD2.out ON2.out ?k3 ?k4 ?k5 ?_)
      case k3 => unfold maxLen; omega
      case k4 => omega
      case k5 => omega
      intro v3 w3 hown3 hg3 _
      obtain ⟨a3, c3, rfl⟩ := own_slice hown3
      have row3 := Lib.hid (ROW2.out.app (Nat.le_refl _) HROW2.out.red HROW2.out.len (by rw [← HL.out, ← HM.out]; exact hown3) hg3)
      clear hown3 hg3 ROW2 HROW2 RD2 ON2
      go_wp2
      go_roundw
      case rel =>
        refine ⟨k + 1, rows ++ rows2, by omega, by go_num, ?_⟩
        rw [HSN.out, List.map_append]
        exact row3.out
      case measure => simp [intOf]; omega
    · have hkl : k = E.length := by omega
      subst hkl
      have h1 := HROW.out
      rw [List.take_length] at h1 HL
      have HR1 := Lib.hid h1
      clear h1 HROW HOWN hdp
      go_wp2
      go_ret
      refine ⟨_, rfl, ?_, below_trans_size HB1.out hbel⟩
      have hown := HR1.out.own
      have h2 := Rd.sl_own (l := (deepB E).map Inl.d) (ok := (· < wr.heap.size)) (rows := rows) (B := w1.heap.size) (e := 58) hown (RdL.keep (fun b h1 h2 => ⟨h2, rfl⟩) _ _ HR1.out.red) HR1.out.len (fun g hg => (hown.lt g hg).2)
      exact h2
end Go.Proofs.YtcfplilbhkaihaaGreatDoor
