/- Contract of publisherref24.shown. -/
import Derived.Test.YtlbioncagkkkoaaDoorKTcI
import Derived.Test.YtlbioncagkkkoaaDoorKRMergO
import Derived.Deep.RegionHeld3
import Derived.Laws.Concat
namespace Go.Proofs.YtlbioncagkkkoaaDoor
open Go.RowKit
set_option linter.unusedVariables false
set_option linter.unusedSimpArgs false

theorem held_ten {w : World} {p S j : Nat} {v c0 c1 c2 c3 c4 c5 c6 c7 c8 c9 : Value} (h : w.cell? ⟨S, j, none⟩ = some v) (hne : S ≠ p) :
    ((((((((((w.setCell ⟨p, 0, none⟩ c0).setCell ⟨p, 1, none⟩ c1).setCell ⟨p, 2, none⟩ c2).setCell ⟨p, 3, none⟩ c3).setCell ⟨p, 4, none⟩ c4).setCell ⟨p, 5, none⟩ c5).setCell ⟨p, 6, none⟩ c6).setCell ⟨p, 7, none⟩ c7).setCell ⟨p, 8, none⟩ c8).setCell ⟨p, 9, none⟩ c9).cell? ⟨S, j, none⟩ = some v := by
  have e := ten_heap w p 0 c0 c1 c2 c3 c4 c5 c6 c7 c8 c9 S hne
  have e2 := (cell_same e j).trans h
  simpa only [ten, Nat.zero_add] using e2
/-- What the reference's shown entry asks. -/
structure RShOk (x : En) : Prop where
  sz : Inl.szL (shKids x) ≤ 1000000
  tx : Inl.txBL (shKids x)
  id : x.id.size ≤ 1000000
  txs : x.tx.size ≤ 100000
  ls : Inl.szL x.line ≤ 1000000
def RShPost (ok : Nat → Prop) (w : World) (x : En) (e : Ending) (w' : World) : Prop :=
  ∃ vk, e = .returned (.agg #[.int .i64 9, .string ⟨#[]⟩, .string (hashB ++ x.id), .string ⟨#[]⟩, .string ⟨#[]⟩, .slice none 0 0, .slice none 0 0, .slice none 0 0, .slice none 0 0, vk]) ∧ Rd (fun b => ok b ∨ w.heap.size ≤ b) w' (inlsD (Inl.mergeL (shKids x))) [vk] ∧ Below w.heap.size w w'

set_option maxRecDepth 100000 in
set_option maxHeartbeats 8000000 in
theorem rShown_any (x : En) (vl vr : Value) (ok : Nat → Prop) (w : World) (hR : EnR ok w x.line x.refs vl vr) (hB : ∀ b, ok b → b < w.heap.size) (hok : RShOk x) :
    Calls Tryd.prog 19 #[.agg #[.int .i64 x.lv, .string x.id, .string x.tx, vl, vr]] w (RShPost ok w x) := by
  obtain ⟨iI, hiI, hzI0, hzI1, hzI2⟩ := info_parts infoIn
  obtain ⟨al, nl, cl, rfl⟩ := Rd.sl_form hR.line
  obtain ⟨ar, nr, cr, rfl⟩ := Rd.sl_form hR.refs
  obtain ⟨S, hS⟩ : ∃ S, S = w.heap.size := ⟨_, rfl⟩
  obtain ⟨W0, hW0⟩ : ∃ W, W = (w.alloc (.cells #[.int .i64 x.lv, .string x.id, .string x.tx, .slice al nl cl, .slice ar nr cr] 40)).alloc (.cells #[.int .i64 0, .string ⟨#[]⟩, .string ⟨#[]⟩, .string ⟨#[]⟩, .string ⟨#[]⟩, .slice none 0 0, .slice none 0 0, .slice none 0 0, .slice none 0 0, .slice none 0 0] 38) := ⟨_, rfl⟩
  have z0 : W0.heap.size = S + 2 := by rw [hW0, hS]; simp
  have k0 : CB 40 S [.int .i64 x.lv, .string x.id, .string x.tx, .slice al nl cl, .slice ar nr cr] W0 := by rw [hW0, hS]; exact (CB.new _ _ w).below ((Below.refl _ _).alloc (Nat.le_refl _) _)
  have k1 : PB (S + 1) [.int .i64 0, .string ⟨#[]⟩, .string ⟨#[]⟩, .string ⟨#[]⟩, .string ⟨#[]⟩, .slice none 0 0, .slice none 0 0, .slice none 0 0, .slice none 0 0, .slice none 0 0] W0 := by
    have := heap_alloc_new (w.alloc (.cells #[.int .i64 x.lv, .string x.id, .string x.tx, .slice al nl cl, .slice ar nr cr] 40)) (.cells #[.int .i64 0, .string ⟨#[]⟩, .string ⟨#[]⟩, .string ⟨#[]⟩, .string ⟨#[]⟩, .slice none 0 0, .slice none 0 0, .slice none 0 0, .slice none 0 0, .slice none 0 0] 38)
    rw [World.size_alloc] at this
    rw [hW0, hS]; exact this
  have b0 : Below S w W0 := by rw [hW0, hS]; exact ((Below.refl _ _).alloc (Nat.le_refl _) _).alloc (by simp) _
  have HL : Hid (Rd ok W0 (inlsD x.line) [.slice al nl cl]) := hR.line.up0 (by rw [← hS]; exact b0)
  have HOK := Lib.hid hok
  have HS := Lib.hid hS
  have HW0 := Lib.hid hW0
  have K0 := Lib.hid k0
  have K1 := Lib.hid k1
  have B0 := Lib.hid b0
  have HBS : Hid (∀ b, ok b → b < S) := by show ∀ b, ok b → b < S; rw [hS]; exact hB
  obtain ⟨pre, hpre⟩ : ∃ pre, pre = (if emptyS x.tx = true then [] else [txI (x.tx ++ ⟨#[32]⟩)]) := ⟨_, rfl⟩
  have HKIDS : Hid (shKids x = pre ++ x.line) := by show _ = _; rw [hpre]; rfl
  have HPRE := Lib.hid hpre
  have hpl : (pre.map Inl.d).length ≤ 1 := by rw [hpre]; split <;> simp
  have q2 : x.tx.toList.isEmpty = emptyS x.tx := by rw [Lib.toList_data, Bool.eq_iff_iff, List.isEmpty_iff, emptyS, decide_eq_true_iff]
  have htx := hok.txs
  have hid := hok.id
  have e2 := k0.cell 2 _ rfl
  have Z0 := Lib.hid z0
  clear hR hB hok hS hW0 k0 k1 b0 hpre z0
  obtain ⟨lv, id, tx, line, refs⟩ := x
  dsimp only at *
  go_enter Tryd.func19, Tryd.ntmps19
  go_upto_if 6 with (fail)
  rw [← HS.out, ← HW0.out]
  go_cut [3] (fun v wx => ∃ rows, RowU 38 10 ok wx.heap.size W0 (pre.map Inl.d) rows v wx)
  case first =>
    by_cases hem : emptyS tx = true
    · obtain rfl : pre = [] := by rw [HPRE.out, if_pos hem]
      have q4 : (!emptyS tx) = false := by rw [hem]; rfl
      rw [q4]
      go_wp2
      go_meet
      exact ⟨_, RowU.nil _ _ _ _⟩
    · obtain rfl : pre = [txI (tx ++ ⟨#[32]⟩)] := by rw [HPRE.out, if_neg hem]
      have hem2 : emptyS tx = false := by simpa using hem
      have q4 : (!emptyS tx) = true := by rw [hem2]; rfl
      have q3 : tx.size + (⟨#[32]⟩ : ByteArray).size ≤ 9223372036854775807 := by have : (⟨#[32]⟩ : ByteArray).size = 1 := rfl; omega
      have RN := Lib.hid (RowU.nil 38 10 ok W0)
      have HN0 : Hid (([] : List D).length = 0) := rfl
      rw [q4]
      clear hem hem2 q4
      go_wp2_with (at_builtin; apply wpList_put (T := 38) (k := 10) (w := W0) (U := W0.heap.size) (ok := ok) (w0 := W0) (ds := []) (rows := []) (n := 0) (r := [.int .i64 1, .string (tx ++ ⟨#[32]⟩), .string ⟨#[]⟩, .string ⟨#[]⟩, .string ⟨#[]⟩, .slice none 0 0, .slice none 0 0, .slice none 0 0, .slice none 0 0, .slice none 0 0]) (s := .tmp 7) (x := .tmp 12) (t := 33) (bytes := 192) (ht := Tryd.underlying33) (hi := hiI) (hz := hzI0) (hsize := hzI1) (hby := hzI2) (h := RN.out) (d := (txI (tx ++ ⟨#[32]⟩)).d) (hx := tx_nil2 _ _ _) (h1 := one_ten) (hdn := rfl))
      case hgd => rfl
      case ho => rfl
      case hzs => rfl
      case hsz => decide
      case hB => exact fun b hb => by have := HBS.out b hb; have := Z0.out; omega
      case hr => rfl
      case hn => omega
      case hb200 => decide
      case hs => rfl
      case hxe => rfl
      intro a' c' w9 hrow hg9
      have HROW := Lib.hid hrow
      clear hrow hg9
      go_wp2
      go_meet
      exact ⟨_, HROW.out⟩
  case rest =>
    obtain ⟨rows, hrow⟩ := hcut
    obtain ⟨w1, hw1⟩ : ∃ w1 : World, w1 = wc := ⟨_, rfl⟩
    subst hw1
    obtain ⟨m, hm⟩ : ∃ m, m = (pre.map Inl.d).length := ⟨_, rfl⟩
    obtain ⟨av, cv, rfl, -, -⟩ := hrow.cap hm.symm
    have HROW := Lib.hid hrow
    have hbel := hrow.bel
    have K1' := Lib.hid (K0.out.below hbel)
    have Z1' := Lib.hid (K1.out.grown (grown_below hbel))
    have hw1 := hbel.size
    have hz0 := Z0.out
    have BW1 := Lib.hid (B0.out.trans (hbel.mono (by omega)))
    have e1 := K1'.out.cell 1 _ rfl
    have e3 := K1'.out.cell 3 _ rfl
    obtain ⟨a2, cap2, hv2, -⟩ := Rd.sl_open HL.out
    obtain ⟨me, hme⟩ : ∃ me, me = (line.map Inl.d).length := ⟨_, rfl⟩
    obtain rfl : nl = me := by rw [hme]; have h9 := (List.cons.inj hv2).1; injection h9
    have hll : nl ≤ 1000000 := by have h1 := Inl.len_le line; have h2 : Inl.szL line ≤ 1000000 := HOK.out.ls; rw [hme, List.length_map]; omega
    have HME := Lib.hid hme.symm
    have HDN := Lib.hid hm.symm
    have hmm : m ≤ 1 := by omega
    have hbz := HBS.out
    have UD := Lib.hid HROW.out.drew
    have HK1 := Lib.hid (show Rd (fun b => ok b ∨ w1.heap.size ≤ b) w1.drew (.sl 10 (line.map Inl.d)) [.slice al nl cl] from
      Rd.keep (w := W0) (w' := w1.drew) (ok := ok) (fun b hb hlt => ⟨.inl hb, hbel.block b (by have := hbz b hb; omega)⟩) _ _ HL.out)
    have HBW : Hid (∀ b, ok b → b < W0.heap.size) := fun b hb => by have := hbz b hb; omega
    have S0 : w1.drew.cell? ⟨S, 1, none⟩ = some (.string id) ∧ w1.drew.cell? ⟨S, 3, none⟩ = some (.slice al nl cl) := ⟨e1, e3⟩
    have q5 : (⟨#[35]⟩ : ByteArray).size + id.size ≤ 9223372036854775807 := by have : (⟨#[35]⟩ : ByteArray).size = 1 := rfl; omega
    have hadd : ∀ W : World, (Op.stringOp .add (⟨#[35]⟩ : ByteArray) id).run Tryd.prog W = .ok (.string (⟨#[35]⟩ ++ id)) W := fun W => run_string_add_sum W _ _ q5
    have q8 : ¬ (9223372036854775807 < 1 + id.size) := by omega
    have q9 : ¬ (9223372036854775807 < (⟨#[35]⟩ : ByteArray).size + id.size) := by omega
    have HZS : Hid (S < w1.heap.size ∧ S + 1 < w1.heap.size) := ⟨by omega, by omega⟩
    clear hbel e1 e3 hv2 hme hm hbz HL
    go_wp2_with fail
    go_region_held3 (fun w' => w'.cell? ⟨S, 1, none⟩ = some (.string id) ∧ w'.cell? ⟨S, 3, none⟩ = some (.slice al nl cl))
      (first | with_reducible exact S0 | with_reducible assumption | with_reducible exact S3 | with_reducible exact S4 | with_reducible exact ⟨held_ten S4.1 (Nat.ne_of_lt (Nat.lt_succ_self S)), held_ten S4.2 (Nat.ne_of_lt (Nat.lt_succ_self S))⟩)
      (first
        | (refine step_puts rfl (.tmp 17) (.tmp 19) 33 rfl iI _ 192 Tryd.underlying33 hiI hzI0 hzI1 hzI2 rfl (by decide) UD.out HBW.out (.slice al nl cl) HK1.out (fun rs ok' h => one_inls2 line rs ok' _ h) HDN.out HME.out (by omega) (by decide) rfl rfl ?_; intro a3 c3 rows3 w3 hrow3 hg3; have S3 : w3.cell? ⟨S, 1, none⟩ = some (.string id) ∧ w3.cell? ⟨S, 3, none⟩ = some (.slice al nl cl) := ⟨grown_cell hg3 S0.1 (fun e => by have := (UD.out.own.lt S e).1; have := Z0.out; omega), grown_cell hg3 S0.2 (fun e => by have := (UD.out.own.lt S e).1; have := Z0.out; omega)⟩; have MG := Lib.hid (rMergeO_any 1000000 (shKids ⟨lv, id, tx, line, refs⟩) (fun b => (ok b ∨ W0.heap.size ≤ b) ∧ b < w3.heap.size) (.slice a3 (m + nl) c3) w3 HOK.out.sz (Nat.le_refl _) (by have h1 := hrow3.rd.inside; rw [← List.map_append, ← HKIDS.out] at h1; exact h1) (fun b hb => hb.2) HOK.out.tx); have HBW3 := Lib.hid hrow3.bel; clear hrow3)
        | (go_simp; go_at_call 35; (with_reducible refine MG.out.mono ?_); rintro e w4 ⟨v4, rfl, hk4, b4⟩; obtain ⟨a4, n4, c4, rfl⟩ := Rd.sl_form hk4; have S4 : w4.cell? ⟨S, 1, none⟩ = some (.string id) ∧ w4.cell? ⟨S, 3, none⟩ = some (.slice al nl cl) := ⟨(b4.cell (p := ⟨S, 1, none⟩) (cell_lt S3.1)).trans S3.1, (b4.cell (p := ⟨S, 3, none⟩) (cell_lt S3.2)).trans S3.2⟩; have Z4 : PB (S + 1) [.int .i64 0, .string ⟨#[]⟩, .string ⟨#[]⟩, .string ⟨#[]⟩, .string ⟨#[]⟩, .slice none 0 0, .slice none 0 0, .slice none 0 0, .slice none 0 0, .slice none 0 0] w4 := PB.grown (show PB (S + 1) _ w3 from (hg3.block (S + 1) (by have := HZS.out.2; exact this) (fun e => by have := (UD.out.own.lt _ e.symm).1; have := Z0.out; omega)).trans Z1'.out) (grown_below b4); obtain ⟨z0', z1', z2', z3', z4', z5', z6', z7', z8', z9', zf⟩ := PB.all Z4))
    all_goals
      obtain ⟨w6, hw6⟩ : ∃ w6, w6 = ten w4 (S + 1) 0 (.int .i64 9) (.string ⟨#[]⟩) (.string (⟨#[35]⟩ ++ id)) (.string ⟨#[]⟩) (.string ⟨#[]⟩) (.slice none 0 0) (.slice none 0 0) (.slice none 0 0) (.slice none 0 0) (.slice a4 n4 c4) := ⟨_, rfl⟩
      have hz6 : PB (S + 1) [.int .i64 9, .string ⟨#[]⟩, .string (⟨#[35]⟩ ++ id), .string ⟨#[]⟩, .string ⟨#[]⟩, .slice none 0 0, .slice none 0 0, .slice none 0 0, .slice none 0 0, .slice a4 n4 c4] w6 := by
        rw [hw6]
        exact (((((((((Z4.set 0 _).set 1 _).set 2 _).set 3 _).set 4 _).set 5 _).set 6 _).set 7 _).set 8 _).set 9 _
      have hb6 : ∀ b, b ≠ S + 1 → w6.heap[b]? = w4.heap[b]? := fun b hb => by rw [hw6]; exact ten_heap _ _ _ _ _ _ _ _ _ _ _ _ _ b hb
      have hw3 : W0.heap.size ≤ w3.heap.size := HBW3.out.size
      have hb3 : Below S w w3 := B0.out.trans (HBW3.out.mono (by omega))
      have hb4 : Below S w w4 := hb3.trans (b4.mono (by omega))
      have HB6 : Hid (Below S w w6) := by show Below _ _ _; rw [hw6]; exact Below.ten hb4 (Nat.le_succ S)
      have HK6 : Hid (Rd (fun b => ok b ∨ S ≤ b) w6 (inlsD (Inl.mergeL (shKids ⟨lv, id, tx, line, refs⟩))) [.slice a4 n4 c4]) :=
        Rd.keep (w := w4) (w' := w6) (fun b hb _ => by
          have h7 : (ok b ∨ W0.heap.size ≤ b) := by
            rcases hb with hb | hb
            · exact hb.1
            · exact .inr (by omega)
          rcases h7 with h7 | h7
          · exact ⟨.inl h7, hb6 b (by have := HBS.out b h7; omega)⟩
          · exact ⟨.inr (by omega), hb6 b (by omega)⟩) _ _ hk4
      have HZ6 := Lib.hid hz6
      have HW6 := Lib.hid hw6
      clear hz6 hb6 hb4 hb3 hw6 Z4 hk4 b4 hg3 S0 S3 S4 hadd z0' z1' z2' z3' z4' z5' z6' z7' z8' z9' zf
      go_wp2
      have hk := HW6.out
      simp only [ten, Nat.zero_add] at hk
      rw [← hk]
      clear hk
      have r0 := HZ6.out.cell 0 _ rfl
      have r1 := HZ6.out.cell 1 _ rfl
      have r2 := HZ6.out.cell 2 _ rfl
      have r3 := HZ6.out.cell 3 _ rfl
      have r4 := HZ6.out.cell 4 _ rfl
      have r5 := HZ6.out.cell 5 _ rfl
      have r6 := HZ6.out.cell 6 _ rfl
      have r7 := HZ6.out.cell 7 _ rfl
      have r8 := HZ6.out.cell 8 _ rfl
      have r9 := HZ6.out.cell 9 _ rfl
      exact bodyPost_ret (v := .agg #[.int .i64 9, .string ⟨#[]⟩, .string (⟨#[35]⟩ ++ id), .string ⟨#[]⟩, .string ⟨#[]⟩, .slice none 0 0, .slice none 0 0, .slice none 0 0, .slice none 0 0, .slice a4 n4 c4]) (by simp [results, Tryd.results19, go_sem, r0, r1, r2, r3, r4, r5, r6, r7, r8, r9]) rfl ⟨_, rfl, HS.out ▸ HK6.out, HS.out ▸ HB6.out⟩
end Go.Proofs.YtlbioncagkkkoaaDoor
