/- tree.Inlines$2 and tree.Inlines: all inlines of blocks, in document order. -/
import Derived.Test.YtjolhiofllpejaaDoorInls
namespace Go.Proofs.YtjolhiofllpejaaDoor
open Go.RowKit
set_option linter.unusedVariables false

mutual
/-- All inlines of a block, in document order. -/
def Blk.inls : Blk → List Inl
  | .mk _ _ _ _ _ _ _ li ks => Inl.deepL li ++ Blk.inlsL ks
def Blk.inlsL : List Blk → List Inl
  | [] => []
  | x :: l => x.inls ++ Blk.inlsL l
end
theorem Blk.inlsL_app (l m : List Blk) : Blk.inlsL (l ++ m) = Blk.inlsL l ++ Blk.inlsL m := by
  induction l with
  | nil => rw [Blk.inlsL]; rfl
  | cons x l ih => rw [List.cons_append, Blk.inlsL, Blk.inlsL, ih, List.append_assoc]
theorem Blk.inlsL_take (l : List Blk) (k : Nat) (x : Blk) (h : l[k]? = some x) : Blk.inlsL (l.take (k + 1)) = Blk.inlsL (l.take k) ++ x.inls := by
  rw [List.take_add_one, h, Blk.inlsL_app]
  simp [Blk.inlsL]
theorem Blk.inlsL_len (l : List Blk) (k : Nat) (x : Blk) (h : l[k]? = some x) : (Blk.inlsL (l.take k)).length + x.inls.length ≤ (Blk.inlsL l).length := by
  have e : Blk.inlsL l = Blk.inlsL (l.take (k + 1)) ++ Blk.inlsL (l.drop (k + 1)) := by rw [← Blk.inlsL_app, List.take_append_drop]
  have e2 := congrArg List.length e
  rw [Blk.inlsL_take l k x h] at e2
  simp only [List.length_append] at e2
  omega

/-- The function value of the blocks in its own box. -/
def inG (bi bk : Nat) : Value := .func (.func 69) #[] #[.pointer (some ⟨bi, 0, none⟩), .pointer (some ⟨bk, 0, none⟩)]
def KBox (bi bk : Nat) (w : World) : Prop := w.heap[bk]? = some (.cells #[inG bi bk] 104 (0, 0))
theorem KBox.keep {bi bk bo B : Nat} {vo : Value} {w w' : World} (h : KBox bi bk w) (hk : KeepO bo vo w w') (hne : bk ≠ bo) (hb : bk < B) (hv : ∀ g, vo.ownBlock = some g → B ≤ g) : KBox bi bk w' :=
  (hk.2.2.2.2 bk (Array.getElem?_eq_some_iff.1 h).1 hne (fun e => by have := hv bk e; omega)).trans h
def IbRel (B0 B bo bi : Nat) (vo : Value) (w : World) (acc : List Inl) (l : List Blk) (vi : Value) (wr : World) : Prop :=
  ∃ k : Nat, k ≤ l.length ∧ vi = .int .i64 k ∧ InOut B0 B bo bi vo w (acc ++ Blk.inlsL (l.take k)) wr

set_option maxRecDepth 100000 in
set_option maxHeartbeats 8000000 in
theorem inbs_any (n : Nat) : ∀ (l : List Blk) (B0 B bo bi bk : Nat) (acc : List Inl) (rows0 : List (List Value)) (v vo : Value) (w : World), Blk.szL l ≤ n → n ≤ 1000000 → Rd (· < B0) w (blksD l) [v] → B0 ≤ bo → B0 ≤ bi → bo < B → bi < B → bo ≠ bi → bk < B → bk ≠ bo → Blk.bdL l → OL B0 B bo bi bo vo acc rows0 w → KBox bi bk w → acc.length + (Blk.inlsL l).length ≤ 1000000 →
    Calls Tryd.prog 69 #[v, .pointer (some ⟨bi, 0, none⟩), .pointer (some ⟨bk, 0, none⟩)] w fun e w' => e = .returned (.tuple #[]) ∧ InOut B0 B bo bi vo w (acc ++ Blk.inlsL l) w' := by
  induction n using Nat.strongRecOn with
  | _ n ih =>
    intro l B0 B bo bi bk acc rows0 v vo w hn hnm hrd h0o h0i hoB hiB hoi hkB hko hbd hOL hKB hal
    obtain ⟨a, cap, hv, hs⟩ := Rd.sl_open hrd
    obtain rfl : v = .slice a l.length cap := by simpa using hv
    have hcap : l.length ≤ cap := by simpa using hs.le
    have hll := Blk.len_le l
    have hmx := hs.max
    have HS := Lib.hid hs
    have IH := Lib.hid ih
    have HBD := Lib.hid hbd
    have HKB := Lib.hid hKB
    have R0 : Hid (IbRel B0 B bo bi vo w acc l (.int .i64 0) w) := ⟨0, Nat.zero_le _, rfl, vo, rows0, by rw [List.take_zero, Blk.inlsL, List.append_nil]; exact hOL, ⟨Nat.le_refl _, rfl, rfl, rfl, fun _ _ _ _ => rfl⟩, .inl rfl⟩
    have hvo : ∀ g, vo.ownBlock = some g → B ≤ g := fun g hg => (hOL.own.lt g hg).1
    have HVO := Lib.hid hvo
    have hBw := hOL.siz
    clear hs hv hrd ih hbd hOL hvo hKB
    unfold maxLen at hmx
    go_enter Tryd.func69, Tryd.ntmps69
    go_wp2
    go_loopw [7] (fun vi wr => IbRel B0 B bo bi vo w acc l vi wr) (fun i _ => l.length - (intOf i).toNat)
    case atStart => exact R0.out
    case round =>
      obtain ⟨k, hk, rfl, vo1, rows, hOL, hKO, hor⟩ := hrel
      clear R0
      by_cases hlt : k < l.length
      · obtain ⟨x, hx⟩ : ∃ x, l[k]? = some x := ⟨_, List.getElem?_eq_getElem hlt⟩
        obtain ⟨kd, lv, i, t, d, ti, at_, li, ks⟩ := x
        have hbel : Below B0 w wr := hKO.below h0o (by omega) HVO.out (by omega)
        obtain ⟨g, off, vc, vp, vl, vk, rfl, hok, hbl, hc, hR⟩ := blks_at (HS.out.below hbel) hx
        have c9 := hc.c9
        have hb1 := Blk.bdL_get l k _ HBD.out hx
        rw [Blk.bd] at hb1
        obtain ⟨hn1, hn2, hn3, hn4, hn5⟩ := hb1
        have hsz := Blk.szL_get l k _ hx
        rw [Blk.sz] at hsz
        have hln := Blk.inlsL_len l k _ hx
        rw [Blk.inls, List.length_append] at hln
        have hln2 := Inl.deepL_len li
        obtain ⟨al, nl, cl, rfl⟩ := Rd.sl_form hR.line
        have kb : wr.cell? ⟨bi, 0, none⟩ = some (inF bo bi) := by
          have := hOL.fn
          simp [World.cell?, this]
        unfold inF at kb
        have CI := Lib.hid (inls_any (Inl.szL li) li B0 B bo bi (acc ++ Blk.inlsL (l.take k)) rows (.slice al nl cl) vo1 wr.drew (Nat.le_refl _) hn4 (hR.line.below ⟨rfl, rfl, rfl, Nat.le_refl _, fun _ _ => rfl⟩) h0o h0i hoB hiB hoi hn3 hOL.drew (by rw [List.length_append]; omega))
        have HX := Lib.hid hx
        have HKO := Lib.hid hKO.drew
        have HOR := Lib.hid hor
        clear hR hx hOL hKO hor hbel hc hbl
        go_upto_region 3 with (fail)
        go_still_tail 6, (by kernel_rfl)
        change wpList _ _ _ _ _ wr.drew
        go_wp2_with fail
        refine CI.out.mono ?_
        rintro e w1 ⟨rfl, IO1⟩
        obtain ⟨vo2, rows2, OL2, KO2, OR2⟩ := InOut.trans HKO.out HOR.out IO1
        obtain ⟨g7, o7, vc7, vp7, vl7, vk7, hgo, _, _, hc7, hR7⟩ := blks_at (HS.out.below (KO2.below h0o (by omega) HVO.out (by omega))) HX.out
        cases hgo
        have k10 := hc7.c10
        have kb2 : w1.cell? ⟨bk, 0, none⟩ = some (inG bi bk) := by
          have := HKB.out.keep KO2 hko hkB HVO.out
          unfold KBox at this
          simp [World.cell?, this]
        unfold inG at kb2
        obtain ⟨ak7, nk7, ck7, rfl⟩ := Rd.sl_form hR7.kids
        have IK := Lib.hid (IH.out (Blk.szL ks) (by omega) ks B0 B bo bi bk (acc ++ Blk.inlsL (l.take k) ++ Inl.deepL li) rows2 (.slice ak7 nk7 ck7) vo2 w1.drew (Nat.le_refl _) (by omega) (hR7.kids.below ⟨rfl, rfl, rfl, Nat.le_refl _, fun _ _ => rfl⟩) h0o h0i hoB hiB hoi hkB hko hn5 OL2.drew (HKB.out.keep KO2.drew hko hkB HVO.out) (by rw [List.length_append, List.length_append]; omega))
        have HKO2 := Lib.hid KO2.drew
        have HOR2 := Lib.hid OR2
        clear CI IO1 OL2 KO2 OR2 hR7 hc7 kb c9 HKO HOR
        go_upto_region 4 with (fail)
        go_still_tail 6, (by kernel_rfl)
        change wpList _ _ _ _ _ w1.drew
        go_wp2_with fail
        refine IK.out.mono ?_
        rintro e w8 ⟨rfl, IO8⟩
        have IO9 := Lib.hid (InOut.trans HKO2.out HOR2.out IO8)
        clear IO8 IK HKO2 HOR2 k10 kb2
        go_wp2_with fail
        go_roundw
        case rel =>
          refine ⟨k + 1, by omega, by go_num, ?_⟩
          rw [Blk.inlsL_take l k _ HX.out, Blk.inls]
          have := IO9.out
          simp only [List.append_assoc] at this ⊢
          exact this
        case measure => simp [intOf]; omega
      · have hkl : k = l.length := by omega
        subst hkl
        rw [List.take_length] at hOL
        have HO := Lib.hid hOL
        clear hOL
        go_wp2
        go_end0
        exact ⟨rfl, vo1, rows, HO.out, hKO, hor⟩
end Go.Proofs.YtjolhiofllpejaaDoor
