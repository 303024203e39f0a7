/- Contract of count.Notes. -/
import Derived.Test.YtlbioncagkkkoaaGreatDoorKRtT
import Derived.Test.YtlbioncagkkkoaaGreatDoorKRtA
namespace Go.Proofs.YtlbioncagkkkoaaGreatDoor
open Go.RowKit Go.Shelf
set_option linter.unusedVariables false
set_option linter.unusedSimpArgs false
attribute [local go_sem] Oper.semAt_some

def infoOk (b : Blk) : Prop := b.infoOf.size ≤ 1000
def NtAct (S : Nat) (am : Option Addr) (nm cm : Nat) (ab : Option Addr) (nb cb : Nat) (x : BV) (Bx : Nat) : Act := { tmps := #[.agg #[.slice am nm cm, .slice ab nb cb], .pointer (some ⟨S, 0, none⟩), .slice none 0 0, .pointer (some ⟨S + 2, 0, none⟩), .pointer (some ⟨Bx, 0, none⟩), undef, undef, undef, .map (some (S + 1)), .pointer (some ⟨S, 1, none⟩), .slice ab nb cb, .func (.func 111) #[] #[.pointer (some ⟨S + 3, 0, none⟩)], x.enc, undef, undef, undef, undef, undef, undef, undef, undef, undef, undef, undef, undef, undef, undef, undef, undef, undef, undef, undef, undef, undef, undef, undef, undef, undef, undef, undef, undef, undef, undef, undef, undef, undef], defers := [] }
theorem end_dn {n : Nat} {fn : Func} {R : Ending → World → Prop} {a : Act} {w : World} {v : Value} {D : Nat} (hd : a.defers = [{ target := .collected D, args := #[] }]) (hf : w.heap[D]? = some (.deferred (some []))) (hr : ∀ w', (results fn a.tmps).run Tryz.prog w' = .ok v w') (h : R (.returned v) (w.putObj D (.deferred none))) : bodyPostM Fence.wide n Tryz.prog fn R .ret a w := by
  show LeavesInM _ _ _ _ _ _ a.defers _ _
  rw [hd]
  refine ⟨by simp, .inl ⟨D, _, rfl, run_takeDeferred hf, ?_⟩⟩
  exact ⟨v, hr _, h⟩
def BV.cells (x : BV) : List Value := [.int .i64 x.kd, .int .i64 x.lv, .string x.i, .string x.t, .string x.d, .string x.ti, .string x.at_.id, x.vc, x.vp, x.vl, x.vk]
def NtX (S : Nat) (am : Option Addr) (nm cm : Nat) (ab : Option Addr) (nb cb : Nat) (x : BV) (a' : Act) (W : World) : Prop := ∃ Bx, S + 4 ≤ Bx ∧ CB 53 Bx x.cells W ∧ a' = NtAct S am nm cm ab nb cb x Bx
theorem NtX.own {S B : Nat} {am : Option Addr} {nm cm : Nat} {ab : Option Addr} {nb cb : Nat} {x : BV} {a' : Act} : OwnFrom B (fun (_ : Unit) W => NtX S am nm cm ab nb cb x a' W) := fun _ W W' row ⟨Bx, h1, h2, h3⟩ hg hr =>
  ⟨Bx, h1, (hg.block Bx h2.lt (fun e => by
    obtain ⟨_, o, k1, k2⟩ := hr Bx e.symm
    unfold CB at h2
    rw [h2] at k1; cases k1; cases k2)).trans h2, h3⟩
def NtI (S : Nat) (w W0 : World) (pre : List (BW S w infoOk)) (W : World) : Prop := Nt1 (S + 1) (S + 2) (S + 4) W0 (blksOf pre) W
theorem NtI.own {S : Nat} {w W0 : World} : OwnFrom (S + 4) (NtI S w W0) := fun s W W' row h hg hr => Nt1.grown h hg (fun r e => (hr r e).1) (by omega) (by omega)

/-- At the head of the loop over the inlines. -/
def Nt2 (S U B2 D N0 : Nat) (w : World) (defs : List ByteArray) (L : List Inl) (v2 : Value) (rows : List (List Value)) (v vi : Value) (wr : World) : Prop :=
  ∃ (k n : Nat) (out : List ByteArray), k ≤ L.length ∧ vi = .int .i64 k ∧ out = noteG defs [] (L.take k) ∧ out.length ≤ k ∧ n ≤ N0 + k ∧ BolAt wr (S + 1) n (fun t => hasB defs t && !hasB out t) ∧ Box1 (S + 2) (.map (some (S + 1))) 112 wr ∧
    wr.ownsRow B2 47 10 v2 L.length rows.flatten ∧ wr.ownsRow U 9 1 v out.length (out.map Value.string) ∧ Below S w wr ∧ U ≤ wr.heap.size ∧ wr.heap[D]? = some (.deferred (some []))
theorem own_put {w : World} {B : Nat} {e : TypeId} {k : Nat} {v : Value} {n : Nat} {xs : List Value} (h : w.ownsRow B e k v n xs) (D : Nat) (hne : v.ownBlock ≠ some D) {o : Obj} : (w.putObj D o).ownsRow B e k v n xs := by
  obtain ⟨h1, h2⟩ := h
  refine ⟨h1, ?_⟩
  rcases h2 with h2 | ⟨g, cap, cur, rfl, r2, r3, r4⟩
  · exact .inl h2
  · exact .inr ⟨g, cap, cur, rfl, r2, (World.putObj_heap_other (fun e => hne (by rw [← e]; rfl))).trans r3, r4⟩
theorem below_putD {S D : Nat} {w w2 : World} {o : Obj} (h : Below S w w2) (hD : S ≤ D) : Below S w (w2.putObj D o) :=
  ⟨h.os, h.tape, h.output, by simpa [World.putObj] using h.size, fun b hb => (World.putObj_heap_other (by omega)).trans (h.block b hb)⟩
theorem InCells.row {w : World} {B g k n cap : Nat} {e : TypeId} {rows : List (List Value)} (h : w.ownsRow B e 10 (.slice (some ⟨g, 0, none⟩) n cap) n rows.flatten) (h10 : ∀ r ∈ rows, r.length = 10) {r : List Value} (hr : rows[k]? = some r) {kd : Int} {t d ti id : ByteArray} {vc vp va vi vk : Value} (he : r = [.int .i64 kd, .string t, .string d, .string ti, .string id, vc, vp, va, vi, vk]) : InCells w g (k * 10) kd t d ti id vc vp va vi vk := by
  refine InCells.of he (fun j u hu => ?_)
  have h1 := flat_get 10 rows h10 k j r u hr hu
  have := h.cells (g := g) rfl (k * 10 + j) u h1
  have e : ((⟨g, 0, none⟩ : Addr).add (k * 10 + j)) = ⟨g, k * 10 + j, none⟩ := by unfold Addr.add; split <;> simp_all
  rwa [e] at this

set_option maxRecDepth 100000 in
set_option maxHeartbeats 4000000 in
theorem notes_any (l : List Blk) (vm vb : Value) (w : World) (hm : ∃ a n c, vm = .slice a n c) (hb : Rd (· < w.heap.size) w (blksD l) [vb]) (hbd : Blk.bdL l) (hsz : Blk.szL l ≤ 1000000) (hln : (Blk.inlsL l).length ≤ 1000000)
    (hin : ∀ b ∈ Blk.eachL l, infoOk b) (htx : ∀ x ∈ Blk.inlsL l, x.tx.size ≤ 1000000) :
    Calls Tryz.prog 52 #[.agg #[vm, vb]] w fun e w' => ∃ v, e = .returned v ∧ w'.ownsRow w.heap.size 9 1 v (notesL l).length ((notesL l).map Value.string) ∧ Below w.heap.size w w' := by
  obtain ⟨am, nm, cm, rfl⟩ := hm
  obtain ⟨ab, nb, cb, rfl⟩ := Rd.slf hb
  have HB := Lib.hid hb
  have HBD := Lib.hid hbd
  have HIN := Lib.hid hin
  have HTX := Lib.hid htx
  have hmm := @run_makeMap Tryz.prog
  obtain ⟨S, hS⟩ : ∃ S, S = w.heap.size := ⟨_, rfl⟩
  obtain ⟨w1, hw1⟩ : ∃ w1, w1 = ((w.alloc (.cells #[.slice am nm cm, .slice ab nb cb] 25)).alloc (.map #[] 0)).alloc (.cells #[.map (some (S + 1))] 112) := ⟨_, rfl⟩
  have k1 : CB 25 S [.slice am nm cm, .slice ab nb cb] w1 := by
    rw [hw1, hS]
    exact cb_grown (cb_grown (CB.new _ _ w) (World.grownBy_alloc _ _ none) (by simp)) (World.grownBy_alloc _ _ none) (by simp)
  have k2 : BolAt w1 (S + 1) 0 (fun _ => false) := by
    rw [hw1, hS]
    have := BolAt.made (w.alloc (.cells #[.slice am nm cm, .slice ab nb cb] 25))
    rw [World.size_alloc] at this
    exact this.kept (World.grownBy_alloc _ _ none) (by simp)
  have k3 : Box1 (S + 2) (.map (some (S + 1))) 112 w1 := by
    rw [hw1, hS]
    have := Box1.new ((w.alloc (.cells #[.slice am nm cm, .slice ab nb cb] 25)).alloc (.map #[] 0)) (.map (some (w.heap.size + 1))) 112
    rw [World.size_alloc, World.size_alloc] at this
    exact this
  have z1 : w1.heap.size = S + 3 := by rw [hw1, hS]; simp
  have b1 : Below S w w1 := by rw [hw1, hS]; exact (((Below.refl _ w).alloc (Nat.le_refl _) _).alloc (by simp) _).alloc (by simp; omega) _
  have K1 := Lib.hid k1
  have K2 := Lib.hid k2
  have K3 := Lib.hid k3
  have Z1 := Lib.hid z1
  have B1 := Lib.hid b1
  have HS := Lib.hid hS
  have HW1 := Lib.hid hw1
  clear hb hbd hin htx k1 k2 k3 z1 b1 hS hw1
  refine (callsIn_wide (n := 3)).1 ?_
  refine callsIn_of_wp_marks Tryz.func52 rfl trivial ?_ rfl
  simp only [Tryz.ntmps52, List.size_toArray, List.length_cons, List.length_nil, Nat.reduceAdd, Nat.reduceSub, Array.replicate_succ, Array.replicate_zero, List.push_toArray, List.append_toArray, List.nil_append, List.cons_append]
  refine wpIn_wide.2 ?_
  go_upto_region 2 with (fail)
  rw [← HS.out, ← HW1.out]
  have x1 := K1.out.cell 1 _ rfl
  have hnf : ∀ (x : Nat) (wx : World), Sem.run Tryz.prog (binOp BinOp.eql 114 (Value.func (Fn.func 111) #[] #[Value.pointer (some ⟨x, 0, none⟩)]) Value.nilFunc) wx = .ok (.bool false) wx := fun x wx => by rfl
  go_wp2_with (go_at_call 82; refine (each_any _ _ _ _).mono ?_; rintro e w' ⟨rfl, rfl⟩)
  obtain ⟨W0, hW0⟩ : ∃ W0, W0 = w1.alloc (.cells #[.slice ab nb cb] 23) := ⟨_, rfl⟩
  have z0 : W0.heap.size = S + 4 := by rw [hW0, World.size_alloc, Z1.out]
  have bL : Box1 (S + 3) (.slice ab nb cb) 23 W0 := by rw [hW0, ← Z1.out]; exact Box1.new _ _ _
  have g0 : w1.grownBy W0 none := by rw [hW0]; exact World.grownBy_alloc _ _ none
  have bl0 : Below S w W0 := B1.out.grown g0 (by have := Z1.out; omega) (by simp)
  have N0 : Nt1 (S + 1) (S + 2) (S + 4) W0 [] W0 := ⟨⟨0, Nat.le_refl _, K2.out.kept g0 (by simp)⟩, K3.out.grown g0, rfl, rfl, rfl, by omega, fun _ _ _ => rfl⟩
  have KD := Lib.hid (cb_grown K1.out g0 (by simp))
  rw [← hW0, Z1.out, show S + 1 + 1 = S + 2 from rfl]
  have HBS := Lib.hid (show Rd (· < S) w (blksD l) [.slice ab nb cb] by rw [HS.out]; exact HB.out)
  clear x1 hnf hW0 g0 K1 K2 K3 Z1 B1 HB HW1 hmm
  refine wpIn_wide (n := 3) |>.1 ?_
  refine wpIn_rangeFunc_ownH (α := BW S w infoOk) rfl (by decide) (gf := 111) (lb := #[.pointer (some ⟨S + 3, 0, none⟩)]) rfl trivial (enters_of Tryz.func111 (by kernel_rfl) rfl)
    (each_stops 2 (S + 3) S infoOk l (.slice ab nb cb) w W0 (KpN (S + 1) (S + 4)) (KpN.ok (by omega) (by omega)) HIN.out HBS.out bl0 (by omega) bL) (fun h k => h.trans k) (fun W l o o' h1 h2 h3 _ => KpN.obj W l o o' (by omega) h2 h3) (Below.refl _ _) (fun _ => rfl)
    (NtI S w W0) (fun _ _ _ => False) (by rw [z0]; exact NtI.own) (fun c s A B row h _ _ => h) N0
    (fun x a' W => NtX S am nm cm ab nb cb x.1 a' W) (fun x a' => NtX.own) ?assign ?body ?done ?stop
  case stop => rintro D c pre W _ _ h _; exact h.elim
  case assign =>
    rintro l0 pre ⟨⟨kd, lv, i, t, d, ti, at_, li, ks, vc, vp, vl, vk⟩, hR, hpl1⟩ W K hi hK
    dsimp only at hR hK
    obtain ⟨ac, nc, cc, rfl⟩ := Rd.sl_form hR.at_.cls
    obtain ⟨ap, np, cp, rfl⟩ := Rd.sl_form hR.at_.prs
    obtain ⟨al, nl, cl, rfl⟩ := Rd.sl_form hR.line
    obtain ⟨ak, nk, ck, rfl⟩ := Rd.sl_form hR.kids
    have HI := Lib.hid hi
    have HK := Lib.hid hK
    clear hi hK
    dsimp only [BV.enc]
    gi_wp2
    have hsz := HI.out.size
    exact HK.out _ _ ((KeepsOthers.alloc _ _).from _) (KpN.grown (World.grownBy_alloc _ _ none) hsz) (Nt1.grown HI.out (World.grownBy_alloc _ _ none) (by simp) (by omega) (by omega)) ⟨W.heap.size, hsz, heap_alloc_new W _, rfl⟩
  case body =>
    rintro l0 pre x a' W hl0 _ hN ⟨Bx, hBx, hQB, rfl⟩ hlen
    have hR := x.2.1
    have hIF := x.2.2
    obtain ⟨y, hy⟩ : ∃ y, y = x.1 := ⟨_, rfl⟩
    rw [← hy] at hR hQB hIF ⊢
    have HEQ : Hid (blksOf (pre ++ [x]) = blksOf pre ++ [y.blk]) := by show _ = _; rw [blksOf_app, hy]; rfl
    have hplen : (blksOf pre).length ≤ 1000000 := by
      have h2 := Blk.eachL_num l
      rw [blksOf_len]; omega
    obtain ⟨kd, lv, i, t, d, ti, at_, li, ks, vc, vp, vl, vk⟩ := y
    dsimp only at hR
    have hIF : i.size ≤ 1000 := hIF
    obtain ⟨ac, nc, cc, rfl⟩ := Rd.sl_form hR.at_.cls
    obtain ⟨ap, np, cp, rfl⟩ := Rd.sl_form hR.at_.prs
    obtain ⟨al, nl, cl, rfl⟩ := Rd.sl_form hR.line
    obtain ⟨ak, nk, ck, rfl⟩ := Rd.sl_form hR.kids
    have c0 := hQB.cell 0 _ rfl
    have c2 := hQB.cell 2 _ rfl
    have e3 := hN.bx.cell
    have HN := Lib.hid hN
    have hsW := hN.size
    dsimp only at c0 c2
    clear hR hQB hlen hy hN
    unfold NtAct
    dsimp only [BV.enc]
    by_cases hk : kd = 14
    · have q1 : (kd == 14) = true := by rw [beq_iff_eq]; exact hk
      obtain ⟨n, hn1, hn2⟩ := HN.out.mp
      obtain ⟨W2, hup, hB2, hg2⟩ := hn2.put i true (by unfold maxLen; omega) (by unfold maxLen; omega)
      have HP : Hid (Nt1 (S + 1) (S + 2) (S + 4) W0 (blksOf (pre ++ [x])) W2) := by
        show Nt1 _ _ _ _ _ _
        rw [HEQ.out]
        exact HN.out.put _ hk (by omega) hn1 hg2 hB2 (by omega)
      have HKP := Lib.hid (KpN.map hg2 hsW hn2.obj)
      have HKF : Hid (KeepsFrom W0.heap.size W W2) := ⟨hg2.size, fun k o hk' ho hc => (hg2.block k (Array.getElem?_eq_some_iff.1 ho).1 (fun e => by have := Option.some.inj e; omega)).trans ho⟩
      clear hn2 hB2 hg2 hk
      gi_wp2
      exact ⟨HKF.out, HKP.out, HP.out⟩
    · have q1 : (kd == 14) = false := by rw [beq_eq_false_iff_ne]; exact hk
      have HP : Hid (Nt1 (S + 1) (S + 2) (S + 4) W0 (blksOf (pre ++ [x])) W) := by
        show Nt1 _ _ _ _ _ _
        rw [HEQ.out]
        exact HN.out.skip _ hk
      clear hk
      gi_wp2
      exact ⟨(KeepsOthers.refl _).from _, KpN.refl _ _ _, HP.out⟩
  case done =>
    rintro D pre W hD hpre hN hK
    have hN : Nt1 (S + 1) (S + 2) (S + 4) W0 (Blk.eachL l) W := by rw [← hpre]; exact hN
    have hbl : Below S w W := ⟨hN.os.trans bl0.os, hN.tape.trans bl0.tape, hN.output.trans bl0.output, by have := hN.size; have := bl0.size; omega, fun b hb => (hN.blk b (by omega) (by omega)).trans (bl0.block b hb)⟩
    have KW : CB 25 S [.slice am nm cm, .slice ab nb cb] W := (hN.blk S (by omega) (by omega)).trans KD.out
    have hDW : D < W.heap.size := (Array.getElem?_eq_some_iff.1 hK).1
    have IA := Lib.hid (inlines_any l (.slice ab nb cb) W ((HBS.out.below hbl).weaken (fun b hb => by have := hN.size; omega)) HBD.out hsz hln)
    have x1 := KW.cell 1 _ rfl
    have HN := Lib.hid hN
    have HBL := Lib.hid hbl
    have HK := Lib.hid hK
    clear hN hbl hK KW hpre
    go_wp2_with fail
    (with_reducible refine IA.out.mono ?_)
    rintro e w2 ⟨v2, rows, rfl, hown, hred, hrl, b2⟩
    obtain ⟨a2, c2, rfl⟩ := own_slice hown
    obtain ⟨L, hL⟩ : ∃ L, L = Blk.inlsL l := ⟨_, rfl⟩
    rw [← hL] at hown hred
    have hTX : ∀ x ∈ L, x.tx.size ≤ 1000000 := by rw [hL]; exact HTX.out
    have hLL : L.length ≤ 1000000 := by rw [hL]; exact hln
    obtain ⟨defs, hdefs⟩ : ∃ defs, defs = defN (Blk.eachL l) := ⟨_, rfl⟩
    have hnl : notesL l = noteG defs [] L := by rw [hL, hdefs]; rfl
    have hNW := HN.out
    obtain ⟨n1, hn1, hm1⟩ := hNW.mp
    rw [← hdefs] at hm1
    have hn1 : n1 ≤ 1000000 := by rw [Blk.eachL_num] at hn1; omega
    have hzW := hNW.size
    have hz2 := b2.size
    have R0 := Lib.hid (show Nt2 S w2.heap.size W.heap.size D n1 w defs L (.slice a2 L.length c2) rows (.slice none 0 0) (.int .i64 0) w2 from
      ⟨0, n1, [], Nat.zero_le _, rfl, by simp [noteG], Nat.le_refl _, by omega, (hm1.below b2).congr (fun t => by simp [hasB]), (b2.block (S + 2) (by omega)).trans hNW.bx, hown, nil_owns _ _ _ _, HBL.out.trans (b2.mono (by omega)), Nat.le_refl _, (b2.block D hDW).trans HK.out⟩)
    have HRED := Lib.hid hred
    have HRL := Lib.hid hrl
    have HTX2 := Lib.hid hTX
    have HNL := Lib.hid hnl
    have hDU : D < w2.heap.size := by omega
    have hD4 : S + 4 ≤ D := by omega
    obtain ⟨U, hU⟩ : ∃ U, U = w2.heap.size := ⟨_, rfl⟩
    obtain ⟨B2, hB2⟩ : ∃ B2, B2 = W.heap.size := ⟨_, rfl⟩
    rw [← hU] at R0 hDU hz2
    rw [← hB2] at R0 hz2 hzW
    have hvU : ∀ g, (Value.slice a2 L.length c2).ownBlock = some g → B2 ≤ g ∧ g < U := fun g hg => by rw [hU, hB2]; exact hown.lt g hg
    have HVU := Lib.hid hvU
    have hLe : (Blk.inlsL l).length = L.length := by rw [hL]
    rw [hLe]
    obtain ⟨i0, hi0, hz0', hz1', hz2'⟩ := info_parts infoS
    have hcap2 : L.length ≤ c2 ∧ c2 ≤ maxLen := by
      obtain ⟨-, a, cap, h1, h2, h3, -⟩ := Sees.of_own hown
      injection h1 with _ _ h1; omega
    obtain ⟨hcp, hcm⟩ := hcap2
    unfold maxLen at hcm
    clear hred hrl hTX hnl hown hm1 b2 HN HBL IA x1 hU hB2 hvU hL hNW hLe HBS KD HIN HBD HTX hdefs bL N0 HK hDW
    go_wp2
    go_loopw [5, 23] (fun v vi wr => Nt2 S U B2 D n1 w defs L (.slice a2 L.length c2) rows v vi wr) (fun _ i _ => L.length - (intOf i).toNat)
    case atStart => exact R0.out
    case round =>
      clear R0
      obtain ⟨k, n, out, hk, rfl, hout, hol, hnk, hmp, hbx, how, hov, hbel, hUz, hD⟩ := hrel
      obtain ⟨av, cv, rfl⟩ := own_slice hov
      have HMP := Lib.hid hmp
      have HBX := Lib.hid hbx
      have HOW := Lib.hid how
      have HOV := Lib.hid hov
      have HBEL := Lib.hid hbel
      have HD := Lib.hid hD
      have HOUT := Lib.hid hout
      clear hmp hbx how hov hbel hD hout
      by_cases hlt : k < L.length
      · obtain ⟨x, hx⟩ : ∃ x, L[k]? = some x := ⟨_, List.getElem?_eq_getElem hlt⟩
        have hsn := noteG_snoc defs L k x [] hx
        rw [← HOUT.out] at hsn
        have hts := HTX2.out x (List.mem_of_getElem? hx)
        obtain ⟨r, hr, hd⟩ := HRED.out.get k x.d (by rw [List.getElem?_map, hx]; rfl)
        obtain ⟨kd, t, d, ti, at_, ar, ci, ks⟩ := x
        have hts : t.size ≤ 1000000 := hts
        obtain ⟨vc, vp, va, vi, vk, he, hR⟩ := Inl.open_ hd
        obtain ⟨ac, nc, cc, rfl⟩ := Rd.sl_form hR.at_.cls
        obtain ⟨ap, np, cp, rfl⟩ := Rd.sl_form hR.at_.prs
        obtain ⟨aa, na, ca, rfl⟩ := Rd.sl_form hR.args
        obtain ⟨ai, ni, ci', rfl⟩ := Rd.sl_form hR.cites
        obtain ⟨ak, nk, ck, rfl⟩ := Rd.sl_form hR.kids
        obtain ⟨g, cap, hvg, -⟩ := own_form HOW.out (by omega)
        obtain ⟨rfl, -, rfl⟩ : a2 = some ⟨g, 0, none⟩ ∧ L.length = L.length ∧ c2 = cap := by injection hvg with h1 h2 h3; exact ⟨h1, rfl, h3⟩
        obtain ⟨c0, c1, c2', c3, c4, c5, c6, c7, c8, c9⟩ := InCells.row HOW.out HRL.out hr he
        change noteG defs [] (L.take (k + 1)) = (if kd = 12 ∧ hasB defs t = true ∧ hasB out t = false then out ++ [t] else out) at hsn
        obtain ⟨wA, hwA⟩ : ∃ wA, wA = wr.alloc (.cells #[.int .i64 kd, .string t, .string d, .string ti, .string at_.id, .slice ac nc cc, .slice ap np cp, .slice aa na ca, .slice ai ni ci', .slice ak nk ck] 47) := ⟨_, rfl⟩
        obtain ⟨p, hp⟩ : ∃ p, p = wr.heap.size := ⟨_, rfl⟩
        have PA : PB p [.int .i64 kd, .string t, .string d, .string ti, .string at_.id, .slice ac nc cc, .slice ap np cp, .slice aa na ca, .slice ai ni ci', .slice ak nk ck] wA := by rw [hwA, hp]; exact heap_alloc_new wr _
        have hpU : U ≤ p := by rw [hp]; exact hUz
        have gA : wr.grownBy wA none := by rw [hwA]; exact World.grownBy_alloc _ _ none
        have MA := HMP.out.kept gA (by simp)
        have hlk := MA.look t (by unfold maxLen; omega)
        have BXA := Lib.hid (HBX.out.grown gA)
        have OWA := Lib.hid (HOW.out.kept gA (by simp [Value.ownBlock]))
        have OVA := Lib.hid (HOV.out.kept gA (by cases (Value.slice av out.length cv).ownBlock <;> simp))
        have BEA := Lib.hid (HBEL.out.grown gA (by omega) (by simp))
        have DA := Lib.hid ((gA.block D (by omega) (by simp)).trans HD.out)
        have hUA : U ≤ wA.heap.size := Nat.le_trans hUz gA.size
        have MAH := Lib.hid MA
        go_upto_region 10 with (fail)
        rw [← hwA, ← hp]
        have e0 := PA.cell 0 _ rfl
        have e1 := PA.cell 1 _ rfl
        have e3 := BXA.out.cell
        clear hwA hp PA gA MA HBX HOW HOV HBEL HD HMP c0 c1 c2' c3 c4 c5 c6 c7 c8 c9 hR hd he hr hx
        by_cases hk12 : kd = 12
        · have q1 : (kd == 12) = true := by rw [beq_iff_eq]; exact hk12
          by_cases hf : (hasB defs t && !hasB out t) = true
          · rw [hf] at hlk
            have hf2 : hasB defs t = true ∧ hasB out t = false := by simpa using hf
            rw [if_pos ⟨hk12, hf2⟩] at hsn
            obtain ⟨wB, hup, hB, hgB⟩ := MAH.out.put t false (by unfold maxLen; omega) (by unfold maxLen; omega)
            have HMB := Lib.hid (hB.congr (g := fun u => hasB defs u && !hasB (out ++ [t]) u) (fun u => by
              rw [hasB_app]
              by_cases hu : u = t
              · rw [if_pos hu, hu]; simp [hasB]
              · rw [if_neg hu]
                have : hasB [t] u = false := by rw [hasB_no]; simp [hu]
                rw [this, Bool.or_false]))
            have ne1 : ∀ b, b ≠ S + 1 → some b ≠ some (S + 1) := fun b hb e => hb (Option.some.inj e)
            have BXB := Lib.hid (show Box1 (S + 2) (.map (some (S + 1))) 112 wB from (hgB.block _ BXA.out.lt (ne1 _ (by omega))).trans BXA.out)
            have hgl := HVU.out g rfl
            have OWB := Lib.hid (OWA.out.kept hgB (.inr (by simp [Value.ownBlock]; omega)))
            have OVB := Lib.hid (OVA.out.kept hgB (.inr (fun e => by have := (OVA.out.lt _ e).1; omega)))
            have BEB := Lib.hid (BEA.out.grown hgB (by omega) (fun j hj => by have := Option.some.inj hj; omega))
            have DB := Lib.hid ((hgB.block D (by omega) (ne1 _ (by omega))).trans DA.out)
            have hUB : U ≤ wB.heap.size := Nat.le_trans hUA hgB.size
            have HSN := Lib.hid hsn
            have e1B : wB.cell? ⟨p, 1, none⟩ = some (.string t) := by
              rw [cell_same (hgB.block p (cell_lt e1) (ne1 _ (by omega)))]; exact e1
            clear hB hgB ne1 hf hf2 hsn BXA OWA OVA BEA DA MAH hk12
            go_wp2_with (at_builtin; refine wpList_append_own_at _ rfl _ _ 40 rfl U 9 i0 (.string ByteArray.empty) 1 16 Tryz.underlying40 hi0 hz0' hz1' hz2' rfl (by decide) _ _ _ rfl (OVB.out.alloc _) ⟨wB.heap.size, 0, none⟩ 1 1 [.string t] rfl rfl (new_one wB (.string t) 9) (by intro u hu; simp at hu; subst hu; rfl) (by unfold maxLen; omega) (by omega) (by simp; omega) ?_)
            intro v7 w7 hown7 hg7 _ hat7
            obtain ⟨a7, c7, rfl⟩ := own_slice hown7
            have hr7 : ∀ r, (Value.slice av out.length cv).ownBlock = some r → U ≤ r := fun r hr => (OVB.out.lt r hr).1
            have no : ∀ b, b < U → w7.heap[b]? = wB.heap[b]? := fun b hb => (hg7.block b (by rw [World.size_alloc]; omega) (fun e => by have := hr7 b e.symm; omega)).trans (Below.heap_alloc _ _ b (by omega))
            have H7 : Hid (Nt2 S U B2 D n1 w defs L (.slice (some ⟨g, 0, none⟩) L.length c2) rows (.slice a7 (out.length + 1) c7) (.int .i64 ((k + 1 : Nat) : Int)) w7) := by
              refine ⟨k + 1, n + 1, out ++ [t], by omega, rfl, HSN.out.symm, by simp; omega, by omega, HMB.out.same (no _ (by omega)), (no _ (by omega)).trans BXB.out, ?_, ?_, (BEB.out.alloc (by omega) _).grown hg7 (by simp; omega) (fun j hj => by have := hr7 j hj; omega), by have := hg7.size; simp at this; omega, (no D hDU).trans DB.out⟩
              · exact (OWB.out.alloc _).kept hg7 (.inr (fun e => by have := hr7 g e.symm; omega))
              · rw [List.map_append, List.length_append]; exact hown7
            clear hown7 hg7 hat7 no hr7
            go_wp2
            go_roundw
            case rel => exact H7.out
            case measure => simp [intOf]; omega
          · have hf1 : (hasB defs t && !hasB out t) = false := by simpa using hf
            rw [hf1] at hlk
            rw [if_neg (fun h => hf (by rw [h.2.1, h.2.2]; rfl))] at hsn
            have H7 : Hid (Nt2 S U B2 D n1 w defs L (.slice (some ⟨g, 0, none⟩) L.length c2) rows (.slice av out.length cv) (.int .i64 ((k + 1 : Nat) : Int)) wA) :=
              ⟨k + 1, n, out, by omega, rfl, hsn.symm, by omega, by omega, MAH.out, BXA.out, OWA.out, OVA.out, BEA.out, hUA, DA.out⟩
            clear hf hf1 hsn hk12
            go_wp2
            go_roundw
            case rel => exact H7.out
            case measure => simp [intOf]; omega
        · have q1 : (kd == 12) = false := by rw [beq_eq_false_iff_ne]; exact hk12
          rw [if_neg (fun h => hk12 h.1)] at hsn
          have H7 : Hid (Nt2 S U B2 D n1 w defs L (.slice (some ⟨g, 0, none⟩) L.length c2) rows (.slice av out.length cv) (.int .i64 ((k + 1 : Nat) : Int)) wA) :=
            ⟨k + 1, n, out, by omega, rfl, hsn.symm, by omega, by omega, MAH.out, BXA.out, OWA.out, OVA.out, BEA.out, hUA, DA.out⟩
          clear hsn hk12 hlk
          go_wp2
          go_roundw
          case rel => exact H7.out
          case measure => simp [intOf]; omega
      · have hkl : k = L.length := by omega
        subst hkl
        have ho2 := HOUT.out
        rw [List.take_length, ← HNL.out] at ho2
        subst ho2
        go_wp2
        refine end_dn (v := .slice av (notesL l).length cv) rfl HD.out (fun w' => by simp [results, Tryz.results52, go_sem]) ⟨_, rfl, ?_, ?_⟩
        · refine own_mono (own_put HOV.out D (fun e => by have := (HOV.out.lt D e).1; omega)) (by have := HS.out; omega)
        · rw [← HS.out]; exact below_putD HBEL.out (by omega)
end Go.Proofs.YtlbioncagkkkoaaGreatDoor
