/- The walk of publisherlaw04.TreeMeasures. -/
import Derived.Test.YtcfplilbhkaihaaGreatDoorMsW
import Derived.Test.YtcfplilbhkaihaaGreatDoorSizeD
import Derived.Test.YtcfplilbhkaihaaGreatDoorSameBl
import Derived.Test.YtcfplilbhkaihaaGreatDoorRInls
import Derived.Test.YtcfplilbhkaihaaGreatDoorAwk
import Derived.Test.YtcfplilbhkaihaaGreatDoorSmLine
import Derived.Deep.RegionHeld3
namespace Go.Proofs.YtcfplilbhkaihaaGreatDoor.LawTreeMeasures
open Go.RowKit Go.Shelf
set_option linter.unusedVariables false
set_option linter.unusedSimpArgs false
attribute [local go_sem] Oper.semAt_some

/-- What stands in every world of the walk: the document, in its box, and what it leads to. -/
structure Ds (p1 : Nat) (me : List Pr) (l : List Blk) (vm vb : Value) (w0 w : World) : Prop where
  k1 : CB 25 p1 [vm, vb] w
  m1 : Rd (· < w.heap.size) w (prsD me) [vm]
  b1 : Rd (· < w.heap.size) w (blksD l) [vb]
  bel : Below w0.heap.size w0 w
theorem end_m {fn : Func} {R : Ending → World → Prop} {a : Act} {w : World} {v : Value} (hd : a.defers = []) (hr : (results fn a.tmps).run Tryz.prog w = .ok v w) (h : R (.returned v) w) : bodyPostM Fence.wide 3 Tryz.prog fn R .ret a w := by
  show LeavesInM _ _ _ _ _ _ a.defers _ _
  rw [hd]
  unfold LeavesInM LeavesIn
  exact ⟨v, hr, h⟩
section
variable {p1 : Nat} {me : List Pr} {l : List Blk} {vm vb : Value} {w0 w w2 : World}
theorem Ds.next (h : Ds p1 me l vm vb w0 w) (hb : Below w.heap.size w w2) : Ds p1 me l vm vb w0 w2 :=
  ⟨h.k1.below hb, h.m1.up hb, h.b1.up hb, below_trans_size h.bel hb⟩
theorem Ds.all (h : Ds p1 me l vm vb w0 w) : w.cell? ⟨p1, 0, none⟩ = some vm ∧ w.cell? ⟨p1, 1, none⟩ = some vb := ⟨h.k1.cell 0 _ rfl, h.k1.cell 1 _ rfl⟩
theorem Ds.drew (h : Ds p1 me l vm vb w0 w) : Ds p1 me l vm vb w0 w.drew := h.next ⟨rfl, rfl, rfl, Nat.le_refl _, fun _ _ => rfl⟩
end

/-- What stands behind the first loop. -/
structure Us (S Q D : Nat) (me : List Pr) (l : List Blk) (vm vb v : Value) (w0 w : World) : Prop where
  ds : Ds S me l vm vb w0 w
  bq : Box1 Q v 23 w
  al : Rd (· < w.heap.size) w (blksD (Blk.eachL l)) [v]
  df : w.heap[D]? = some (.deferred (some []))
section
variable {S Q D : Nat} {me : List Pr} {l : List Blk} {vm vb v vx : Value} {w0 w w2 : World} {xs : List Inl}
theorem Us.next (h : Us S Q D me l vm vb v w0 w) (hb : Below w.heap.size w w2) : Us S Q D me l vm vb v w0 w2 :=
  ⟨h.ds.next hb, h.bq.below h.bq.lt hb, h.al.up hb, (hb.block D (Array.getElem?_eq_some_iff.1 h.df).1).trans h.df⟩
theorem Us.all (h : Us S Q D me l vm vb v w0 w) : w.cell? ⟨S, 0, none⟩ = some vm ∧ w.cell? ⟨S, 1, none⟩ = some vb ∧ w.cell? ⟨Q, 0, none⟩ = some v := ⟨h.ds.all.1, h.ds.all.2, h.bq.cell⟩
theorem Us.go (h : w.cell? ⟨S, 0, none⟩ = some vm ∧ w.cell? ⟨S, 1, none⟩ = some vb ∧ w.cell? ⟨Q, 0, none⟩ = some v ∧ Us S Q D me l vm vb v w0 w ∧ Rd (· < w.heap.size) w (inlsD xs) [vx]) (hb : Below w.heap.size w w2) : w2.cell? ⟨S, 0, none⟩ = some vm ∧ w2.cell? ⟨S, 1, none⟩ = some vb ∧ w2.cell? ⟨Q, 0, none⟩ = some v ∧ Us S Q D me l vm vb v w0 w2 ∧ Rd (· < w2.heap.size) w2 (inlsD xs) [vx] :=
  have u := h.2.2.2.1.next hb
  ⟨u.all.1, u.all.2.1, u.all.2.2, u, h.2.2.2.2.up hb⟩
theorem Us.step (h : Us S Q D me l vm vb v w0 w) (hx : Rd (· < w.heap.size) w (inlsD xs) [vx]) : w.drew.cell? ⟨S, 0, none⟩ = some vm ∧ w.drew.cell? ⟨S, 1, none⟩ = some vb ∧ w.drew.cell? ⟨Q, 0, none⟩ = some v ∧ Us S Q D me l vm vb v w0 w.drew ∧ Rd (· < w.drew.heap.size) w.drew (inlsD xs) [vx] :=
  have b : Below w.heap.size w w.drew := ⟨rfl, rfl, rfl, Nat.le_refl _, fun _ _ => rfl⟩
  have u := h.next b
  ⟨u.all.1, u.all.2.1, u.all.2.2, u, hx.up b⟩
theorem Us.step2 {vy : Value} {ys : List Inl} {b o : Nat} (h : w.cell? ⟨S, 0, none⟩ = some vm ∧ w.cell? ⟨S, 1, none⟩ = some vb ∧ w.cell? ⟨Q, 0, none⟩ = some v ∧ Us S Q D me l vm vb v w0 w ∧ Rd (· < w.heap.size) w (inlsD xs) [vx]) (hc : w.cell? ⟨b, o, none⟩ = some vy) (hy : Rd (· < w.heap.size) w (inlsD ys) [vy]) (hb : b < w.heap.size) : w.drew.cell? ⟨S, 0, none⟩ = some vm ∧ w.drew.cell? ⟨S, 1, none⟩ = some vb ∧ w.drew.cell? ⟨Q, 0, none⟩ = some v ∧ w.drew.cell? ⟨b, o, none⟩ = some vy ∧ Us S Q D me l vm vb v w0 w.drew ∧ Rd (· < w.drew.heap.size) w.drew (inlsD xs) [vx] ∧ Rd (· < w.drew.heap.size) w.drew (inlsD ys) [vy] ∧ b < w.drew.heap.size :=
  have k := Us.go h (Below.drew (Below.refl _ _))
  ⟨k.1, k.2.1, k.2.2.1, hc, k.2.2.2.1, k.2.2.2.2, hy.up (Below.drew (Below.refl _ _)), hb⟩
theorem Us.go2 {vy : Value} {ys : List Inl} {b o : Nat} (h : w.cell? ⟨S, 0, none⟩ = some vm ∧ w.cell? ⟨S, 1, none⟩ = some vb ∧ w.cell? ⟨Q, 0, none⟩ = some v ∧ w.cell? ⟨b, o, none⟩ = some vy ∧ Us S Q D me l vm vb v w0 w ∧ Rd (· < w.heap.size) w (inlsD xs) [vx] ∧ Rd (· < w.heap.size) w (inlsD ys) [vy] ∧ b < w.heap.size) (hb : Below w.heap.size w w2) : w2.cell? ⟨S, 0, none⟩ = some vm ∧ w2.cell? ⟨S, 1, none⟩ = some vb ∧ w2.cell? ⟨Q, 0, none⟩ = some v ∧ w2.cell? ⟨b, o, none⟩ = some vy ∧ Us S Q D me l vm vb v w0 w2 ∧ Rd (· < w2.heap.size) w2 (inlsD xs) [vx] ∧ Rd (· < w2.heap.size) w2 (inlsD ys) [vy] ∧ b < w2.heap.size :=
  have k := Us.go ⟨h.1, h.2.1, h.2.2.1, h.2.2.2.2.1, h.2.2.2.2.2.1⟩ hb
  ⟨k.1, k.2.1, k.2.2.1, (hb.cell (p := ⟨b, o, none⟩) h.2.2.2.2.2.2.2).trans h.2.2.2.1, k.2.2.2.1, k.2.2.2.2, h.2.2.2.2.2.2.1.up hb, Nat.lt_of_lt_of_le h.2.2.2.2.2.2.2 hb.size⟩
theorem Us.back {vy : Value} {ys : List Inl} {b o : Nat} (h : w.cell? ⟨S, 0, none⟩ = some vm ∧ w.cell? ⟨S, 1, none⟩ = some vb ∧ w.cell? ⟨Q, 0, none⟩ = some v ∧ w.cell? ⟨b, o, none⟩ = some vy ∧ Us S Q D me l vm vb v w0 w ∧ Rd (· < w.heap.size) w (inlsD xs) [vx] ∧ Rd (· < w.heap.size) w (inlsD ys) [vy] ∧ b < w.heap.size) : w.cell? ⟨S, 0, none⟩ = some vm ∧ w.cell? ⟨S, 1, none⟩ = some vb ∧ w.cell? ⟨Q, 0, none⟩ = some v ∧ Us S Q D me l vm vb v w0 w ∧ Rd (· < w.heap.size) w (inlsD xs) [vx] := ⟨h.1, h.2.1, h.2.2.1, h.2.2.2.2.1, h.2.2.2.2.2.1⟩
theorem Us.fin (h : w.cell? ⟨S, 0, none⟩ = some vm ∧ w.cell? ⟨S, 1, none⟩ = some vb ∧ w.cell? ⟨Q, 0, none⟩ = some v ∧ Us S Q D me l vm vb v w0 w ∧ Rd (· < w.heap.size) w (inlsD xs) [vx]) : Below w0.heap.size w0 w ∧ w.heap[D]? = some (.deferred (some [])) := ⟨h.2.2.2.1.ds.bel, h.2.2.2.1.df⟩
end
theorem end_d {fn : Func} {R : Ending → World → Prop} {a : Act} {w : World} {v : Value} {D : Nat} (hd : a.defers = [{ target := .collected D, args := #[] }]) (hf : w.heap[D]? = some (.deferred (some []))) (hr : ∀ w', (results fn a.tmps).run Tryz.prog w' = .ok v w') (h : R (.returned v) (w.putObj D (.deferred none))) : bodyPostM Fence.wide 3 Tryz.prog fn R .ret a w := by
  show LeavesInM _ _ _ _ _ _ a.defers _ _
  rw [hd]
  refine ⟨by simp, .inl ⟨D, _, rfl, run_takeDeferred hf, ?_⟩⟩
  exact ⟨v, hr _, h⟩
theorem below_put {S D : Nat} {w w2 : World} {o : Obj} (h : Below S w w2) (hD : S ≤ D) : Below S w (w2.putObj D o) :=
  ⟨h.os, h.tape, h.output, by simpa [World.putObj] using h.size, fun b hb => (World.putObj_heap_other (by omega)).trans (h.block b hb)⟩

def MI (S Q : Nat) (w W0 : World) (pre : List (BW S w fun _ => True)) (W : World) : Prop := ∃ v rows, MB S Q w W0 (blksOf pre) v rows W
def MsA (S Q : Nat) (am : Option Addr) (nm cm : Nat) (ab : Option Addr) (nb cb : Nat) (x : BV) (Bx : Nat) : Act :=
  { tmps := #[.agg #[.slice am nm cm, .slice ab nb cb], .pointer (some ⟨S, 0, none⟩), .bool false, .pointer (some ⟨Q, 0, none⟩), .func (.func 65) #[] #[.pointer (some ⟨Q + 1, 0, none⟩)], .pointer (some ⟨Bx, 0, none⟩), undef, undef, .agg #[.slice am nm cm, .slice ab nb cb], .bool true, .bool false, undef, .pointer (some ⟨S, 1, none⟩), .slice ab nb cb, .func (.func 65) #[] #[.pointer (some ⟨Q + 1, 0, none⟩)], .func (.func 65) #[] #[.pointer (some ⟨Q + 1, 0, none⟩)], .bool false, .func (.func 65) #[] #[.pointer (some ⟨Q + 1, 0, none⟩)], x.enc, undef, undef, undef, undef, undef, undef, undef, undef, undef, undef, undef, undef, undef, undef, undef, undef, undef, undef, undef, undef, undef, undef, undef, undef, undef, undef, undef, undef, undef, undef, undef, undef, undef, undef, undef, undef, undef, undef, undef, undef, undef, undef, undef, undef, undef, undef, undef, undef, undef, undef, undef, undef, undef, undef, undef, undef, undef, undef, undef, undef, undef, undef, undef, undef, undef, undef, undef, undef, undef], defers := [] }
def MX (S Q : Nat) (am : Option Addr) (nm cm : Nat) (ab : Option Addr) (nb cb : Nat) (x : BV) (a' : Act) (W : World) : Prop := ∃ Bx, Q + 2 ≤ Bx ∧ CB 36 Bx x.cells W ∧ a' = MsA S Q am nm cm ab nb cb x Bx
theorem MI.own {S Q : Nat} {w W0 : World} {B : Nat} (hB : Q + 2 ≤ B) : OwnFrom B (MI S Q w W0) := fun s W W' row ⟨v, rows, h⟩ hg hr => ⟨v, rows, h.own hB hg hr⟩
theorem MX.own {S Q B : Nat} {am : Option Addr} {nm cm : Nat} {ab : Option Addr} {nb cb : Nat} {x : BV} {a' : Act} : OwnFrom B (fun (_ : Unit) W => MX S Q am nm cm ab nb cb x a' W) := fun _ W W' row ⟨Bx, h1, h2, h3⟩ hg hr =>
  ⟨Bx, h1, (hg.block Bx h2.lt (fun e => by
    obtain ⟨_, o, k1, k2⟩ := hr Bx e.symm
    unfold CB at h2
    rw [h2] at k1; cases k1; cases k2)).trans h2, h3⟩
theorem MI.grown {S Q : Nat} {w W0 W W' : World} {pre : List (BW S w fun _ => True)} (h : MI S Q w W0 pre W) (hg : W.grownBy W' none) : MI S Q w W0 pre W' := by
  obtain ⟨v, rows, h⟩ := h
  exact ⟨v, rows, h.grown hg (fun r e => by cases e)⟩
theorem cell_e {w : World} {B g m cap : Nat} {e : TypeId} {xs zs : List Value} (h : w.ownsRow B e 11 (.slice (some ⟨g, 0, none⟩) (m + 1) cap) (m + 1) (xs ++ zs)) (hx : xs.length = m * 11) (j : Nat) (u : Value) (hu : zs[j]? = some u) (hj : j < 11) : w.cell? ⟨g, m * 11 + j, none⟩ = some u := by
  rw [h.cellAt (m * 11 + j) (by omega), List.getElem?_append_right (by omega), hx, ← hu]
  congr 1; omega
theorem cap_e {w : World} {B g m cap k : Nat} {e : TypeId} {xs : List Value} (h : w.ownsRow B e k (.slice (some ⟨g, 0, none⟩) (m + 1) cap) (m + 1) xs) : m + 1 ≤ cap := by
  rcases h.2 with ⟨h1, _⟩ | ⟨g', cap', cur, h1, _, _, h2, _⟩
  · cases h1
  · injection h1 with _ _ h3; omega

set_option maxRecDepth 100000 in
set_option maxHeartbeats 4000000 in
theorem walk (me : List Pr) (l : List Blk) (vm vb : Value) (w : World) (hm : Rd (· < w.heap.size) w (prsD me) [vm]) (hb : Rd (· < w.heap.size) w (blksD l) [vb]) (hwm : ∀ p ∈ me, p.wf) (hwl : Blk.wfL l) :
    Calls Tryz.prog 9 #[.agg #[vm, vb]] w fun e w' => e = .returned (.bool true) ∧ Below w.heap.size w w' := by
  obtain ⟨am, nm, cm, rfl⟩ := Rd.slf hm
  obtain ⟨ab, nb, cb, rfl⟩ := Rd.slf hb
  obtain ⟨w1, hw1⟩ : ∃ w1, w1 = w.alloc (.cells #[.slice am nm cm, .slice ab nb cb] 25) := ⟨_, rfl⟩
  have T1 : Hid (Ds w.heap.size me l (.slice am nm cm) (.slice ab nb cb) w w1) := by
    have b1 : Below w.heap.size w w1 := by rw [hw1]; exact (Below.refl _ _).alloc (Nat.le_refl _) _
    refine ⟨?_, hm.up b1, hb.up b1, b1⟩
    rw [hw1]; exact CB.new _ _ _
  have SA := Lib.hid (fun w' (h : Ds w.heap.size me l (.slice am nm cm) (.slice ab nb cb) w w') => small_any me l _ _ w' h.m1 h.b1 hwm hwl)
  have HB := Lib.hid hb
  have HMM := Lib.hid hm
  clear hm hb hwm hwl
  refine (callsIn_wide (n := 3)).1 ?_
  refine callsIn_of_wp_marks Tryz.func9 rfl trivial ?_ rfl
  simp only [Tryz.ntmps9, List.size_toArray, List.length_cons, List.length_nil, Nat.reduceAdd, Nat.reduceSub, Array.replicate_succ, Array.replicate_zero, List.push_toArray, List.append_toArray, List.nil_append, List.cons_append]
  refine wpIn_wide.2 ?_
  go_upto_region 1 with (fail)
  rw [← hw1]
  clear hw1
  obtain ⟨x0, x1⟩ := T1.out.all
  go_wp2_with fail
  refine (SA.out _ T1.out).mono ?_
  rintro e w2 ⟨b, rfl, hsa, b2⟩
  have T2 := Lib.hid (T1.out.next b2)
  clear x0 x1 b2
  obtain ⟨x0, x1⟩ := T2.out.all
  cases b with
  | false =>
    clear hsa
    go_wp2_with fail
    refine (awake_any _).mono ?_
    rintro e w3 ⟨rfl, b3⟩
    have HBW := Lib.hid (below_trans_size T2.out.bel b3)
    clear b3
    go_wp2
    exact end_m (v := .bool true) rfl (by simp [results, Tryz.results9, go_sem]) ⟨rfl, HBW.out⟩
  | true =>
  have HSA := Lib.hid (hsa rfl)
  clear hsa SA T1
  go_upto_region 4 with (fail)
  obtain ⟨wA, hwA⟩ : ∃ wA, wA = w2.alloc (.cells #[.slice none 0 0] 23) := ⟨_, rfl⟩
  have bA : Below w2.heap.size w2 wA := by rw [hwA]; exact (Below.refl _ _).alloc (Nat.le_refl _) _
  have A0 : Box1 w2.heap.size (.slice none 0 0) 23 wA := by rw [hwA]; exact Box1.new _ _ _
  have zA : wA.heap.size = w2.heap.size + 1 := by rw [hwA]; simp
  have TA := Lib.hid (T2.out.next bA)
  rw [← hwA]
  clear x0 x1 hwA bA
  obtain ⟨x0, x1⟩ := TA.out.all
  have hnf : ∀ (x : Nat) (wx : World), Sem.run Tryz.prog (binOp BinOp.eql 49 (Value.func (Fn.func 65) #[] #[Value.pointer (some ⟨x, 0, none⟩)]) Value.nilFunc) wx = .ok (.bool false) wx := fun x wx => by rfl
  go_wp2_with (go_at_call 29; refine (each_any _ _ _ _).mono ?_; rintro e w' ⟨rfl, rfl⟩)
  obtain ⟨S, hS⟩ : ∃ S, S = w.heap.size := ⟨_, rfl⟩
  obtain ⟨Q, hQ⟩ : ∃ Q, Q = w2.heap.size := ⟨_, rfl⟩
  obtain ⟨W0, hW0⟩ : ∃ W0, W0 = wA.alloc (.cells #[.slice ab nb cb] 23) := ⟨_, rfl⟩
  have hSQ : S < Q := by rw [hS, hQ]; exact T2.out.k1.lt
  have z0 : W0.heap.size = Q + 2 := by rw [hW0, World.size_alloc, zA, hQ]
  have bQ : Box1 Q (.slice none 0 0) 23 W0 := by rw [hW0, hQ]; exact A0.alloc _
  have bL : Box1 (Q + 1) (.slice ab nb cb) 23 W0 := by rw [hW0, hQ, ← zA]; exact Box1.new _ _ _
  have bl0 : Below S w W0 := by rw [hW0, hS]; exact TA.out.bel.alloc TA.out.bel.size _
  have T0 := Lib.hid (TA.out.next (show Below wA.heap.size wA W0 by rw [hW0]; exact (Below.refl _ _).alloc (Nat.le_refl _) _))
  have al1 := HSA.out.all
  have sz1 := Blk.allL_sz l
  have M0 : MB S Q w W0 [] (.slice none 0 0) [] W0 := ⟨bQ, World.ownsRow_nil _ _ _ _, RdL.none, by simp, rfl, rfl, rfl, by omega, fun _ _ _ => rfl⟩
  rw [← hW0, ← hQ, ← hS]
  rw [← hS] at HB HMM T0
  have HSS := Lib.hid hS
  clear x0 x1 A0 zA hnf T2 TA hW0 hQ hS
  refine wpIn_wide (n := 3) |>.1 ?_
  refine wpIn_rangeFunc_ownH (α := BW S w (fun _ => True)) rfl (by decide) (gf := 65) (lb := #[.pointer (some ⟨Q + 1, 0, none⟩)]) rfl trivial (enters_of Tryz.func65 (by kernel_rfl) rfl)
    (each_stops 2 (Q + 1) S (fun _ => True) l (.slice ab nb cb) w W0 (KpM Q) (KpM.ok (Nat.le_of_lt hSQ)) (fun _ _ => trivial) HB.out bl0 (by omega) bL) (fun h k => h.trans k) (fun W l o o' h1 h2 h3 _ => KpM.obj W l o o' (by omega) h2 h3) (Below.refl _ _) (fun _ => rfl)
    (MI S Q w W0) (fun _ _ _ => False) (MI.own (by omega)) (fun c s A B row h _ _ => h) ⟨_, _, M0⟩
    (fun x a' W => MX S Q am nm cm ab nb cb x.1 a' W) (fun x a' => MX.own) ?assign ?body ?done ?stop
  case stop => rintro D c pre W _ _ h _; exact h.elim
  case assign =>
    rintro l0 pre ⟨⟨kd, lv, i, t, d, ti, at_, li, ks, vc, vp, vl, vk⟩, hR, hpl1⟩ W K hi hK
    dsimp only at hR hK
    obtain ⟨ac, nc, cc, rfl⟩ := Rd.sl_form hR.at_.cls
    obtain ⟨ap, np, cp, rfl⟩ := Rd.sl_form hR.at_.prs
    obtain ⟨al, nl, cl, rfl⟩ := Rd.sl_form hR.line
    obtain ⟨ak, nk, ck, rfl⟩ := Rd.sl_form hR.kids
    have HI := Lib.hid hi
    have HK := Lib.hid hK
    clear hi hK
    dsimp only [BV.enc]
    gi_wp2
    obtain ⟨v, rows, hM⟩ := HI.out
    have hsz := hM.size
    exact HK.out _ _ ((KeepsOthers.alloc _ _).from _) (KpM.grown (World.grownBy_alloc _ _ none) hsz) (HI.out.grown (World.grownBy_alloc _ _ none)) ⟨W.heap.size, hsz, heap_alloc_new W _, rfl⟩
  case body =>
    rintro l0 pre x a' W hl0 _ ⟨v, rows, hM⟩ ⟨Bx, hBx, hQB, rfl⟩ hlen
    have hR := x.2.1
    obtain ⟨y, hy⟩ : ∃ y, y = x.1 := ⟨_, rfl⟩
    rw [← hy] at hR hQB ⊢
    obtain ⟨kd, lv, i, t, d, ti, at_, li, ks, vc, vp, vl, vk⟩ := y
    dsimp only at hR
    obtain ⟨ac, nc, cc, rfl⟩ := Rd.sl_form hR.at_.cls
    obtain ⟨ap, np, cp, rfl⟩ := Rd.sl_form hR.at_.prs
    obtain ⟨al, nl, cl, rfl⟩ := Rd.sl_form hR.line
    obtain ⟨ak, nk, ck, rfl⟩ := Rd.sl_form hR.kids
    have hRX : Rd (· < S) w (BV.blk x.1).d [.int .i64 kd, .int .i64 lv, .string i, .string t, .string d, .string ti, .string at_.id, .slice ac nc cc, .slice ap np cp, .slice al nl cl, .slice ak nk ck] := by rw [← hy]; exact Blk.mk_ kd lv i t d ti hR
    have HEQ : Hid (blksOf (pre ++ [x]) = blksOf pre ++ [x.1.blk]) := by show _ = _; rw [blksOf_app]; rfl
    have hbl : (blksOf pre).length ≤ 1000000 := by
      have h2 := Blk.eachL_eq l
      rw [blksOf_len]; omega
    obtain ⟨n, hn⟩ : ∃ n, n = (blksOf pre).length := ⟨_, rfl⟩
    have hbn : n ≤ 1000000 := by rw [hn]; exact hbl
    have hrl : rows.flatten.length = n * 11 := by rw [hn]; exact hM.ou.1
    obtain ⟨av, cv, rfl⟩ := own_slice hM.ou
    obtain ⟨i0, hi0, hz0, hz1, hz2⟩ := info_parts infoBl
    have hszW := hM.size
    have cu : W.drew.cell? ⟨Q, 0, none⟩ = some (.slice av (blksOf pre).length cv) := hM.bp.cell
    have r0 : W.drew.cell? ⟨Bx, 0, none⟩ = some (.int .i64 kd) := hQB.cell 0 _ rfl
    have u0 : ∀ o : Obj, (W.alloc o).drew.cell? ⟨Bx, 0, none⟩ = some (.int .i64 kd) := fun o => past (w := W) (hQB.cell 0 _ rfl) o
    have r1 : W.drew.cell? ⟨Bx, 1, none⟩ = some (.int .i64 lv) := hQB.cell 1 _ rfl
    have u1 : ∀ o : Obj, (W.alloc o).drew.cell? ⟨Bx, 1, none⟩ = some (.int .i64 lv) := fun o => past (w := W) (hQB.cell 1 _ rfl) o
    have r2 : W.drew.cell? ⟨Bx, 2, none⟩ = some (.string i) := hQB.cell 2 _ rfl
    have u2 : ∀ o : Obj, (W.alloc o).drew.cell? ⟨Bx, 2, none⟩ = some (.string i) := fun o => past (w := W) (hQB.cell 2 _ rfl) o
    have r3 : W.drew.cell? ⟨Bx, 3, none⟩ = some (.string t) := hQB.cell 3 _ rfl
    have u3 : ∀ o : Obj, (W.alloc o).drew.cell? ⟨Bx, 3, none⟩ = some (.string t) := fun o => past (w := W) (hQB.cell 3 _ rfl) o
    have r4 : W.drew.cell? ⟨Bx, 4, none⟩ = some (.string d) := hQB.cell 4 _ rfl
    have u4 : ∀ o : Obj, (W.alloc o).drew.cell? ⟨Bx, 4, none⟩ = some (.string d) := fun o => past (w := W) (hQB.cell 4 _ rfl) o
    have r5 : W.drew.cell? ⟨Bx, 5, none⟩ = some (.string ti) := hQB.cell 5 _ rfl
    have u5 : ∀ o : Obj, (W.alloc o).drew.cell? ⟨Bx, 5, none⟩ = some (.string ti) := fun o => past (w := W) (hQB.cell 5 _ rfl) o
    have r6 : W.drew.cell? ⟨Bx, 6, none⟩ = some (.string at_.id) := hQB.cell 6 _ rfl
    have u6 : ∀ o : Obj, (W.alloc o).drew.cell? ⟨Bx, 6, none⟩ = some (.string at_.id) := fun o => past (w := W) (hQB.cell 6 _ rfl) o
    have r7 : W.drew.cell? ⟨Bx, 7, none⟩ = some (.slice ac nc cc) := hQB.cell 7 _ rfl
    have u7 : ∀ o : Obj, (W.alloc o).drew.cell? ⟨Bx, 7, none⟩ = some (.slice ac nc cc) := fun o => past (w := W) (hQB.cell 7 _ rfl) o
    have r8 : W.drew.cell? ⟨Bx, 8, none⟩ = some (.slice ap np cp) := hQB.cell 8 _ rfl
    have u8 : ∀ o : Obj, (W.alloc o).drew.cell? ⟨Bx, 8, none⟩ = some (.slice ap np cp) := fun o => past (w := W) (hQB.cell 8 _ rfl) o
    have r9 : W.drew.cell? ⟨Bx, 9, none⟩ = some (.slice al nl cl) := hQB.cell 9 _ rfl
    have u9 : ∀ o : Obj, (W.alloc o).drew.cell? ⟨Bx, 9, none⟩ = some (.slice al nl cl) := fun o => past (w := W) (hQB.cell 9 _ rfl) o
    have r10 : W.drew.cell? ⟨Bx, 10, none⟩ = some (.slice ak nk ck) := hQB.cell 10 _ rfl
    have u10 : ∀ o : Obj, (W.alloc o).drew.cell? ⟨Bx, 10, none⟩ = some (.slice ak nk ck) := fun o => past (w := W) (hQB.cell 10 _ rfl) o
    have HM := Lib.hid hM
    have HRX := Lib.hid hRX
    have HYY := Lib.hid hy
    have cuo : ∀ o : Obj, (W.alloc o).drew.cell? ⟨Q, 0, none⟩ = some (.slice av (blksOf pre).length cv) := fun o => past (w := W) HM.out.bp.cell o
    rw [← hn] at cu
    simp only [← hn] at cuo
    have HN := Lib.hid hn
    clear hM hR hRX hQB hlen hy hn
    unfold MsA
    dsimp only [BV.enc]
    gi_upto_region 9 with (fail)
    refine wpIn_region_any (by kernel_rfl) ?_
    change wpAnyIn _ _ _ _ _ _ _ _ _ (World.drew _)
    refine wpAnyIn_ready (rs := [0, 1, 3]) (by kernel_rfl) (by simp) ?_
    refine AllReadyIn.cons rfl (fun K hK => ?_) (AllReadyIn.cons rfl (fun K hK => ?_) (AllReadyIn.cons rfl (fun K hK => ?_) AllReadyIn.nil))
    ·
      go_simp
      refine hK _ _ ?_
      clear hK K
      (try simp only [Act.put, List.setIfInBounds_toArray, List.set_cons_zero, List.set_cons_succ])
      refine wpAnyIn_ready (rs := [1, 2, 3]) (by kernel_rfl) (by simp) ?_
      refine AllReadyIn.cons rfl (fun K hK => ?_) (AllReadyIn.cons rfl (fun K hK => ?_) (AllReadyIn.cons rfl (fun K hK => ?_) AllReadyIn.nil))
      ·
        go_simp
        refine hK _ _ ?_
        clear hK K
        (try simp only [Act.put, List.setIfInBounds_toArray, List.set_cons_zero, List.set_cons_succ])
        refine wpAnyIn_ready (rs := [2, 3]) (by kernel_rfl) (by simp) ?_
        refine AllReadyIn.cons rfl (fun K hK => ?_) (AllReadyIn.cons rfl (fun K hK => ?_) AllReadyIn.nil)
        ·
          go_simp
          refine hK _ _ ?_
          clear hK K
          (try simp only [Act.put, List.setIfInBounds_toArray, List.set_cons_zero, List.set_cons_succ])
          refine wpAnyIn_ready (rs := [3]) (by kernel_rfl) (by simp) ?_
          refine AllReadyIn.cons rfl (fun K hK => ?_) AllReadyIn.nil
          go_simp
          refine hK _ _ ?_
          clear hK K
          (try simp only [Act.put, List.setIfInBounds_toArray, List.set_cons_zero, List.set_cons_succ])
          refine wpAnyIn_ready (rs := [4]) (by kernel_rfl) (by simp) ?_
          refine AllReadyIn.cons rfl (fun K hK => ?_) AllReadyIn.nil
          refine stepIn_append_at rfl (.tmp 19) (.tmp 22) 23 rfl (Q + 2) 36 i0 _ 11 192 Tryz.underlying23 hi0 hz0 hz1 hz2 rfl (by decide) (.slice av n cv) n rows.flatten rfl (by have := HM.out.ou.drew.alloc (.cells [.int .i64 0, .int .i64 0, .string ⟨#[]⟩, .string ⟨#[]⟩, .string ⟨#[]⟩, .string ⟨#[]⟩, .string ⟨#[]⟩, .slice none 0 0, .slice none 0 0, .slice none 0 0, .slice none 0 0].toArray 36); rw [← HN.out] at this; exact this) ⟨W.heap.size, 0, none⟩ 1 1 [.int .i64 0, .int .i64 0, .string ⟨#[]⟩, .string ⟨#[]⟩, .string ⟨#[]⟩, .string ⟨#[]⟩, .string ⟨#[]⟩, .slice none 0 0, .slice none 0 0, .slice none 0 0, .slice none 0 0] rfl rfl (new_cells W.drew [.int .i64 0, .int .i64 0, .string ⟨#[]⟩, .string ⟨#[]⟩, .string ⟨#[]⟩, .string ⟨#[]⟩, .string ⟨#[]⟩, .slice none 0 0, .slice none 0 0, .slice none 0 0, .slice none 0 0] _) (by simp [Value.oneCell']) (by unfold maxLen; omega) (by omega) (by show Q + 2 ≤ (W.drew.alloc _).heap.size; rw [World.size_alloc]; show Q + 2 ≤ W.heap.size + 1; omega) ?_
          intro v' w3 hown' hgrow hat
          obtain ⟨g, cap, rfl⟩ := ownsRow_succ hown'
          have hgQ : Q + 2 ≤ g := (hown'.lt g rfl).1
          have hix : (n : Int) < (n : Int) + 1 := (by omega)
          have hcp := cap_e hown'
          have hnv : some Q ≠ (Value.slice av n cv).ownBlock := fun e => by have := (HM.out.ou.lt Q (by rw [← HN.out]; exact e.symm)).1; omega
          have bx3 : Box1 Q (.slice av n cv) 23 w3 := by
            have h0 : Box1 Q (.slice av n cv) 23 ((W.alloc (.cells [.int .i64 0, .int .i64 0, .string ⟨#[]⟩, .string ⟨#[]⟩, .string ⟨#[]⟩, .string ⟨#[]⟩, .string ⟨#[]⟩, .slice none 0 0, .slice none 0 0, .slice none 0 0, .slice none 0 0].toArray 36)).drew) := by have := HM.out.bp; rw [← HN.out] at this; exact (this.alloc _).drew
            exact (hgrow.block Q (by show Q < (W.alloc _).heap.size; rw [World.size_alloc]; omega) hnv).trans h0
          have kb := bx3.cell
          have fb := bx3.free
          have s0 := cell_e hown' hrl 0 _ rfl (by omega)
          have z0 := hown'.frozenAt (n * 11 + 0)
          have s1 := cell_e hown' hrl 1 _ rfl (by omega)
          have z1 := hown'.frozenAt (n * 11 + 1)
          have s2 := cell_e hown' hrl 2 _ rfl (by omega)
          have z2 := hown'.frozenAt (n * 11 + 2)
          have s3 := cell_e hown' hrl 3 _ rfl (by omega)
          have z3 := hown'.frozenAt (n * 11 + 3)
          have s4 := cell_e hown' hrl 4 _ rfl (by omega)
          have z4 := hown'.frozenAt (n * 11 + 4)
          have s5 := cell_e hown' hrl 5 _ rfl (by omega)
          have z5 := hown'.frozenAt (n * 11 + 5)
          have s6 := cell_e hown' hrl 6 _ rfl (by omega)
          have z6 := hown'.frozenAt (n * 11 + 6)
          have s7 := cell_e hown' hrl 7 _ rfl (by omega)
          have z7 := hown'.frozenAt (n * 11 + 7)
          have s8 := cell_e hown' hrl 8 _ rfl (by omega)
          have z8 := hown'.frozenAt (n * 11 + 8)
          have s9 := cell_e hown' hrl 9 _ rfl (by omega)
          have z9 := hown'.frozenAt (n * 11 + 9)
          have s10 := cell_e hown' hrl 10 _ rfl (by omega)
          have z10 := hown'.frozenAt (n * 11 + 10)
          simp only [Nat.add_zero] at s0 z0
          have PT1 : (KeepsFrom (Q + 2) W ((elv w3 g (n * 11) (.int .i64 kd) (.int .i64 lv) (.string i) (.string t) (.string d) (.string ti) (.string at_.id) (.slice ac nc cc) (.slice ap np cp) (.slice al nl cl) (.slice ak nk ck)).setCell ⟨Q, 0, none⟩ (.slice (some ⟨g, 0, none⟩) (n + 1) cap)) ∧ KpM Q W ((elv w3 g (n * 11) (.int .i64 kd) (.int .i64 lv) (.string i) (.string t) (.string d) (.string ti) (.string at_.id) (.slice ac nc cc) (.slice ap np cp) (.slice al nl cl) (.slice ak nk ck)).setCell ⟨Q, 0, none⟩ (.slice (some ⟨g, 0, none⟩) (n + 1) cap)) ∧ MI S Q w W0 (pre ++ [x]) ((elv w3 g (n * 11) (.int .i64 kd) (.int .i64 lv) (.string i) (.string t) (.string d) (.string ti) (.string at_.id) (.slice ac nc cc) (.slice ap np cp) (.slice al nl cl) (.slice ak nk ck)).setCell ⟨Q, 0, none⟩ (.slice (some ⟨g, 0, none⟩) (n + 1) cap))) ∧ (KeepsFrom (Q + 2) W (elv (w3.setCell ⟨Q, 0, none⟩ (.slice (some ⟨g, 0, none⟩) (n + 1) cap)) g (n * 11) (.int .i64 kd) (.int .i64 lv) (.string i) (.string t) (.string d) (.string ti) (.string at_.id) (.slice ac nc cc) (.slice ap np cp) (.slice al nl cl) (.slice ak nk ck)) ∧ KpM Q W (elv (w3.setCell ⟨Q, 0, none⟩ (.slice (some ⟨g, 0, none⟩) (n + 1) cap)) g (n * 11) (.int .i64 kd) (.int .i64 lv) (.string i) (.string t) (.string d) (.string ti) (.string at_.id) (.slice ac nc cc) (.slice ap np cp) (.slice al nl cl) (.slice ak nk ck)) ∧ MI S Q w W0 (pre ++ [x]) (elv (w3.setCell ⟨Q, 0, none⟩ (.slice (some ⟨g, 0, none⟩) (n + 1) cap)) g (n * 11) (.int .i64 kd) (.int .i64 lv) (.string i) (.string t) (.string d) (.string ti) (.string at_.id) (.slice ac nc cc) (.slice ap np cp) (.slice al nl cl) (.slice ak nk ck))) := by
            have hg1 : W.grownBy ((W.alloc (.cells [.int .i64 0, .int .i64 0, .string ⟨#[]⟩, .string ⟨#[]⟩, .string ⟨#[]⟩, .string ⟨#[]⟩, .string ⟨#[]⟩, .slice none 0 0, .slice none 0 0, .slice none 0 0, .slice none 0 0].toArray 36)).drew) none := grown_drew (World.grownBy_alloc W _ none)
            have go : ∀ w4, (Box1 Q (.slice (some ⟨g, 0, none⟩) (n + 1) cap) 23 w4 ∧ w4.ownsRow (Q + 2) 36 11 (.slice (some ⟨g, 0, none⟩) (n + 1) cap) (n + 1) (rows.flatten ++ [.int .i64 kd, .int .i64 lv, .string i, .string t, .string d, .string ti, .string at_.id, .slice ac nc cc, .slice ap np cp, .slice al nl cl, .slice ak nk ck]) ∧ (∀ b, b ≠ Q → b ≠ g → w4.heap[b]? = w3.heap[b]?) ∧ w4.heap.size = w3.heap.size ∧ (w4.os = w3.os ∧ w4.tape = w3.tape ∧ w4.output = w3.output)) → KeepsFrom (Q + 2) W (w4) ∧ KpM Q W (w4) ∧ MI S Q w W0 (pre ++ [x]) (w4) := by
              rintro w4 ⟨e1, e2, e3, e4, e5⟩
              have hM1 := HM.out
              have hn1 := HN.out
              subst hn1
              have P := MB.push (cs := [.int .i64 kd, .int .i64 lv, .string i, .string t, .string d, .string ti, .string at_.id, .slice ac nc cc, .slice ap np cp, .slice al nl cl, .slice ak nk ck]) hM1 hg1 hown' hgrow hat HRX.out rfl e1 e2 e3 e4 e5 (Q + 2)
              have P1 := P.1
              rw [← HEQ.out] at P1
              exact ⟨P.2.2, P.2.1, _, _, P1⟩
            exact ⟨go _ (two_ab bx3 hown' hrl rfl _ rfl), go _ (two_ba bx3 hown' hrl rfl _ rfl)⟩
          simp only [elv, Nat.add_zero] at PT1
          have PT := Lib.hid PT1
          clear PT1 hown' hgrow hat bx3
          refine hK _ _ ?_
          clear hK K
          (try simp only [Act.put, List.setIfInBounds_toArray, List.set_cons_zero, List.set_cons_succ])
          refine wpAnyIn_ready (rs := [5, 7]) (by kernel_rfl) (by simp) ?_
          refine AllReadyIn.cons rfl (fun K hK => ?_) (AllReadyIn.cons rfl (fun K hK => ?_) AllReadyIn.nil)
          ·
            go_simp
            refine hK _ _ ?_
            clear hK K
            (try simp only [Act.put, List.setIfInBounds_toArray, List.set_cons_zero, List.set_cons_succ])
            refine wpAnyIn_ready (rs := [6, 7]) (by kernel_rfl) (by simp) ?_
            refine AllReadyIn.cons rfl (fun K hK => ?_) (AllReadyIn.cons rfl (fun K hK => ?_) AllReadyIn.nil)
            ·
              go_simp
              refine hK _ _ ?_
              clear hK K
              (try simp only [Act.put, List.setIfInBounds_toArray, List.set_cons_zero, List.set_cons_succ])
              refine wpAnyIn_ready (rs := [7]) (by kernel_rfl) (by simp) ?_
              refine AllReadyIn.cons rfl (fun K hK => ?_) AllReadyIn.nil
              go_simp
              refine hK _ _ ?_
              clear hK K
              (try simp only [Act.put, List.setIfInBounds_toArray, List.set_cons_zero, List.set_cons_succ])
              refine wpAnyIn_done (by kernel_rfl) ?_ _
              gi_wp2_with fail
              change _ ∧ _ ∧ _
              first | with_reducible exact PT.out.1 | with_reducible exact PT.out.2
            ·
              go_simp
              refine hK _ _ ?_
              clear hK K
              (try simp only [Act.put, List.setIfInBounds_toArray, List.set_cons_zero, List.set_cons_succ])
              refine wpAnyIn_ready (rs := [6]) (by kernel_rfl) (by simp) ?_
              refine AllReadyIn.cons rfl (fun K hK => ?_) AllReadyIn.nil
              go_simp
              refine hK _ _ ?_
              clear hK K
              (try simp only [Act.put, List.setIfInBounds_toArray, List.set_cons_zero, List.set_cons_succ])
              refine wpAnyIn_done (by kernel_rfl) ?_ _
              gi_wp2_with fail
              change _ ∧ _ ∧ _
              first | with_reducible exact PT.out.1 | with_reducible exact PT.out.2
          ·
            go_simp
            refine hK _ _ ?_
            clear hK K
            (try simp only [Act.put, List.setIfInBounds_toArray, List.set_cons_zero, List.set_cons_succ])
            refine wpAnyIn_ready (rs := [5]) (by kernel_rfl) (by simp) ?_
            refine AllReadyIn.cons rfl (fun K hK => ?_) AllReadyIn.nil
            go_simp
            refine hK _ _ ?_
            clear hK K
            (try simp only [Act.put, List.setIfInBounds_toArray, List.set_cons_zero, List.set_cons_succ])
            refine wpAnyIn_ready (rs := [6]) (by kernel_rfl) (by simp) ?_
            refine AllReadyIn.cons rfl (fun K hK => ?_) AllReadyIn.nil
            go_simp
            refine hK _ _ ?_
            clear hK K
            (try simp only [Act.put, List.setIfInBounds_toArray, List.set_cons_zero, List.set_cons_succ])
            refine wpAnyIn_done (by kernel_rfl) ?_ _
            gi_wp2_with fail
            change _ ∧ _ ∧ _
            first | with_reducible exact PT.out.1 | with_reducible exact PT.out.2
        ·
          go_simp
          refine hK _ _ ?_
          clear hK K
          (try simp only [Act.put, List.setIfInBounds_toArray, List.set_cons_zero, List.set_cons_succ])
          refine wpAnyIn_ready (rs := [2]) (by kernel_rfl) (by simp) ?_
          refine AllReadyIn.cons rfl (fun K hK => ?_) AllReadyIn.nil
          go_simp
          refine hK _ _ ?_
          clear hK K
          (try simp only [Act.put, List.setIfInBounds_toArray, List.set_cons_zero, List.set_cons_succ])
          refine wpAnyIn_ready (rs := [4]) (by kernel_rfl) (by simp) ?_
          refine AllReadyIn.cons rfl (fun K hK => ?_) AllReadyIn.nil
          refine stepIn_append_at rfl (.tmp 19) (.tmp 22) 23 rfl (Q + 2) 36 i0 _ 11 192 Tryz.underlying23 hi0 hz0 hz1 hz2 rfl (by decide) (.slice av n cv) n rows.flatten rfl (by have := HM.out.ou.drew.alloc (.cells [.int .i64 0, .int .i64 0, .string ⟨#[]⟩, .string ⟨#[]⟩, .string ⟨#[]⟩, .string ⟨#[]⟩, .string ⟨#[]⟩, .slice none 0 0, .slice none 0 0, .slice none 0 0, .slice none 0 0].toArray 36); rw [← HN.out] at this; exact this) ⟨W.heap.size, 0, none⟩ 1 1 [.int .i64 0, .int .i64 0, .string ⟨#[]⟩, .string ⟨#[]⟩, .string ⟨#[]⟩, .string ⟨#[]⟩, .string ⟨#[]⟩, .slice none 0 0, .slice none 0 0, .slice none 0 0, .slice none 0 0] rfl rfl (new_cells W.drew [.int .i64 0, .int .i64 0, .string ⟨#[]⟩, .string ⟨#[]⟩, .string ⟨#[]⟩, .string ⟨#[]⟩, .string ⟨#[]⟩, .slice none 0 0, .slice none 0 0, .slice none 0 0, .slice none 0 0] _) (by simp [Value.oneCell']) (by unfold maxLen; omega) (by omega) (by show Q + 2 ≤ (W.drew.alloc _).heap.size; rw [World.size_alloc]; show Q + 2 ≤ W.heap.size + 1; omega) ?_
          intro v' w3 hown' hgrow hat
          obtain ⟨g, cap, rfl⟩ := ownsRow_succ hown'
          have hgQ : Q + 2 ≤ g := (hown'.lt g rfl).1
          have hix : (n : Int) < (n : Int) + 1 := (by omega)
          have hcp := cap_e hown'
          have hnv : some Q ≠ (Value.slice av n cv).ownBlock := fun e => by have := (HM.out.ou.lt Q (by rw [← HN.out]; exact e.symm)).1; omega
          have bx3 : Box1 Q (.slice av n cv) 23 w3 := by
            have h0 : Box1 Q (.slice av n cv) 23 ((W.alloc (.cells [.int .i64 0, .int .i64 0, .string ⟨#[]⟩, .string ⟨#[]⟩, .string ⟨#[]⟩, .string ⟨#[]⟩, .string ⟨#[]⟩, .slice none 0 0, .slice none 0 0, .slice none 0 0, .slice none 0 0].toArray 36)).drew) := by have := HM.out.bp; rw [← HN.out] at this; exact (this.alloc _).drew
            exact (hgrow.block Q (by show Q < (W.alloc _).heap.size; rw [World.size_alloc]; omega) hnv).trans h0
          have kb := bx3.cell
          have fb := bx3.free
          have s0 := cell_e hown' hrl 0 _ rfl (by omega)
          have z0 := hown'.frozenAt (n * 11 + 0)
          have s1 := cell_e hown' hrl 1 _ rfl (by omega)
          have z1 := hown'.frozenAt (n * 11 + 1)
          have s2 := cell_e hown' hrl 2 _ rfl (by omega)
          have z2 := hown'.frozenAt (n * 11 + 2)
          have s3 := cell_e hown' hrl 3 _ rfl (by omega)
          have z3 := hown'.frozenAt (n * 11 + 3)
          have s4 := cell_e hown' hrl 4 _ rfl (by omega)
          have z4 := hown'.frozenAt (n * 11 + 4)
          have s5 := cell_e hown' hrl 5 _ rfl (by omega)
          have z5 := hown'.frozenAt (n * 11 + 5)
          have s6 := cell_e hown' hrl 6 _ rfl (by omega)
          have z6 := hown'.frozenAt (n * 11 + 6)
          have s7 := cell_e hown' hrl 7 _ rfl (by omega)
          have z7 := hown'.frozenAt (n * 11 + 7)
          have s8 := cell_e hown' hrl 8 _ rfl (by omega)
          have z8 := hown'.frozenAt (n * 11 + 8)
          have s9 := cell_e hown' hrl 9 _ rfl (by omega)
          have z9 := hown'.frozenAt (n * 11 + 9)
          have s10 := cell_e hown' hrl 10 _ rfl (by omega)
          have z10 := hown'.frozenAt (n * 11 + 10)
          simp only [Nat.add_zero] at s0 z0
          have PT1 : (KeepsFrom (Q + 2) W ((elv w3 g (n * 11) (.int .i64 kd) (.int .i64 lv) (.string i) (.string t) (.string d) (.string ti) (.string at_.id) (.slice ac nc cc) (.slice ap np cp) (.slice al nl cl) (.slice ak nk ck)).setCell ⟨Q, 0, none⟩ (.slice (some ⟨g, 0, none⟩) (n + 1) cap)) ∧ KpM Q W ((elv w3 g (n * 11) (.int .i64 kd) (.int .i64 lv) (.string i) (.string t) (.string d) (.string ti) (.string at_.id) (.slice ac nc cc) (.slice ap np cp) (.slice al nl cl) (.slice ak nk ck)).setCell ⟨Q, 0, none⟩ (.slice (some ⟨g, 0, none⟩) (n + 1) cap)) ∧ MI S Q w W0 (pre ++ [x]) ((elv w3 g (n * 11) (.int .i64 kd) (.int .i64 lv) (.string i) (.string t) (.string d) (.string ti) (.string at_.id) (.slice ac nc cc) (.slice ap np cp) (.slice al nl cl) (.slice ak nk ck)).setCell ⟨Q, 0, none⟩ (.slice (some ⟨g, 0, none⟩) (n + 1) cap))) ∧ (KeepsFrom (Q + 2) W (elv (w3.setCell ⟨Q, 0, none⟩ (.slice (some ⟨g, 0, none⟩) (n + 1) cap)) g (n * 11) (.int .i64 kd) (.int .i64 lv) (.string i) (.string t) (.string d) (.string ti) (.string at_.id) (.slice ac nc cc) (.slice ap np cp) (.slice al nl cl) (.slice ak nk ck)) ∧ KpM Q W (elv (w3.setCell ⟨Q, 0, none⟩ (.slice (some ⟨g, 0, none⟩) (n + 1) cap)) g (n * 11) (.int .i64 kd) (.int .i64 lv) (.string i) (.string t) (.string d) (.string ti) (.string at_.id) (.slice ac nc cc) (.slice ap np cp) (.slice al nl cl) (.slice ak nk ck)) ∧ MI S Q w W0 (pre ++ [x]) (elv (w3.setCell ⟨Q, 0, none⟩ (.slice (some ⟨g, 0, none⟩) (n + 1) cap)) g (n * 11) (.int .i64 kd) (.int .i64 lv) (.string i) (.string t) (.string d) (.string ti) (.string at_.id) (.slice ac nc cc) (.slice ap np cp) (.slice al nl cl) (.slice ak nk ck))) := by
            have hg1 : W.grownBy ((W.alloc (.cells [.int .i64 0, .int .i64 0, .string ⟨#[]⟩, .string ⟨#[]⟩, .string ⟨#[]⟩, .string ⟨#[]⟩, .string ⟨#[]⟩, .slice none 0 0, .slice none 0 0, .slice none 0 0, .slice none 0 0].toArray 36)).drew) none := grown_drew (World.grownBy_alloc W _ none)
            have go : ∀ w4, (Box1 Q (.slice (some ⟨g, 0, none⟩) (n + 1) cap) 23 w4 ∧ w4.ownsRow (Q + 2) 36 11 (.slice (some ⟨g, 0, none⟩) (n + 1) cap) (n + 1) (rows.flatten ++ [.int .i64 kd, .int .i64 lv, .string i, .string t, .string d, .string ti, .string at_.id, .slice ac nc cc, .slice ap np cp, .slice al nl cl, .slice ak nk ck]) ∧ (∀ b, b ≠ Q → b ≠ g → w4.heap[b]? = w3.heap[b]?) ∧ w4.heap.size = w3.heap.size ∧ (w4.os = w3.os ∧ w4.tape = w3.tape ∧ w4.output = w3.output)) → KeepsFrom (Q + 2) W (w4) ∧ KpM Q W (w4) ∧ MI S Q w W0 (pre ++ [x]) (w4) := by
              rintro w4 ⟨e1, e2, e3, e4, e5⟩
              have hM1 := HM.out
              have hn1 := HN.out
              subst hn1
              have P := MB.push (cs := [.int .i64 kd, .int .i64 lv, .string i, .string t, .string d, .string ti, .string at_.id, .slice ac nc cc, .slice ap np cp, .slice al nl cl, .slice ak nk ck]) hM1 hg1 hown' hgrow hat HRX.out rfl e1 e2 e3 e4 e5 (Q + 2)
              have P1 := P.1
              rw [← HEQ.out] at P1
              exact ⟨P.2.2, P.2.1, _, _, P1⟩
            exact ⟨go _ (two_ab bx3 hown' hrl rfl _ rfl), go _ (two_ba bx3 hown' hrl rfl _ rfl)⟩
          simp only [elv, Nat.add_zero] at PT1
          have PT := Lib.hid PT1
          clear PT1 hown' hgrow hat bx3
          refine hK _ _ ?_
          clear hK K
          (try simp only [Act.put, List.setIfInBounds_toArray, List.set_cons_zero, List.set_cons_succ])
          refine wpAnyIn_ready (rs := [5, 7]) (by kernel_rfl) (by simp) ?_
          refine AllReadyIn.cons rfl (fun K hK => ?_) (AllReadyIn.cons rfl (fun K hK => ?_) AllReadyIn.nil)
          ·
            go_simp
            refine hK _ _ ?_
            clear hK K
            (try simp only [Act.put, List.setIfInBounds_toArray, List.set_cons_zero, List.set_cons_succ])
            refine wpAnyIn_ready (rs := [6, 7]) (by kernel_rfl) (by simp) ?_
            refine AllReadyIn.cons rfl (fun K hK => ?_) (AllReadyIn.cons rfl (fun K hK => ?_) AllReadyIn.nil)
            ·
              go_simp
              refine hK _ _ ?_
              clear hK K
              (try simp only [Act.put, List.setIfInBounds_toArray, List.set_cons_zero, List.set_cons_succ])
              refine wpAnyIn_ready (rs := [7]) (by kernel_rfl) (by simp) ?_
              refine AllReadyIn.cons rfl (fun K hK => ?_) AllReadyIn.nil
              go_simp
              refine hK _ _ ?_
              clear hK K
              (try simp only [Act.put, List.setIfInBounds_toArray, List.set_cons_zero, List.set_cons_succ])
              refine wpAnyIn_done (by kernel_rfl) ?_ _
              gi_wp2_with fail
              change _ ∧ _ ∧ _
              first | with_reducible exact PT.out.1 | with_reducible exact PT.out.2
            ·
              go_simp
              refine hK _ _ ?_
              clear hK K
              (try simp only [Act.put, List.setIfInBounds_toArray, List.set_cons_zero, List.set_cons_succ])
              refine wpAnyIn_ready (rs := [6]) (by kernel_rfl) (by simp) ?_
              refine AllReadyIn.cons rfl (fun K hK => ?_) AllReadyIn.nil
              go_simp
              refine hK _ _ ?_
              clear hK K
              (try simp only [Act.put, List.setIfInBounds_toArray, List.set_cons_zero, List.set_cons_succ])
              refine wpAnyIn_done (by kernel_rfl) ?_ _
              gi_wp2_with fail
              change _ ∧ _ ∧ _
              first | with_reducible exact PT.out.1 | with_reducible exact PT.out.2
          ·
            go_simp
            refine hK _ _ ?_
            clear hK K
            (try simp only [Act.put, List.setIfInBounds_toArray, List.set_cons_zero, List.set_cons_succ])
            refine wpAnyIn_ready (rs := [5]) (by kernel_rfl) (by simp) ?_
            refine AllReadyIn.cons rfl (fun K hK => ?_) AllReadyIn.nil
            go_simp
            refine hK _ _ ?_
            clear hK K
            (try simp only [Act.put, List.setIfInBounds_toArray, List.set_cons_zero, List.set_cons_succ])
            refine wpAnyIn_ready (rs := [6]) (by kernel_rfl) (by simp) ?_
            refine AllReadyIn.cons rfl (fun K hK => ?_) AllReadyIn.nil
            go_simp
            refine hK _ _ ?_
            clear hK K
            (try simp only [Act.put, List.setIfInBounds_toArray, List.set_cons_zero, List.set_cons_succ])
            refine wpAnyIn_done (by kernel_rfl) ?_ _
            gi_wp2_with fail
            change _ ∧ _ ∧ _
            first | with_reducible exact PT.out.1 | with_reducible exact PT.out.2
      ·
        go_simp
        refine hK _ _ ?_
        clear hK K
        (try simp only [Act.put, List.setIfInBounds_toArray, List.set_cons_zero, List.set_cons_succ])
        refine wpAnyIn_ready (rs := [1, 3]) (by kernel_rfl) (by simp) ?_
        refine AllReadyIn.cons rfl (fun K hK => ?_) (AllReadyIn.cons rfl (fun K hK => ?_) AllReadyIn.nil)
        ·
          go_simp
          refine hK _ _ ?_
          clear hK K
          (try simp only [Act.put, List.setIfInBounds_toArray, List.set_cons_zero, List.set_cons_succ])
          refine wpAnyIn_ready (rs := [3]) (by kernel_rfl) (by simp) ?_
          refine AllReadyIn.cons rfl (fun K hK => ?_) AllReadyIn.nil
          go_simp
          refine hK _ _ ?_
          clear hK K
          (try simp only [Act.put, List.setIfInBounds_toArray, List.set_cons_zero, List.set_cons_succ])
          refine wpAnyIn_ready (rs := [4]) (by kernel_rfl) (by simp) ?_
          refine AllReadyIn.cons rfl (fun K hK => ?_) AllReadyIn.nil
          refine stepIn_append_at rfl (.tmp 19) (.tmp 22) 23 rfl (Q + 2) 36 i0 _ 11 192 Tryz.underlying23 hi0 hz0 hz1 hz2 rfl (by decide) (.slice av n cv) n rows.flatten rfl (by have := HM.out.ou.drew.alloc (.cells [.int .i64 0, .int .i64 0, .string ⟨#[]⟩, .string ⟨#[]⟩, .string ⟨#[]⟩, .string ⟨#[]⟩, .string ⟨#[]⟩, .slice none 0 0, .slice none 0 0, .slice none 0 0, .slice none 0 0].toArray 36); rw [← HN.out] at this; exact this) ⟨W.heap.size, 0, none⟩ 1 1 [.int .i64 0, .int .i64 0, .string ⟨#[]⟩, .string ⟨#[]⟩, .string ⟨#[]⟩, .string ⟨#[]⟩, .string ⟨#[]⟩, .slice none 0 0, .slice none 0 0, .slice none 0 0, .slice none 0 0] rfl rfl (new_cells W.drew [.int .i64 0, .int .i64 0, .string ⟨#[]⟩, .string ⟨#[]⟩, .string ⟨#[]⟩, .string ⟨#[]⟩, .string ⟨#[]⟩, .slice none 0 0, .slice none 0 0, .slice none 0 0, .slice none 0 0] _) (by simp [Value.oneCell']) (by unfold maxLen; omega) (by omega) (by show Q + 2 ≤ (W.drew.alloc _).heap.size; rw [World.size_alloc]; show Q + 2 ≤ W.heap.size + 1; omega) ?_
          intro v' w3 hown' hgrow hat
          obtain ⟨g, cap, rfl⟩ := ownsRow_succ hown'
          have hgQ : Q + 2 ≤ g := (hown'.lt g rfl).1
          have hix : (n : Int) < (n : Int) + 1 := (by omega)
          have hcp := cap_e hown'
          have hnv : some Q ≠ (Value.slice av n cv).ownBlock := fun e => by have := (HM.out.ou.lt Q (by rw [← HN.out]; exact e.symm)).1; omega
          have bx3 : Box1 Q (.slice av n cv) 23 w3 := by
            have h0 : Box1 Q (.slice av n cv) 23 ((W.alloc (.cells [.int .i64 0, .int .i64 0, .string ⟨#[]⟩, .string ⟨#[]⟩, .string ⟨#[]⟩, .string ⟨#[]⟩, .string ⟨#[]⟩, .slice none 0 0, .slice none 0 0, .slice none 0 0, .slice none 0 0].toArray 36)).drew) := by have := HM.out.bp; rw [← HN.out] at this; exact (this.alloc _).drew
            exact (hgrow.block Q (by show Q < (W.alloc _).heap.size; rw [World.size_alloc]; omega) hnv).trans h0
          have kb := bx3.cell
          have fb := bx3.free
          have s0 := cell_e hown' hrl 0 _ rfl (by omega)
          have z0 := hown'.frozenAt (n * 11 + 0)
          have s1 := cell_e hown' hrl 1 _ rfl (by omega)
          have z1 := hown'.frozenAt (n * 11 + 1)
          have s2 := cell_e hown' hrl 2 _ rfl (by omega)
          have z2 := hown'.frozenAt (n * 11 + 2)
          have s3 := cell_e hown' hrl 3 _ rfl (by omega)
          have z3 := hown'.frozenAt (n * 11 + 3)
          have s4 := cell_e hown' hrl 4 _ rfl (by omega)
          have z4 := hown'.frozenAt (n * 11 + 4)
          have s5 := cell_e hown' hrl 5 _ rfl (by omega)
          have z5 := hown'.frozenAt (n * 11 + 5)
          have s6 := cell_e hown' hrl 6 _ rfl (by omega)
          have z6 := hown'.frozenAt (n * 11 + 6)
          have s7 := cell_e hown' hrl 7 _ rfl (by omega)
          have z7 := hown'.frozenAt (n * 11 + 7)
          have s8 := cell_e hown' hrl 8 _ rfl (by omega)
          have z8 := hown'.frozenAt (n * 11 + 8)
          have s9 := cell_e hown' hrl 9 _ rfl (by omega)
          have z9 := hown'.frozenAt (n * 11 + 9)
          have s10 := cell_e hown' hrl 10 _ rfl (by omega)
          have z10 := hown'.frozenAt (n * 11 + 10)
          simp only [Nat.add_zero] at s0 z0
          have PT1 : (KeepsFrom (Q + 2) W ((elv w3 g (n * 11) (.int .i64 kd) (.int .i64 lv) (.string i) (.string t) (.string d) (.string ti) (.string at_.id) (.slice ac nc cc) (.slice ap np cp) (.slice al nl cl) (.slice ak nk ck)).setCell ⟨Q, 0, none⟩ (.slice (some ⟨g, 0, none⟩) (n + 1) cap)) ∧ KpM Q W ((elv w3 g (n * 11) (.int .i64 kd) (.int .i64 lv) (.string i) (.string t) (.string d) (.string ti) (.string at_.id) (.slice ac nc cc) (.slice ap np cp) (.slice al nl cl) (.slice ak nk ck)).setCell ⟨Q, 0, none⟩ (.slice (some ⟨g, 0, none⟩) (n + 1) cap)) ∧ MI S Q w W0 (pre ++ [x]) ((elv w3 g (n * 11) (.int .i64 kd) (.int .i64 lv) (.string i) (.string t) (.string d) (.string ti) (.string at_.id) (.slice ac nc cc) (.slice ap np cp) (.slice al nl cl) (.slice ak nk ck)).setCell ⟨Q, 0, none⟩ (.slice (some ⟨g, 0, none⟩) (n + 1) cap))) ∧ (KeepsFrom (Q + 2) W (elv (w3.setCell ⟨Q, 0, none⟩ (.slice (some ⟨g, 0, none⟩) (n + 1) cap)) g (n * 11) (.int .i64 kd) (.int .i64 lv) (.string i) (.string t) (.string d) (.string ti) (.string at_.id) (.slice ac nc cc) (.slice ap np cp) (.slice al nl cl) (.slice ak nk ck)) ∧ KpM Q W (elv (w3.setCell ⟨Q, 0, none⟩ (.slice (some ⟨g, 0, none⟩) (n + 1) cap)) g (n * 11) (.int .i64 kd) (.int .i64 lv) (.string i) (.string t) (.string d) (.string ti) (.string at_.id) (.slice ac nc cc) (.slice ap np cp) (.slice al nl cl) (.slice ak nk ck)) ∧ MI S Q w W0 (pre ++ [x]) (elv (w3.setCell ⟨Q, 0, none⟩ (.slice (some ⟨g, 0, none⟩) (n + 1) cap)) g (n * 11) (.int .i64 kd) (.int .i64 lv) (.string i) (.string t) (.string d) (.string ti) (.string at_.id) (.slice ac nc cc) (.slice ap np cp) (.slice al nl cl) (.slice ak nk ck))) := by
            have hg1 : W.grownBy ((W.alloc (.cells [.int .i64 0, .int .i64 0, .string ⟨#[]⟩, .string ⟨#[]⟩, .string ⟨#[]⟩, .string ⟨#[]⟩, .string ⟨#[]⟩, .slice none 0 0, .slice none 0 0, .slice none 0 0, .slice none 0 0].toArray 36)).drew) none := grown_drew (World.grownBy_alloc W _ none)
            have go : ∀ w4, (Box1 Q (.slice (some ⟨g, 0, none⟩) (n + 1) cap) 23 w4 ∧ w4.ownsRow (Q + 2) 36 11 (.slice (some ⟨g, 0, none⟩) (n + 1) cap) (n + 1) (rows.flatten ++ [.int .i64 kd, .int .i64 lv, .string i, .string t, .string d, .string ti, .string at_.id, .slice ac nc cc, .slice ap np cp, .slice al nl cl, .slice ak nk ck]) ∧ (∀ b, b ≠ Q → b ≠ g → w4.heap[b]? = w3.heap[b]?) ∧ w4.heap.size = w3.heap.size ∧ (w4.os = w3.os ∧ w4.tape = w3.tape ∧ w4.output = w3.output)) → KeepsFrom (Q + 2) W (w4) ∧ KpM Q W (w4) ∧ MI S Q w W0 (pre ++ [x]) (w4) := by
              rintro w4 ⟨e1, e2, e3, e4, e5⟩
              have hM1 := HM.out
              have hn1 := HN.out
              subst hn1
              have P := MB.push (cs := [.int .i64 kd, .int .i64 lv, .string i, .string t, .string d, .string ti, .string at_.id, .slice ac nc cc, .slice ap np cp, .slice al nl cl, .slice ak nk ck]) hM1 hg1 hown' hgrow hat HRX.out rfl e1 e2 e3 e4 e5 (Q + 2)
              have P1 := P.1
              rw [← HEQ.out] at P1
              exact ⟨P.2.2, P.2.1, _, _, P1⟩
            exact ⟨go _ (two_ab bx3 hown' hrl rfl _ rfl), go _ (two_ba bx3 hown' hrl rfl _ rfl)⟩
          simp only [elv, Nat.add_zero] at PT1
          have PT := Lib.hid PT1
          clear PT1 hown' hgrow hat bx3
          refine hK _ _ ?_
          clear hK K
          (try simp only [Act.put, List.setIfInBounds_toArray, List.set_cons_zero, List.set_cons_succ])
          refine wpAnyIn_ready (rs := [5, 7]) (by kernel_rfl) (by simp) ?_
          refine AllReadyIn.cons rfl (fun K hK => ?_) (AllReadyIn.cons rfl (fun K hK => ?_) AllReadyIn.nil)
          ·
            go_simp
            refine hK _ _ ?_
            clear hK K
            (try simp only [Act.put, List.setIfInBounds_toArray, List.set_cons_zero, List.set_cons_succ])
            refine wpAnyIn_ready (rs := [6, 7]) (by kernel_rfl) (by simp) ?_
            refine AllReadyIn.cons rfl (fun K hK => ?_) (AllReadyIn.cons rfl (fun K hK => ?_) AllReadyIn.nil)
            ·
              go_simp
              refine hK _ _ ?_
              clear hK K
              (try simp only [Act.put, List.setIfInBounds_toArray, List.set_cons_zero, List.set_cons_succ])
              refine wpAnyIn_ready (rs := [7]) (by kernel_rfl) (by simp) ?_
              refine AllReadyIn.cons rfl (fun K hK => ?_) AllReadyIn.nil
              go_simp
              refine hK _ _ ?_
              clear hK K
              (try simp only [Act.put, List.setIfInBounds_toArray, List.set_cons_zero, List.set_cons_succ])
              refine wpAnyIn_done (by kernel_rfl) ?_ _
              gi_wp2_with fail
              change _ ∧ _ ∧ _
              first | with_reducible exact PT.out.1 | with_reducible exact PT.out.2
            ·
              go_simp
              refine hK _ _ ?_
              clear hK K
              (try simp only [Act.put, List.setIfInBounds_toArray, List.set_cons_zero, List.set_cons_succ])
              refine wpAnyIn_ready (rs := [6]) (by kernel_rfl) (by simp) ?_
              refine AllReadyIn.cons rfl (fun K hK => ?_) AllReadyIn.nil
              go_simp
              refine hK _ _ ?_
              clear hK K
              (try simp only [Act.put, List.setIfInBounds_toArray, List.set_cons_zero, List.set_cons_succ])
              refine wpAnyIn_done (by kernel_rfl) ?_ _
              gi_wp2_with fail
              change _ ∧ _ ∧ _
              first | with_reducible exact PT.out.1 | with_reducible exact PT.out.2
          ·
            go_simp
            refine hK _ _ ?_
            clear hK K
            (try simp only [Act.put, List.setIfInBounds_toArray, List.set_cons_zero, List.set_cons_succ])
            refine wpAnyIn_ready (rs := [5]) (by kernel_rfl) (by simp) ?_
            refine AllReadyIn.cons rfl (fun K hK => ?_) AllReadyIn.nil
            go_simp
            refine hK _ _ ?_
            clear hK K
            (try simp only [Act.put, List.setIfInBounds_toArray, List.set_cons_zero, List.set_cons_succ])
            refine wpAnyIn_ready (rs := [6]) (by kernel_rfl) (by simp) ?_
            refine AllReadyIn.cons rfl (fun K hK => ?_) AllReadyIn.nil
            go_simp
            refine hK _ _ ?_
            clear hK K
            (try simp only [Act.put, List.setIfInBounds_toArray, List.set_cons_zero, List.set_cons_succ])
            refine wpAnyIn_done (by kernel_rfl) ?_ _
            gi_wp2_with fail
            change _ ∧ _ ∧ _
            first | with_reducible exact PT.out.1 | with_reducible exact PT.out.2
        ·
          go_simp
          refine hK _ _ ?_
          clear hK K
          (try simp only [Act.put, List.setIfInBounds_toArray, List.set_cons_zero, List.set_cons_succ])
          refine wpAnyIn_ready (rs := [1]) (by kernel_rfl) (by simp) ?_
          refine AllReadyIn.cons rfl (fun K hK => ?_) AllReadyIn.nil
          go_simp
          refine hK _ _ ?_
          clear hK K
          (try simp only [Act.put, List.setIfInBounds_toArray, List.set_cons_zero, List.set_cons_succ])
          refine wpAnyIn_ready (rs := [4]) (by kernel_rfl) (by simp) ?_
          refine AllReadyIn.cons rfl (fun K hK => ?_) AllReadyIn.nil
          refine stepIn_append_at rfl (.tmp 19) (.tmp 22) 23 rfl (Q + 2) 36 i0 _ 11 192 Tryz.underlying23 hi0 hz0 hz1 hz2 rfl (by decide) (.slice av n cv) n rows.flatten rfl (by have := HM.out.ou.drew.alloc (.cells [.int .i64 0, .int .i64 0, .string ⟨#[]⟩, .string ⟨#[]⟩, .string ⟨#[]⟩, .string ⟨#[]⟩, .string ⟨#[]⟩, .slice none 0 0, .slice none 0 0, .slice none 0 0, .slice none 0 0].toArray 36); rw [← HN.out] at this; exact this) ⟨W.heap.size, 0, none⟩ 1 1 [.int .i64 0, .int .i64 0, .string ⟨#[]⟩, .string ⟨#[]⟩, .string ⟨#[]⟩, .string ⟨#[]⟩, .string ⟨#[]⟩, .slice none 0 0, .slice none 0 0, .slice none 0 0, .slice none 0 0] rfl rfl (new_cells W.drew [.int .i64 0, .int .i64 0, .string ⟨#[]⟩, .string ⟨#[]⟩, .string ⟨#[]⟩, .string ⟨#[]⟩, .string ⟨#[]⟩, .slice none 0 0, .slice none 0 0, .slice none 0 0, .slice none 0 0] _) (by simp [Value.oneCell']) (by unfold maxLen; omega) (by omega) (by show Q + 2 ≤ (W.drew.alloc _).heap.size; rw [World.size_alloc]; show Q + 2 ≤ W.heap.size + 1; omega) ?_
          intro v' w3 hown' hgrow hat
          obtain ⟨g, cap, rfl⟩ := ownsRow_succ hown'
          have hgQ : Q + 2 ≤ g := (hown'.lt g rfl).1
          have hix : (n : Int) < (n : Int) + 1 := (by omega)
          have hcp := cap_e hown'
          have hnv : some Q ≠ (Value.slice av n cv).ownBlock := fun e => by have := (HM.out.ou.lt Q (by rw [← HN.out]; exact e.symm)).1; omega
          have bx3 : Box1 Q (.slice av n cv) 23 w3 := by
            have h0 : Box1 Q (.slice av n cv) 23 ((W.alloc (.cells [.int .i64 0, .int .i64 0, .string ⟨#[]⟩, .string ⟨#[]⟩, .string ⟨#[]⟩, .string ⟨#[]⟩, .string ⟨#[]⟩, .slice none 0 0, .slice none 0 0, .slice none 0 0, .slice none 0 0].toArray 36)).drew) := by have := HM.out.bp; rw [← HN.out] at this; exact (this.alloc _).drew
            exact (hgrow.block Q (by show Q < (W.alloc _).heap.size; rw [World.size_alloc]; omega) hnv).trans h0
          have kb := bx3.cell
          have fb := bx3.free
          have s0 := cell_e hown' hrl 0 _ rfl (by omega)
          have z0 := hown'.frozenAt (n * 11 + 0)
          have s1 := cell_e hown' hrl 1 _ rfl (by omega)
          have z1 := hown'.frozenAt (n * 11 + 1)
          have s2 := cell_e hown' hrl 2 _ rfl (by omega)
          have z2 := hown'.frozenAt (n * 11 + 2)
          have s3 := cell_e hown' hrl 3 _ rfl (by omega)
          have z3 := hown'.frozenAt (n * 11 + 3)
          have s4 := cell_e hown' hrl 4 _ rfl (by omega)
          have z4 := hown'.frozenAt (n * 11 + 4)
          have s5 := cell_e hown' hrl 5 _ rfl (by omega)
          have z5 := hown'.frozenAt (n * 11 + 5)
          have s6 := cell_e hown' hrl 6 _ rfl (by omega)
          have z6 := hown'.frozenAt (n * 11 + 6)
          have s7 := cell_e hown' hrl 7 _ rfl (by omega)
          have z7 := hown'.frozenAt (n * 11 + 7)
          have s8 := cell_e hown' hrl 8 _ rfl (by omega)
          have z8 := hown'.frozenAt (n * 11 + 8)
          have s9 := cell_e hown' hrl 9 _ rfl (by omega)
          have z9 := hown'.frozenAt (n * 11 + 9)
          have s10 := cell_e hown' hrl 10 _ rfl (by omega)
          have z10 := hown'.frozenAt (n * 11 + 10)
          simp only [Nat.add_zero] at s0 z0
          have PT1 : (KeepsFrom (Q + 2) W ((elv w3 g (n * 11) (.int .i64 kd) (.int .i64 lv) (.string i) (.string t) (.string d) (.string ti) (.string at_.id) (.slice ac nc cc) (.slice ap np cp) (.slice al nl cl) (.slice ak nk ck)).setCell ⟨Q, 0, none⟩ (.slice (some ⟨g, 0, none⟩) (n + 1) cap)) ∧ KpM Q W ((elv w3 g (n * 11) (.int .i64 kd) (.int .i64 lv) (.string i) (.string t) (.string d) (.string ti) (.string at_.id) (.slice ac nc cc) (.slice ap np cp) (.slice al nl cl) (.slice ak nk ck)).setCell ⟨Q, 0, none⟩ (.slice (some ⟨g, 0, none⟩) (n + 1) cap)) ∧ MI S Q w W0 (pre ++ [x]) ((elv w3 g (n * 11) (.int .i64 kd) (.int .i64 lv) (.string i) (.string t) (.string d) (.string ti) (.string at_.id) (.slice ac nc cc) (.slice ap np cp) (.slice al nl cl) (.slice ak nk ck)).setCell ⟨Q, 0, none⟩ (.slice (some ⟨g, 0, none⟩) (n + 1) cap))) ∧ (KeepsFrom (Q + 2) W (elv (w3.setCell ⟨Q, 0, none⟩ (.slice (some ⟨g, 0, none⟩) (n + 1) cap)) g (n * 11) (.int .i64 kd) (.int .i64 lv) (.string i) (.string t) (.string d) (.string ti) (.string at_.id) (.slice ac nc cc) (.slice ap np cp) (.slice al nl cl) (.slice ak nk ck)) ∧ KpM Q W (elv (w3.setCell ⟨Q, 0, none⟩ (.slice (some ⟨g, 0, none⟩) (n + 1) cap)) g (n * 11) (.int .i64 kd) (.int .i64 lv) (.string i) (.string t) (.string d) (.string ti) (.string at_.id) (.slice ac nc cc) (.slice ap np cp) (.slice al nl cl) (.slice ak nk ck)) ∧ MI S Q w W0 (pre ++ [x]) (elv (w3.setCell ⟨Q, 0, none⟩ (.slice (some ⟨g, 0, none⟩) (n + 1) cap)) g (n * 11) (.int .i64 kd) (.int .i64 lv) (.string i) (.string t) (.string d) (.string ti) (.string at_.id) (.slice ac nc cc) (.slice ap np cp) (.slice al nl cl) (.slice ak nk ck))) := by
            have hg1 : W.grownBy ((W.alloc (.cells [.int .i64 0, .int .i64 0, .string ⟨#[]⟩, .string ⟨#[]⟩, .string ⟨#[]⟩, .string ⟨#[]⟩, .string ⟨#[]⟩, .slice none 0 0, .slice none 0 0, .slice none 0 0, .slice none 0 0].toArray 36)).drew) none := grown_drew (World.grownBy_alloc W _ none)
            have go : ∀ w4, (Box1 Q (.slice (some ⟨g, 0, none⟩) (n + 1) cap) 23 w4 ∧ w4.ownsRow (Q + 2) 36 11 (.slice (some ⟨g, 0, none⟩) (n + 1) cap) (n + 1) (rows.flatten ++ [.int .i64 kd, .int .i64 lv, .string i, .string t, .string d, .string ti, .string at_.id, .slice ac nc cc, .slice ap np cp, .slice al nl cl, .slice ak nk ck]) ∧ (∀ b, b ≠ Q → b ≠ g → w4.heap[b]? = w3.heap[b]?) ∧ w4.heap.size = w3.heap.size ∧ (w4.os = w3.os ∧ w4.tape = w3.tape ∧ w4.output = w3.output)) → KeepsFrom (Q + 2) W (w4) ∧ KpM Q W (w4) ∧ MI S Q w W0 (pre ++ [x]) (w4) := by
              rintro w4 ⟨e1, e2, e3, e4, e5⟩
              have hM1 := HM.out
              have hn1 := HN.out
              subst hn1
              have P := MB.push (cs := [.int .i64 kd, .int .i64 lv, .string i, .string t, .string d, .string ti, .string at_.id, .slice ac nc cc, .slice ap np cp, .slice al nl cl, .slice ak nk ck]) hM1 hg1 hown' hgrow hat HRX.out rfl e1 e2 e3 e4 e5 (Q + 2)
              have P1 := P.1
              rw [← HEQ.out] at P1
              exact ⟨P.2.2, P.2.1, _, _, P1⟩
            exact ⟨go _ (two_ab bx3 hown' hrl rfl _ rfl), go _ (two_ba bx3 hown' hrl rfl _ rfl)⟩
          simp only [elv, Nat.add_zero] at PT1
          have PT := Lib.hid PT1
          clear PT1 hown' hgrow hat bx3
          refine hK _ _ ?_
          clear hK K
          (try simp only [Act.put, List.setIfInBounds_toArray, List.set_cons_zero, List.set_cons_succ])
          refine wpAnyIn_ready (rs := [5, 7]) (by kernel_rfl) (by simp) ?_
          refine AllReadyIn.cons rfl (fun K hK => ?_) (AllReadyIn.cons rfl (fun K hK => ?_) AllReadyIn.nil)
          ·
            go_simp
            refine hK _ _ ?_
            clear hK K
            (try simp only [Act.put, List.setIfInBounds_toArray, List.set_cons_zero, List.set_cons_succ])
            refine wpAnyIn_ready (rs := [6, 7]) (by kernel_rfl) (by simp) ?_
            refine AllReadyIn.cons rfl (fun K hK => ?_) (AllReadyIn.cons rfl (fun K hK => ?_) AllReadyIn.nil)
            ·
              go_simp
              refine hK _ _ ?_
              clear hK K
              (try simp only [Act.put, List.setIfInBounds_toArray, List.set_cons_zero, List.set_cons_succ])
              refine wpAnyIn_ready (rs := [7]) (by kernel_rfl) (by simp) ?_
              refine AllReadyIn.cons rfl (fun K hK => ?_) AllReadyIn.nil
              go_simp
              refine hK _ _ ?_
              clear hK K
              (try simp only [Act.put, List.setIfInBounds_toArray, List.set_cons_zero, List.set_cons_succ])
              refine wpAnyIn_done (by kernel_rfl) ?_ _
              gi_wp2_with fail
              change _ ∧ _ ∧ _
              first | with_reducible exact PT.out.1 | with_reducible exact PT.out.2
            ·
              go_simp
              refine hK _ _ ?_
              clear hK K
              (try simp only [Act.put, List.setIfInBounds_toArray, List.set_cons_zero, List.set_cons_succ])
              refine wpAnyIn_ready (rs := [6]) (by kernel_rfl) (by simp) ?_
              refine AllReadyIn.cons rfl (fun K hK => ?_) AllReadyIn.nil
              go_simp
              refine hK _ _ ?_
              clear hK K
              (try simp only [Act.put, List.setIfInBounds_toArray, List.set_cons_zero, List.set_cons_succ])
              refine wpAnyIn_done (by kernel_rfl) ?_ _
              gi_wp2_with fail
              change _ ∧ _ ∧ _
              first | with_reducible exact PT.out.1 | with_reducible exact PT.out.2
          ·
            go_simp
            refine hK _ _ ?_
            clear hK K
            (try simp only [Act.put, List.setIfInBounds_toArray, List.set_cons_zero, List.set_cons_succ])
            refine wpAnyIn_ready (rs := [5]) (by kernel_rfl) (by simp) ?_
            refine AllReadyIn.cons rfl (fun K hK => ?_) AllReadyIn.nil
            go_simp
            refine hK _ _ ?_
            clear hK K
            (try simp only [Act.put, List.setIfInBounds_toArray, List.set_cons_zero, List.set_cons_succ])
            refine wpAnyIn_ready (rs := [6]) (by kernel_rfl) (by simp) ?_
            refine AllReadyIn.cons rfl (fun K hK => ?_) AllReadyIn.nil
            go_simp
            refine hK _ _ ?_
            clear hK K
            (try simp only [Act.put, List.setIfInBounds_toArray, List.set_cons_zero, List.set_cons_succ])
            refine wpAnyIn_done (by kernel_rfl) ?_ _
            gi_wp2_with fail
            change _ ∧ _ ∧ _
            first | with_reducible exact PT.out.1 | with_reducible exact PT.out.2
      ·
        go_simp
        refine hK _ _ ?_
        clear hK K
        (try simp only [Act.put, List.setIfInBounds_toArray, List.set_cons_zero, List.set_cons_succ])
        refine wpAnyIn_ready (rs := [1, 2]) (by kernel_rfl) (by simp) ?_
        refine AllReadyIn.cons rfl (fun K hK => ?_) (AllReadyIn.cons rfl (fun K hK => ?_) AllReadyIn.nil)
        ·
          go_simp
          refine hK _ _ ?_
          clear hK K
          (try simp only [Act.put, List.setIfInBounds_toArray, List.set_cons_zero, List.set_cons_succ])
          refine wpAnyIn_ready (rs := [2]) (by kernel_rfl) (by simp) ?_
          refine AllReadyIn.cons rfl (fun K hK => ?_) AllReadyIn.nil
          go_simp
          refine hK _ _ ?_
          clear hK K
          (try simp only [Act.put, List.setIfInBounds_toArray, List.set_cons_zero, List.set_cons_succ])
          refine wpAnyIn_ready (rs := [4]) (by kernel_rfl) (by simp) ?_
          refine AllReadyIn.cons rfl (fun K hK => ?_) AllReadyIn.nil
          refine stepIn_append_at rfl (.tmp 19) (.tmp 22) 23 rfl (Q + 2) 36 i0 _ 11 192 Tryz.underlying23 hi0 hz0 hz1 hz2 rfl (by decide) (.slice av n cv) n rows.flatten rfl (by have := HM.out.ou.drew.alloc (.cells [.int .i64 0, .int .i64 0, .string ⟨#[]⟩, .string ⟨#[]⟩, .string ⟨#[]⟩, .string ⟨#[]⟩, .string ⟨#[]⟩, .slice none 0 0, .slice none 0 0, .slice none 0 0, .slice none 0 0].toArray 36); rw [← HN.out] at this; exact this) ⟨W.heap.size, 0, none⟩ 1 1 [.int .i64 0, .int .i64 0, .string ⟨#[]⟩, .string ⟨#[]⟩, .string ⟨#[]⟩, .string ⟨#[]⟩, .string ⟨#[]⟩, .slice none 0 0, .slice none 0 0, .slice none 0 0, .slice none 0 0] rfl rfl (new_cells W.drew [.int .i64 0, .int .i64 0, .string ⟨#[]⟩, .string ⟨#[]⟩, .string ⟨#[]⟩, .string ⟨#[]⟩, .string ⟨#[]⟩, .slice none 0 0, .slice none 0 0, .slice none 0 0, .slice none 0 0] _) (by simp [Value.oneCell']) (by unfold maxLen; omega) (by omega) (by show Q + 2 ≤ (W.drew.alloc _).heap.size; rw [World.size_alloc]; show Q + 2 ≤ W.heap.size + 1; omega) ?_
          intro v' w3 hown' hgrow hat
          obtain ⟨g, cap, rfl⟩ := ownsRow_succ hown'
          have hgQ : Q + 2 ≤ g := (hown'.lt g rfl).1
          have hix : (n : Int) < (n : Int) + 1 := (by omega)
          have hcp := cap_e hown'
          have hnv : some Q ≠ (Value.slice av n cv).ownBlock := fun e => by have := (HM.out.ou.lt Q (by rw [← HN.out]; exact e.symm)).1; omega
          have bx3 : Box1 Q (.slice av n cv) 23 w3 := by
            have h0 : Box1 Q (.slice av n cv) 23 ((W.alloc (.cells [.int .i64 0, .int .i64 0, .string ⟨#[]⟩, .string ⟨#[]⟩, .string ⟨#[]⟩, .string ⟨#[]⟩, .string ⟨#[]⟩, .slice none 0 0, .slice none 0 0, .slice none 0 0, .slice none 0 0].toArray 36)).drew) := by have := HM.out.bp; rw [← HN.out] at this; exact (this.alloc _).drew
            exact (hgrow.block Q (by show Q < (W.alloc _).heap.size; rw [World.size_alloc]; omega) hnv).trans h0
          have kb := bx3.cell
          have fb := bx3.free
          have s0 := cell_e hown' hrl 0 _ rfl (by omega)
          have z0 := hown'.frozenAt (n * 11 + 0)
          have s1 := cell_e hown' hrl 1 _ rfl (by omega)
          have z1 := hown'.frozenAt (n * 11 + 1)
          have s2 := cell_e hown' hrl 2 _ rfl (by omega)
          have z2 := hown'.frozenAt (n * 11 + 2)
          have s3 := cell_e hown' hrl 3 _ rfl (by omega)
          have z3 := hown'.frozenAt (n * 11 + 3)
          have s4 := cell_e hown' hrl 4 _ rfl (by omega)
          have z4 := hown'.frozenAt (n * 11 + 4)
          have s5 := cell_e hown' hrl 5 _ rfl (by omega)
          have z5 := hown'.frozenAt (n * 11 + 5)
          have s6 := cell_e hown' hrl 6 _ rfl (by omega)
          have z6 := hown'.frozenAt (n * 11 + 6)
          have s7 := cell_e hown' hrl 7 _ rfl (by omega)
          have z7 := hown'.frozenAt (n * 11 + 7)
          have s8 := cell_e hown' hrl 8 _ rfl (by omega)
          have z8 := hown'.frozenAt (n * 11 + 8)
          have s9 := cell_e hown' hrl 9 _ rfl (by omega)
          have z9 := hown'.frozenAt (n * 11 + 9)
          have s10 := cell_e hown' hrl 10 _ rfl (by omega)
          have z10 := hown'.frozenAt (n * 11 + 10)
          simp only [Nat.add_zero] at s0 z0
          have PT1 : (KeepsFrom (Q + 2) W ((elv w3 g (n * 11) (.int .i64 kd) (.int .i64 lv) (.string i) (.string t) (.string d) (.string ti) (.string at_.id) (.slice ac nc cc) (.slice ap np cp) (.slice al nl cl) (.slice ak nk ck)).setCell ⟨Q, 0, none⟩ (.slice (some ⟨g, 0, none⟩) (n + 1) cap)) ∧ KpM Q W ((elv w3 g (n * 11) (.int .i64 kd) (.int .i64 lv) (.string i) (.string t) (.string d) (.string ti) (.string at_.id) (.slice ac nc cc) (.slice ap np cp) (.slice al nl cl) (.slice ak nk ck)).setCell ⟨Q, 0, none⟩ (.slice (some ⟨g, 0, none⟩) (n + 1) cap)) ∧ MI S Q w W0 (pre ++ [x]) ((elv w3 g (n * 11) (.int .i64 kd) (.int .i64 lv) (.string i) (.string t) (.string d) (.string ti) (.string at_.id) (.slice ac nc cc) (.slice ap np cp) (.slice al nl cl) (.slice ak nk ck)).setCell ⟨Q, 0, none⟩ (.slice (some ⟨g, 0, none⟩) (n + 1) cap))) ∧ (KeepsFrom (Q + 2) W (elv (w3.setCell ⟨Q, 0, none⟩ (.slice (some ⟨g, 0, none⟩) (n + 1) cap)) g (n * 11) (.int .i64 kd) (.int .i64 lv) (.string i) (.string t) (.string d) (.string ti) (.string at_.id) (.slice ac nc cc) (.slice ap np cp) (.slice al nl cl) (.slice ak nk ck)) ∧ KpM Q W (elv (w3.setCell ⟨Q, 0, none⟩ (.slice (some ⟨g, 0, none⟩) (n + 1) cap)) g (n * 11) (.int .i64 kd) (.int .i64 lv) (.string i) (.string t) (.string d) (.string ti) (.string at_.id) (.slice ac nc cc) (.slice ap np cp) (.slice al nl cl) (.slice ak nk ck)) ∧ MI S Q w W0 (pre ++ [x]) (elv (w3.setCell ⟨Q, 0, none⟩ (.slice (some ⟨g, 0, none⟩) (n + 1) cap)) g (n * 11) (.int .i64 kd) (.int .i64 lv) (.string i) (.string t) (.string d) (.string ti) (.string at_.id) (.slice ac nc cc) (.slice ap np cp) (.slice al nl cl) (.slice ak nk ck))) := by
            have hg1 : W.grownBy ((W.alloc (.cells [.int .i64 0, .int .i64 0, .string ⟨#[]⟩, .string ⟨#[]⟩, .string ⟨#[]⟩, .string ⟨#[]⟩, .string ⟨#[]⟩, .slice none 0 0, .slice none 0 0, .slice none 0 0, .slice none 0 0].toArray 36)).drew) none := grown_drew (World.grownBy_alloc W _ none)
            have go : ∀ w4, (Box1 Q (.slice (some ⟨g, 0, none⟩) (n + 1) cap) 23 w4 ∧ w4.ownsRow (Q + 2) 36 11 (.slice (some ⟨g, 0, none⟩) (n + 1) cap) (n + 1) (rows.flatten ++ [.int .i64 kd, .int .i64 lv, .string i, .string t, .string d, .string ti, .string at_.id, .slice ac nc cc, .slice ap np cp, .slice al nl cl, .slice ak nk ck]) ∧ (∀ b, b ≠ Q → b ≠ g → w4.heap[b]? = w3.heap[b]?) ∧ w4.heap.size = w3.heap.size ∧ (w4.os = w3.os ∧ w4.tape = w3.tape ∧ w4.output = w3.output)) → KeepsFrom (Q + 2) W (w4) ∧ KpM Q W (w4) ∧ MI S Q w W0 (pre ++ [x]) (w4) := by
              rintro w4 ⟨e1, e2, e3, e4, e5⟩
              have hM1 := HM.out
              have hn1 := HN.out
              subst hn1
              have P := MB.push (cs := [.int .i64 kd, .int .i64 lv, .string i, .string t, .string d, .string ti, .string at_.id, .slice ac nc cc, .slice ap np cp, .slice al nl cl, .slice ak nk ck]) hM1 hg1 hown' hgrow hat HRX.out rfl e1 e2 e3 e4 e5 (Q + 2)
              have P1 := P.1
              rw [← HEQ.out] at P1
              exact ⟨P.2.2, P.2.1, _, _, P1⟩
            exact ⟨go _ (two_ab bx3 hown' hrl rfl _ rfl), go _ (two_ba bx3 hown' hrl rfl _ rfl)⟩
          simp only [elv, Nat.add_zero] at PT1
          have PT := Lib.hid PT1
          clear PT1 hown' hgrow hat bx3
          refine hK _ _ ?_
          clear hK K
          (try simp only [Act.put, List.setIfInBounds_toArray, List.set_cons_zero, List.set_cons_succ])
          refine wpAnyIn_ready (rs := [5, 7]) (by kernel_rfl) (by simp) ?_
          refine AllReadyIn.cons rfl (fun K hK => ?_) (AllReadyIn.cons rfl (fun K hK => ?_) AllReadyIn.nil)
          ·
            go_simp
            refine hK _ _ ?_
            clear hK K
            (try simp only [Act.put, List.setIfInBounds_toArray, List.set_cons_zero, List.set_cons_succ])
            refine wpAnyIn_ready (rs := [6, 7]) (by kernel_rfl) (by simp) ?_
            refine AllReadyIn.cons rfl (fun K hK => ?_) (AllReadyIn.cons rfl (fun K hK => ?_) AllReadyIn.nil)
            ·
              go_simp
              refine hK _ _ ?_
              clear hK K
              (try simp only [Act.put, List.setIfInBounds_toArray, List.set_cons_zero, List.set_cons_succ])
              refine wpAnyIn_ready (rs := [7]) (by kernel_rfl) (by simp) ?_
              refine AllReadyIn.cons rfl (fun K hK => ?_) AllReadyIn.nil
              go_simp
              refine hK _ _ ?_
              clear hK K
              (try simp only [Act.put, List.setIfInBounds_toArray, List.set_cons_zero, List.set_cons_succ])
              refine wpAnyIn_done (by kernel_rfl) ?_ _
              gi_wp2_with fail
              change _ ∧ _ ∧ _
              first | with_reducible exact PT.out.1 | with_reducible exact PT.out.2
            ·
              go_simp
              refine hK _ _ ?_
              clear hK K
              (try simp only [Act.put, List.setIfInBounds_toArray, List.set_cons_zero, List.set_cons_succ])
              refine wpAnyIn_ready (rs := [6]) (by kernel_rfl) (by simp) ?_
              refine AllReadyIn.cons rfl (fun K hK => ?_) AllReadyIn.nil
              go_simp
              refine hK _ _ ?_
              clear hK K
              (try simp only [Act.put, List.setIfInBounds_toArray, List.set_cons_zero, List.set_cons_succ])
              refine wpAnyIn_done (by kernel_rfl) ?_ _
              gi_wp2_with fail
              change _ ∧ _ ∧ _
              first | with_reducible exact PT.out.1 | with_reducible exact PT.out.2
          ·
            go_simp
            refine hK _ _ ?_
            clear hK K
            (try simp only [Act.put, List.setIfInBounds_toArray, List.set_cons_zero, List.set_cons_succ])
            refine wpAnyIn_ready (rs := [5]) (by kernel_rfl) (by simp) ?_
            refine AllReadyIn.cons rfl (fun K hK => ?_) AllReadyIn.nil
            go_simp
            refine hK _ _ ?_
            clear hK K
            (try simp only [Act.put, List.setIfInBounds_toArray, List.set_cons_zero, List.set_cons_succ])
            refine wpAnyIn_ready (rs := [6]) (by kernel_rfl) (by simp) ?_
            refine AllReadyIn.cons rfl (fun K hK => ?_) AllReadyIn.nil
            go_simp
            refine hK _ _ ?_
            clear hK K
            (try simp only [Act.put, List.setIfInBounds_toArray, List.set_cons_zero, List.set_cons_succ])
            refine wpAnyIn_done (by kernel_rfl) ?_ _
            gi_wp2_with fail
            change _ ∧ _ ∧ _
            first | with_reducible exact PT.out.1 | with_reducible exact PT.out.2
        ·
          go_simp
          refine hK _ _ ?_
          clear hK K
          (try simp only [Act.put, List.setIfInBounds_toArray, List.set_cons_zero, List.set_cons_succ])
          refine wpAnyIn_ready (rs := [1]) (by kernel_rfl) (by simp) ?_
          refine AllReadyIn.cons rfl (fun K hK => ?_) AllReadyIn.nil
          go_simp
          refine hK _ _ ?_
          clear hK K
          (try simp only [Act.put, List.setIfInBounds_toArray, List.set_cons_zero, List.set_cons_succ])
          refine wpAnyIn_ready (rs := [4]) (by kernel_rfl) (by simp) ?_
          refine AllReadyIn.cons rfl (fun K hK => ?_) AllReadyIn.nil
          refine stepIn_append_at rfl (.tmp 19) (.tmp 22) 23 rfl (Q + 2) 36 i0 _ 11 192 Tryz.underlying23 hi0 hz0 hz1 hz2 rfl (by decide) (.slice av n cv) n rows.flatten rfl (by have := HM.out.ou.drew.alloc (.cells [.int .i64 0, .int .i64 0, .string ⟨#[]⟩, .string ⟨#[]⟩, .string ⟨#[]⟩, .string ⟨#[]⟩, .string ⟨#[]⟩, .slice none 0 0, .slice none 0 0, .slice none 0 0, .slice none 0 0].toArray 36); rw [← HN.out] at this; exact this) ⟨W.heap.size, 0, none⟩ 1 1 [.int .i64 0, .int .i64 0, .string ⟨#[]⟩, .string ⟨#[]⟩, .string ⟨#[]⟩, .string ⟨#[]⟩, .string ⟨#[]⟩, .slice none 0 0, .slice none 0 0, .slice none 0 0, .slice none 0 0] rfl rfl (new_cells W.drew [.int .i64 0, .int .i64 0, .string ⟨#[]⟩, .string ⟨#[]⟩, .string ⟨#[]⟩, .string ⟨#[]⟩, .string ⟨#[]⟩, .slice none 0 0, .slice none 0 0, .slice none 0 0, .slice none 0 0] _) (by simp [Value.oneCell']) (by unfold maxLen; omega) (by omega) (by show Q + 2 ≤ (W.drew.alloc _).heap.size; rw [World.size_alloc]; show Q + 2 ≤ W.heap.size + 1; omega) ?_
          intro v' w3 hown' hgrow hat
          obtain ⟨g, cap, rfl⟩ := ownsRow_succ hown'
          have hgQ : Q + 2 ≤ g := (hown'.lt g rfl).1
          have hix : (n : Int) < (n : Int) + 1 := (by omega)
          have hcp := cap_e hown'
          have hnv : some Q ≠ (Value.slice av n cv).ownBlock := fun e => by have := (HM.out.ou.lt Q (by rw [← HN.out]; exact e.symm)).1; omega
          have bx3 : Box1 Q (.slice av n cv) 23 w3 := by
            have h0 : Box1 Q (.slice av n cv) 23 ((W.alloc (.cells [.int .i64 0, .int .i64 0, .string ⟨#[]⟩, .string ⟨#[]⟩, .string ⟨#[]⟩, .string ⟨#[]⟩, .string ⟨#[]⟩, .slice none 0 0, .slice none 0 0, .slice none 0 0, .slice none 0 0].toArray 36)).drew) := by have := HM.out.bp; rw [← HN.out] at this; exact (this.alloc _).drew
            exact (hgrow.block Q (by show Q < (W.alloc _).heap.size; rw [World.size_alloc]; omega) hnv).trans h0
          have kb := bx3.cell
          have fb := bx3.free
          have s0 := cell_e hown' hrl 0 _ rfl (by omega)
          have z0 := hown'.frozenAt (n * 11 + 0)
          have s1 := cell_e hown' hrl 1 _ rfl (by omega)
          have z1 := hown'.frozenAt (n * 11 + 1)
          have s2 := cell_e hown' hrl 2 _ rfl (by omega)
          have z2 := hown'.frozenAt (n * 11 + 2)
          have s3 := cell_e hown' hrl 3 _ rfl (by omega)
          have z3 := hown'.frozenAt (n * 11 + 3)
          have s4 := cell_e hown' hrl 4 _ rfl (by omega)
          have z4 := hown'.frozenAt (n * 11 + 4)
          have s5 := cell_e hown' hrl 5 _ rfl (by omega)
          have z5 := hown'.frozenAt (n * 11 + 5)
          have s6 := cell_e hown' hrl 6 _ rfl (by omega)
          have z6 := hown'.frozenAt (n * 11 + 6)
          have s7 := cell_e hown' hrl 7 _ rfl (by omega)
          have z7 := hown'.frozenAt (n * 11 + 7)
          have s8 := cell_e hown' hrl 8 _ rfl (by omega)
          have z8 := hown'.frozenAt (n * 11 + 8)
          have s9 := cell_e hown' hrl 9 _ rfl (by omega)
          have z9 := hown'.frozenAt (n * 11 + 9)
          have s10 := cell_e hown' hrl 10 _ rfl (by omega)
          have z10 := hown'.frozenAt (n * 11 + 10)
          simp only [Nat.add_zero] at s0 z0
          have PT1 : (KeepsFrom (Q + 2) W ((elv w3 g (n * 11) (.int .i64 kd) (.int .i64 lv) (.string i) (.string t) (.string d) (.string ti) (.string at_.id) (.slice ac nc cc) (.slice ap np cp) (.slice al nl cl) (.slice ak nk ck)).setCell ⟨Q, 0, none⟩ (.slice (some ⟨g, 0, none⟩) (n + 1) cap)) ∧ KpM Q W ((elv w3 g (n * 11) (.int .i64 kd) (.int .i64 lv) (.string i) (.string t) (.string d) (.string ti) (.string at_.id) (.slice ac nc cc) (.slice ap np cp) (.slice al nl cl) (.slice ak nk ck)).setCell ⟨Q, 0, none⟩ (.slice (some ⟨g, 0, none⟩) (n + 1) cap)) ∧ MI S Q w W0 (pre ++ [x]) ((elv w3 g (n * 11) (.int .i64 kd) (.int .i64 lv) (.string i) (.string t) (.string d) (.string ti) (.string at_.id) (.slice ac nc cc) (.slice ap np cp) (.slice al nl cl) (.slice ak nk ck)).setCell ⟨Q, 0, none⟩ (.slice (some ⟨g, 0, none⟩) (n + 1) cap))) ∧ (KeepsFrom (Q + 2) W (elv (w3.setCell ⟨Q, 0, none⟩ (.slice (some ⟨g, 0, none⟩) (n + 1) cap)) g (n * 11) (.int .i64 kd) (.int .i64 lv) (.string i) (.string t) (.string d) (.string ti) (.string at_.id) (.slice ac nc cc) (.slice ap np cp) (.slice al nl cl) (.slice ak nk ck)) ∧ KpM Q W (elv (w3.setCell ⟨Q, 0, none⟩ (.slice (some ⟨g, 0, none⟩) (n + 1) cap)) g (n * 11) (.int .i64 kd) (.int .i64 lv) (.string i) (.string t) (.string d) (.string ti) (.string at_.id) (.slice ac nc cc) (.slice ap np cp) (.slice al nl cl) (.slice ak nk ck)) ∧ MI S Q w W0 (pre ++ [x]) (elv (w3.setCell ⟨Q, 0, none⟩ (.slice (some ⟨g, 0, none⟩) (n + 1) cap)) g (n * 11) (.int .i64 kd) (.int .i64 lv) (.string i) (.string t) (.string d) (.string ti) (.string at_.id) (.slice ac nc cc) (.slice ap np cp) (.slice al nl cl) (.slice ak nk ck))) := by
            have hg1 : W.grownBy ((W.alloc (.cells [.int .i64 0, .int .i64 0, .string ⟨#[]⟩, .string ⟨#[]⟩, .string ⟨#[]⟩, .string ⟨#[]⟩, .string ⟨#[]⟩, .slice none 0 0, .slice none 0 0, .slice none 0 0, .slice none 0 0].toArray 36)).drew) none := grown_drew (World.grownBy_alloc W _ none)
            have go : ∀ w4, (Box1 Q (.slice (some ⟨g, 0, none⟩) (n + 1) cap) 23 w4 ∧ w4.ownsRow (Q + 2) 36 11 (.slice (some ⟨g, 0, none⟩) (n + 1) cap) (n + 1) (rows.flatten ++ [.int .i64 kd, .int .i64 lv, .string i, .string t, .string d, .string ti, .string at_.id, .slice ac nc cc, .slice ap np cp, .slice al nl cl, .slice ak nk ck]) ∧ (∀ b, b ≠ Q → b ≠ g → w4.heap[b]? = w3.heap[b]?) ∧ w4.heap.size = w3.heap.size ∧ (w4.os = w3.os ∧ w4.tape = w3.tape ∧ w4.output = w3.output)) → KeepsFrom (Q + 2) W (w4) ∧ KpM Q W (w4) ∧ MI S Q w W0 (pre ++ [x]) (w4) := by
              rintro w4 ⟨e1, e2, e3, e4, e5⟩
              have hM1 := HM.out
              have hn1 := HN.out
              subst hn1
              have P := MB.push (cs := [.int .i64 kd, .int .i64 lv, .string i, .string t, .string d, .string ti, .string at_.id, .slice ac nc cc, .slice ap np cp, .slice al nl cl, .slice ak nk ck]) hM1 hg1 hown' hgrow hat HRX.out rfl e1 e2 e3 e4 e5 (Q + 2)
              have P1 := P.1
              rw [← HEQ.out] at P1
              exact ⟨P.2.2, P.2.1, _, _, P1⟩
            exact ⟨go _ (two_ab bx3 hown' hrl rfl _ rfl), go _ (two_ba bx3 hown' hrl rfl _ rfl)⟩
          simp only [elv, Nat.add_zero] at PT1
          have PT := Lib.hid PT1
          clear PT1 hown' hgrow hat bx3
          refine hK _ _ ?_
          clear hK K
          (try simp only [Act.put, List.setIfInBounds_toArray, List.set_cons_zero, List.set_cons_succ])
          refine wpAnyIn_ready (rs := [5, 7]) (by kernel_rfl) (by simp) ?_
          refine AllReadyIn.cons rfl (fun K hK => ?_) (AllReadyIn.cons rfl (fun K hK => ?_) AllReadyIn.nil)
          ·
            go_simp
            refine hK _ _ ?_
            clear hK K
            (try simp only [Act.put, List.setIfInBounds_toArray, List.set_cons_zero, List.set_cons_succ])
            refine wpAnyIn_ready (rs := [6, 7]) (by kernel_rfl) (by simp) ?_
            refine AllReadyIn.cons rfl (fun K hK => ?_) (AllReadyIn.cons rfl (fun K hK => ?_) AllReadyIn.nil)
            ·
              go_simp
              refine hK _ _ ?_
              clear hK K
              (try simp only [Act.put, List.setIfInBounds_toArray, List.set_cons_zero, List.set_cons_succ])
              refine wpAnyIn_ready (rs := [7]) (by kernel_rfl) (by simp) ?_
              refine AllReadyIn.cons rfl (fun K hK => ?_) AllReadyIn.nil
              go_simp
              refine hK _ _ ?_
              clear hK K
              (try simp only [Act.put, List.setIfInBounds_toArray, List.set_cons_zero, List.set_cons_succ])
              refine wpAnyIn_done (by kernel_rfl) ?_ _
              gi_wp2_with fail
              change _ ∧ _ ∧ _
              first | with_reducible exact PT.out.1 | with_reducible exact PT.out.2
            ·
              go_simp
              refine hK _ _ ?_
              clear hK K
              (try simp only [Act.put, List.setIfInBounds_toArray, List.set_cons_zero, List.set_cons_succ])
              refine wpAnyIn_ready (rs := [6]) (by kernel_rfl) (by simp) ?_
              refine AllReadyIn.cons rfl (fun K hK => ?_) AllReadyIn.nil
              go_simp
              refine hK _ _ ?_
              clear hK K
              (try simp only [Act.put, List.setIfInBounds_toArray, List.set_cons_zero, List.set_cons_succ])
              refine wpAnyIn_done (by kernel_rfl) ?_ _
              gi_wp2_with fail
              change _ ∧ _ ∧ _
              first | with_reducible exact PT.out.1 | with_reducible exact PT.out.2
          ·
            go_simp
            refine hK _ _ ?_
            clear hK K
            (try simp only [Act.put, List.setIfInBounds_toArray, List.set_cons_zero, List.set_cons_succ])
            refine wpAnyIn_ready (rs := [5]) (by kernel_rfl) (by simp) ?_
            refine AllReadyIn.cons rfl (fun K hK => ?_) AllReadyIn.nil
            go_simp
            refine hK _ _ ?_
            clear hK K
            (try simp only [Act.put, List.setIfInBounds_toArray, List.set_cons_zero, List.set_cons_succ])
            refine wpAnyIn_ready (rs := [6]) (by kernel_rfl) (by simp) ?_
            refine AllReadyIn.cons rfl (fun K hK => ?_) AllReadyIn.nil
            go_simp
            refine hK _ _ ?_
            clear hK K
            (try simp only [Act.put, List.setIfInBounds_toArray, List.set_cons_zero, List.set_cons_succ])
            refine wpAnyIn_done (by kernel_rfl) ?_ _
            gi_wp2_with fail
            change _ ∧ _ ∧ _
            first | with_reducible exact PT.out.1 | with_reducible exact PT.out.2
    ·
      go_simp
      refine hK _ _ ?_
      clear hK K
      (try simp only [Act.put, List.setIfInBounds_toArray, List.set_cons_zero, List.set_cons_succ])
      refine wpAnyIn_ready (rs := [0, 3]) (by kernel_rfl) (by simp) ?_
      refine AllReadyIn.cons rfl (fun K hK => ?_) (AllReadyIn.cons rfl (fun K hK => ?_) AllReadyIn.nil)
      ·
        go_simp
        refine hK _ _ ?_
        clear hK K
        (try simp only [Act.put, List.setIfInBounds_toArray, List.set_cons_zero, List.set_cons_succ])
        refine wpAnyIn_ready (rs := [2, 3]) (by kernel_rfl) (by simp) ?_
        refine AllReadyIn.cons rfl (fun K hK => ?_) (AllReadyIn.cons rfl (fun K hK => ?_) AllReadyIn.nil)
        ·
          go_simp
          refine hK _ _ ?_
          clear hK K
          (try simp only [Act.put, List.setIfInBounds_toArray, List.set_cons_zero, List.set_cons_succ])
          refine wpAnyIn_ready (rs := [3]) (by kernel_rfl) (by simp) ?_
          refine AllReadyIn.cons rfl (fun K hK => ?_) AllReadyIn.nil
          go_simp
          refine hK _ _ ?_
          clear hK K
          (try simp only [Act.put, List.setIfInBounds_toArray, List.set_cons_zero, List.set_cons_succ])
          refine wpAnyIn_ready (rs := [4]) (by kernel_rfl) (by simp) ?_
          refine AllReadyIn.cons rfl (fun K hK => ?_) AllReadyIn.nil
          refine stepIn_append_at rfl (.tmp 19) (.tmp 22) 23 rfl (Q + 2) 36 i0 _ 11 192 Tryz.underlying23 hi0 hz0 hz1 hz2 rfl (by decide) (.slice av n cv) n rows.flatten rfl (by have := HM.out.ou.drew.alloc (.cells [.int .i64 0, .int .i64 0, .string ⟨#[]⟩, .string ⟨#[]⟩, .string ⟨#[]⟩, .string ⟨#[]⟩, .string ⟨#[]⟩, .slice none 0 0, .slice none 0 0, .slice none 0 0, .slice none 0 0].toArray 36); rw [← HN.out] at this; exact this) ⟨W.heap.size, 0, none⟩ 1 1 [.int .i64 0, .int .i64 0, .string ⟨#[]⟩, .string ⟨#[]⟩, .string ⟨#[]⟩, .string ⟨#[]⟩, .string ⟨#[]⟩, .slice none 0 0, .slice none 0 0, .slice none 0 0, .slice none 0 0] rfl rfl (new_cells W.drew [.int .i64 0, .int .i64 0, .string ⟨#[]⟩, .string ⟨#[]⟩, .string ⟨#[]⟩, .string ⟨#[]⟩, .string ⟨#[]⟩, .slice none 0 0, .slice none 0 0, .slice none 0 0, .slice none 0 0] _) (by simp [Value.oneCell']) (by unfold maxLen; omega) (by omega) (by show Q + 2 ≤ (W.drew.alloc _).heap.size; rw [World.size_alloc]; show Q + 2 ≤ W.heap.size + 1; omega) ?_
          intro v' w3 hown' hgrow hat
          obtain ⟨g, cap, rfl⟩ := ownsRow_succ hown'
          have hgQ : Q + 2 ≤ g := (hown'.lt g rfl).1
          have hix : (n : Int) < (n : Int) + 1 := (by omega)
          have hcp := cap_e hown'
          have hnv : some Q ≠ (Value.slice av n cv).ownBlock := fun e => by have := (HM.out.ou.lt Q (by rw [← HN.out]; exact e.symm)).1; omega
          have bx3 : Box1 Q (.slice av n cv) 23 w3 := by
            have h0 : Box1 Q (.slice av n cv) 23 ((W.alloc (.cells [.int .i64 0, .int .i64 0, .string ⟨#[]⟩, .string ⟨#[]⟩, .string ⟨#[]⟩, .string ⟨#[]⟩, .string ⟨#[]⟩, .slice none 0 0, .slice none 0 0, .slice none 0 0, .slice none 0 0].toArray 36)).drew) := by have := HM.out.bp; rw [← HN.out] at this; exact (this.alloc _).drew
            exact (hgrow.block Q (by show Q < (W.alloc _).heap.size; rw [World.size_alloc]; omega) hnv).trans h0
          have kb := bx3.cell
          have fb := bx3.free
          have s0 := cell_e hown' hrl 0 _ rfl (by omega)
          have z0 := hown'.frozenAt (n * 11 + 0)
          have s1 := cell_e hown' hrl 1 _ rfl (by omega)
          have z1 := hown'.frozenAt (n * 11 + 1)
          have s2 := cell_e hown' hrl 2 _ rfl (by omega)
          have z2 := hown'.frozenAt (n * 11 + 2)
          have s3 := cell_e hown' hrl 3 _ rfl (by omega)
          have z3 := hown'.frozenAt (n * 11 + 3)
          have s4 := cell_e hown' hrl 4 _ rfl (by omega)
          have z4 := hown'.frozenAt (n * 11 + 4)
          have s5 := cell_e hown' hrl 5 _ rfl (by omega)
          have z5 := hown'.frozenAt (n * 11 + 5)
          have s6 := cell_e hown' hrl 6 _ rfl (by omega)
          have z6 := hown'.frozenAt (n * 11 + 6)
          have s7 := cell_e hown' hrl 7 _ rfl (by omega)
          have z7 := hown'.frozenAt (n * 11 + 7)
          have s8 := cell_e hown' hrl 8 _ rfl (by omega)
          have z8 := hown'.frozenAt (n * 11 + 8)
          have s9 := cell_e hown' hrl 9 _ rfl (by omega)
          have z9 := hown'.frozenAt (n * 11 + 9)
          have s10 := cell_e hown' hrl 10 _ rfl (by omega)
          have z10 := hown'.frozenAt (n * 11 + 10)
          simp only [Nat.add_zero] at s0 z0
          have PT1 : (KeepsFrom (Q + 2) W ((elv w3 g (n * 11) (.int .i64 kd) (.int .i64 lv) (.string i) (.string t) (.string d) (.string ti) (.string at_.id) (.slice ac nc cc) (.slice ap np cp) (.slice al nl cl) (.slice ak nk ck)).setCell ⟨Q, 0, none⟩ (.slice (some ⟨g, 0, none⟩) (n + 1) cap)) ∧ KpM Q W ((elv w3 g (n * 11) (.int .i64 kd) (.int .i64 lv) (.string i) (.string t) (.string d) (.string ti) (.string at_.id) (.slice ac nc cc) (.slice ap np cp) (.slice al nl cl) (.slice ak nk ck)).setCell ⟨Q, 0, none⟩ (.slice (some ⟨g, 0, none⟩) (n + 1) cap)) ∧ MI S Q w W0 (pre ++ [x]) ((elv w3 g (n * 11) (.int .i64 kd) (.int .i64 lv) (.string i) (.string t) (.string d) (.string ti) (.string at_.id) (.slice ac nc cc) (.slice ap np cp) (.slice al nl cl) (.slice ak nk ck)).setCell ⟨Q, 0, none⟩ (.slice (some ⟨g, 0, none⟩) (n + 1) cap))) ∧ (KeepsFrom (Q + 2) W (elv (w3.setCell ⟨Q, 0, none⟩ (.slice (some ⟨g, 0, none⟩) (n + 1) cap)) g (n * 11) (.int .i64 kd) (.int .i64 lv) (.string i) (.string t) (.string d) (.string ti) (.string at_.id) (.slice ac nc cc) (.slice ap np cp) (.slice al nl cl) (.slice ak nk ck)) ∧ KpM Q W (elv (w3.setCell ⟨Q, 0, none⟩ (.slice (some ⟨g, 0, none⟩) (n + 1) cap)) g (n * 11) (.int .i64 kd) (.int .i64 lv) (.string i) (.string t) (.string d) (.string ti) (.string at_.id) (.slice ac nc cc) (.slice ap np cp) (.slice al nl cl) (.slice ak nk ck)) ∧ MI S Q w W0 (pre ++ [x]) (elv (w3.setCell ⟨Q, 0, none⟩ (.slice (some ⟨g, 0, none⟩) (n + 1) cap)) g (n * 11) (.int .i64 kd) (.int .i64 lv) (.string i) (.string t) (.string d) (.string ti) (.string at_.id) (.slice ac nc cc) (.slice ap np cp) (.slice al nl cl) (.slice ak nk ck))) := by
            have hg1 : W.grownBy ((W.alloc (.cells [.int .i64 0, .int .i64 0, .string ⟨#[]⟩, .string ⟨#[]⟩, .string ⟨#[]⟩, .string ⟨#[]⟩, .string ⟨#[]⟩, .slice none 0 0, .slice none 0 0, .slice none 0 0, .slice none 0 0].toArray 36)).drew) none := grown_drew (World.grownBy_alloc W _ none)
            have go : ∀ w4, (Box1 Q (.slice (some ⟨g, 0, none⟩) (n + 1) cap) 23 w4 ∧ w4.ownsRow (Q + 2) 36 11 (.slice (some ⟨g, 0, none⟩) (n + 1) cap) (n + 1) (rows.flatten ++ [.int .i64 kd, .int .i64 lv, .string i, .string t, .string d, .string ti, .string at_.id, .slice ac nc cc, .slice ap np cp, .slice al nl cl, .slice ak nk ck]) ∧ (∀ b, b ≠ Q → b ≠ g → w4.heap[b]? = w3.heap[b]?) ∧ w4.heap.size = w3.heap.size ∧ (w4.os = w3.os ∧ w4.tape = w3.tape ∧ w4.output = w3.output)) → KeepsFrom (Q + 2) W (w4) ∧ KpM Q W (w4) ∧ MI S Q w W0 (pre ++ [x]) (w4) := by
              rintro w4 ⟨e1, e2, e3, e4, e5⟩
              have hM1 := HM.out
              have hn1 := HN.out
              subst hn1
              have P := MB.push (cs := [.int .i64 kd, .int .i64 lv, .string i, .string t, .string d, .string ti, .string at_.id, .slice ac nc cc, .slice ap np cp, .slice al nl cl, .slice ak nk ck]) hM1 hg1 hown' hgrow hat HRX.out rfl e1 e2 e3 e4 e5 (Q + 2)
              have P1 := P.1
              rw [← HEQ.out] at P1
              exact ⟨P.2.2, P.2.1, _, _, P1⟩
            exact ⟨go _ (two_ab bx3 hown' hrl rfl _ rfl), go _ (two_ba bx3 hown' hrl rfl _ rfl)⟩
          simp only [elv, Nat.add_zero] at PT1
          have PT := Lib.hid PT1
          clear PT1 hown' hgrow hat bx3
          refine hK _ _ ?_
          clear hK K
          (try simp only [Act.put, List.setIfInBounds_toArray, List.set_cons_zero, List.set_cons_succ])
          refine wpAnyIn_ready (rs := [5, 7]) (by kernel_rfl) (by simp) ?_
          refine AllReadyIn.cons rfl (fun K hK => ?_) (AllReadyIn.cons rfl (fun K hK => ?_) AllReadyIn.nil)
          ·
            go_simp
            refine hK _ _ ?_
            clear hK K
            (try simp only [Act.put, List.setIfInBounds_toArray, List.set_cons_zero, List.set_cons_succ])
            refine wpAnyIn_ready (rs := [6, 7]) (by kernel_rfl) (by simp) ?_
            refine AllReadyIn.cons rfl (fun K hK => ?_) (AllReadyIn.cons rfl (fun K hK => ?_) AllReadyIn.nil)
            ·
              go_simp
              refine hK _ _ ?_
              clear hK K
              (try simp only [Act.put, List.setIfInBounds_toArray, List.set_cons_zero, List.set_cons_succ])
              refine wpAnyIn_ready (rs := [7]) (by kernel_rfl) (by simp) ?_
              refine AllReadyIn.cons rfl (fun K hK => ?_) AllReadyIn.nil
              go_simp
              refine hK _ _ ?_
              clear hK K
              (try simp only [Act.put, List.setIfInBounds_toArray, List.set_cons_zero, List.set_cons_succ])
              refine wpAnyIn_done (by kernel_rfl) ?_ _
              gi_wp2_with fail
              change _ ∧ _ ∧ _
              first | with_reducible exact PT.out.1 | with_reducible exact PT.out.2
            ·
              go_simp
              refine hK _ _ ?_
              clear hK K
              (try simp only [Act.put, List.setIfInBounds_toArray, List.set_cons_zero, List.set_cons_succ])
              refine wpAnyIn_ready (rs := [6]) (by kernel_rfl) (by simp) ?_
              refine AllReadyIn.cons rfl (fun K hK => ?_) AllReadyIn.nil
              go_simp
              refine hK _ _ ?_
              clear hK K
              (try simp only [Act.put, List.setIfInBounds_toArray, List.set_cons_zero, List.set_cons_succ])
              refine wpAnyIn_done (by kernel_rfl) ?_ _
              gi_wp2_with fail
              change _ ∧ _ ∧ _
              first | with_reducible exact PT.out.1 | with_reducible exact PT.out.2
          ·
            go_simp
            refine hK _ _ ?_
            clear hK K
            (try simp only [Act.put, List.setIfInBounds_toArray, List.set_cons_zero, List.set_cons_succ])
            refine wpAnyIn_ready (rs := [5]) (by kernel_rfl) (by simp) ?_
            refine AllReadyIn.cons rfl (fun K hK => ?_) AllReadyIn.nil
            go_simp
            refine hK _ _ ?_
            clear hK K
            (try simp only [Act.put, List.setIfInBounds_toArray, List.set_cons_zero, List.set_cons_succ])
            refine wpAnyIn_ready (rs := [6]) (by kernel_rfl) (by simp) ?_
            refine AllReadyIn.cons rfl (fun K hK => ?_) AllReadyIn.nil
            go_simp
            refine hK _ _ ?_
            clear hK K
            (try simp only [Act.put, List.setIfInBounds_toArray, List.set_cons_zero, List.set_cons_succ])
            refine wpAnyIn_done (by kernel_rfl) ?_ _
            gi_wp2_with fail
            change _ ∧ _ ∧ _
            first | with_reducible exact PT.out.1 | with_reducible exact PT.out.2
        ·
          go_simp
          refine hK _ _ ?_
          clear hK K
          (try simp only [Act.put, List.setIfInBounds_toArray, List.set_cons_zero, List.set_cons_succ])
          refine wpAnyIn_ready (rs := [2]) (by kernel_rfl) (by simp) ?_
          refine AllReadyIn.cons rfl (fun K hK => ?_) AllReadyIn.nil
          go_simp
          refine hK _ _ ?_
          clear hK K
          (try simp only [Act.put, List.setIfInBounds_toArray, List.set_cons_zero, List.set_cons_succ])
          refine wpAnyIn_ready (rs := [4]) (by kernel_rfl) (by simp) ?_
          refine AllReadyIn.cons rfl (fun K hK => ?_) AllReadyIn.nil
          refine stepIn_append_at rfl (.tmp 19) (.tmp 22) 23 rfl (Q + 2) 36 i0 _ 11 192 Tryz.underlying23 hi0 hz0 hz1 hz2 rfl (by decide) (.slice av n cv) n rows.flatten rfl (by have := HM.out.ou.drew.alloc (.cells [.int .i64 0, .int .i64 0, .string ⟨#[]⟩, .string ⟨#[]⟩, .string ⟨#[]⟩, .string ⟨#[]⟩, .string ⟨#[]⟩, .slice none 0 0, .slice none 0 0, .slice none 0 0, .slice none 0 0].toArray 36); rw [← HN.out] at this; exact this) ⟨W.heap.size, 0, none⟩ 1 1 [.int .i64 0, .int .i64 0, .string ⟨#[]⟩, .string ⟨#[]⟩, .string ⟨#[]⟩, .string ⟨#[]⟩, .string ⟨#[]⟩, .slice none 0 0, .slice none 0 0, .slice none 0 0, .slice none 0 0] rfl rfl (new_cells W.drew [.int .i64 0, .int .i64 0, .string ⟨#[]⟩, .string ⟨#[]⟩, .string ⟨#[]⟩, .string ⟨#[]⟩, .string ⟨#[]⟩, .slice none 0 0, .slice none 0 0, .slice none 0 0, .slice none 0 0] _) (by simp [Value.oneCell']) (by unfold maxLen; omega) (by omega) (by show Q + 2 ≤ (W.drew.alloc _).heap.size; rw [World.size_alloc]; show Q + 2 ≤ W.heap.size + 1; omega) ?_
          intro v' w3 hown' hgrow hat
          obtain ⟨g, cap, rfl⟩ := ownsRow_succ hown'
          have hgQ : Q + 2 ≤ g := (hown'.lt g rfl).1
          have hix : (n : Int) < (n : Int) + 1 := (by omega)
          have hcp := cap_e hown'
          have hnv : some Q ≠ (Value.slice av n cv).ownBlock := fun e => by have := (HM.out.ou.lt Q (by rw [← HN.out]; exact e.symm)).1; omega
          have bx3 : Box1 Q (.slice av n cv) 23 w3 := by
            have h0 : Box1 Q (.slice av n cv) 23 ((W.alloc (.cells [.int .i64 0, .int .i64 0, .string ⟨#[]⟩, .string ⟨#[]⟩, .string ⟨#[]⟩, .string ⟨#[]⟩, .string ⟨#[]⟩, .slice none 0 0, .slice none 0 0, .slice none 0 0, .slice none 0 0].toArray 36)).drew) := by have := HM.out.bp; rw [← HN.out] at this; exact (this.alloc _).drew
            exact (hgrow.block Q (by show Q < (W.alloc _).heap.size; rw [World.size_alloc]; omega) hnv).trans h0
          have kb := bx3.cell
          have fb := bx3.free
          have s0 := cell_e hown' hrl 0 _ rfl (by omega)
          have z0 := hown'.frozenAt (n * 11 + 0)
          have s1 := cell_e hown' hrl 1 _ rfl (by omega)
          have z1 := hown'.frozenAt (n * 11 + 1)
          have s2 := cell_e hown' hrl 2 _ rfl (by omega)
          have z2 := hown'.frozenAt (n * 11 + 2)
          have s3 := cell_e hown' hrl 3 _ rfl (by omega)
          have z3 := hown'.frozenAt (n * 11 + 3)
          have s4 := cell_e hown' hrl 4 _ rfl (by omega)
          have z4 := hown'.frozenAt (n * 11 + 4)
          have s5 := cell_e hown' hrl 5 _ rfl (by omega)
          have z5 := hown'.frozenAt (n * 11 + 5)
          have s6 := cell_e hown' hrl 6 _ rfl (by omega)
          have z6 := hown'.frozenAt (n * 11 + 6)
          have s7 := cell_e hown' hrl 7 _ rfl (by omega)
          have z7 := hown'.frozenAt (n * 11 + 7)
          have s8 := cell_e hown' hrl 8 _ rfl (by omega)
          have z8 := hown'.frozenAt (n * 11 + 8)
          have s9 := cell_e hown' hrl 9 _ rfl (by omega)
          have z9 := hown'.frozenAt (n * 11 + 9)
          have s10 := cell_e hown' hrl 10 _ rfl (by omega)
          have z10 := hown'.frozenAt (n * 11 + 10)
          simp only [Nat.add_zero] at s0 z0
          have PT1 : (KeepsFrom (Q + 2) W ((elv w3 g (n * 11) (.int .i64 kd) (.int .i64 lv) (.string i) (.string t) (.string d) (.string ti) (.string at_.id) (.slice ac nc cc) (.slice ap np cp) (.slice al nl cl) (.slice ak nk ck)).setCell ⟨Q, 0, none⟩ (.slice (some ⟨g, 0, none⟩) (n + 1) cap)) ∧ KpM Q W ((elv w3 g (n * 11) (.int .i64 kd) (.int .i64 lv) (.string i) (.string t) (.string d) (.string ti) (.string at_.id) (.slice ac nc cc) (.slice ap np cp) (.slice al nl cl) (.slice ak nk ck)).setCell ⟨Q, 0, none⟩ (.slice (some ⟨g, 0, none⟩) (n + 1) cap)) ∧ MI S Q w W0 (pre ++ [x]) ((elv w3 g (n * 11) (.int .i64 kd) (.int .i64 lv) (.string i) (.string t) (.string d) (.string ti) (.string at_.id) (.slice ac nc cc) (.slice ap np cp) (.slice al nl cl) (.slice ak nk ck)).setCell ⟨Q, 0, none⟩ (.slice (some ⟨g, 0, none⟩) (n + 1) cap))) ∧ (KeepsFrom (Q + 2) W (elv (w3.setCell ⟨Q, 0, none⟩ (.slice (some ⟨g, 0, none⟩) (n + 1) cap)) g (n * 11) (.int .i64 kd) (.int .i64 lv) (.string i) (.string t) (.string d) (.string ti) (.string at_.id) (.slice ac nc cc) (.slice ap np cp) (.slice al nl cl) (.slice ak nk ck)) ∧ KpM Q W (elv (w3.setCell ⟨Q, 0, none⟩ (.slice (some ⟨g, 0, none⟩) (n + 1) cap)) g (n * 11) (.int .i64 kd) (.int .i64 lv) (.string i) (.string t) (.string d) (.string ti) (.string at_.id) (.slice ac nc cc) (.slice ap np cp) (.slice al nl cl) (.slice ak nk ck)) ∧ MI S Q w W0 (pre ++ [x]) (elv (w3.setCell ⟨Q, 0, none⟩ (.slice (some ⟨g, 0, none⟩) (n + 1) cap)) g (n * 11) (.int .i64 kd) (.int .i64 lv) (.string i) (.string t) (.string d) (.string ti) (.string at_.id) (.slice ac nc cc) (.slice ap np cp) (.slice al nl cl) (.slice ak nk ck))) := by
            have hg1 : W.grownBy ((W.alloc (.cells [.int .i64 0, .int .i64 0, .string ⟨#[]⟩, .string ⟨#[]⟩, .string ⟨#[]⟩, .string ⟨#[]⟩, .string ⟨#[]⟩, .slice none 0 0, .slice none 0 0, .slice none 0 0, .slice none 0 0].toArray 36)).drew) none := grown_drew (World.grownBy_alloc W _ none)
            have go : ∀ w4, (Box1 Q (.slice (some ⟨g, 0, none⟩) (n + 1) cap) 23 w4 ∧ w4.ownsRow (Q + 2) 36 11 (.slice (some ⟨g, 0, none⟩) (n + 1) cap) (n + 1) (rows.flatten ++ [.int .i64 kd, .int .i64 lv, .string i, .string t, .string d, .string ti, .string at_.id, .slice ac nc cc, .slice ap np cp, .slice al nl cl, .slice ak nk ck]) ∧ (∀ b, b ≠ Q → b ≠ g → w4.heap[b]? = w3.heap[b]?) ∧ w4.heap.size = w3.heap.size ∧ (w4.os = w3.os ∧ w4.tape = w3.tape ∧ w4.output = w3.output)) → KeepsFrom (Q + 2) W (w4) ∧ KpM Q W (w4) ∧ MI S Q w W0 (pre ++ [x]) (w4) := by
              rintro w4 ⟨e1, e2, e3, e4, e5⟩
              have hM1 := HM.out
              have hn1 := HN.out
              subst hn1
              have P := MB.push (cs := [.int .i64 kd, .int .i64 lv, .string i, .string t, .string d, .string ti, .string at_.id, .slice ac nc cc, .slice ap np cp, .slice al nl cl, .slice ak nk ck]) hM1 hg1 hown' hgrow hat HRX.out rfl e1 e2 e3 e4 e5 (Q + 2)
              have P1 := P.1
              rw [← HEQ.out] at P1
              exact ⟨P.2.2, P.2.1, _, _, P1⟩
            exact ⟨go _ (two_ab bx3 hown' hrl rfl _ rfl), go _ (two_ba bx3 hown' hrl rfl _ rfl)⟩
          simp only [elv, Nat.add_zero] at PT1
          have PT := Lib.hid PT1
          clear PT1 hown' hgrow hat bx3
          refine hK _ _ ?_
          clear hK K
          (try simp only [Act.put, List.setIfInBounds_toArray, List.set_cons_zero, List.set_cons_succ])
          refine wpAnyIn_ready (rs := [5, 7]) (by kernel_rfl) (by simp) ?_
          refine AllReadyIn.cons rfl (fun K hK => ?_) (AllReadyIn.cons rfl (fun K hK => ?_) AllReadyIn.nil)
          ·
            go_simp
            refine hK _ _ ?_
            clear hK K
            (try simp only [Act.put, List.setIfInBounds_toArray, List.set_cons_zero, List.set_cons_succ])
            refine wpAnyIn_ready (rs := [6, 7]) (by kernel_rfl) (by simp) ?_
            refine AllReadyIn.cons rfl (fun K hK => ?_) (AllReadyIn.cons rfl (fun K hK => ?_) AllReadyIn.nil)
            ·
              go_simp
              refine hK _ _ ?_
              clear hK K
              (try simp only [Act.put, List.setIfInBounds_toArray, List.set_cons_zero, List.set_cons_succ])
              refine wpAnyIn_ready (rs := [7]) (by kernel_rfl) (by simp) ?_
              refine AllReadyIn.cons rfl (fun K hK => ?_) AllReadyIn.nil
              go_simp
              refine hK _ _ ?_
              clear hK K
              (try simp only [Act.put, List.setIfInBounds_toArray, List.set_cons_zero, List.set_cons_succ])
              refine wpAnyIn_done (by kernel_rfl) ?_ _
              gi_wp2_with fail
              change _ ∧ _ ∧ _
              first | with_reducible exact PT.out.1 | with_reducible exact PT.out.2
            ·
              go_simp
              refine hK _ _ ?_
              clear hK K
              (try simp only [Act.put, List.setIfInBounds_toArray, List.set_cons_zero, List.set_cons_succ])
              refine wpAnyIn_ready (rs := [6]) (by kernel_rfl) (by simp) ?_
              refine AllReadyIn.cons rfl (fun K hK => ?_) AllReadyIn.nil
              go_simp
              refine hK _ _ ?_
              clear hK K
              (try simp only [Act.put, List.setIfInBounds_toArray, List.set_cons_zero, List.set_cons_succ])
              refine wpAnyIn_done (by kernel_rfl) ?_ _
              gi_wp2_with fail
              change _ ∧ _ ∧ _
              first | with_reducible exact PT.out.1 | with_reducible exact PT.out.2
          ·
            go_simp
            refine hK _ _ ?_
            clear hK K
            (try simp only [Act.put, List.setIfInBounds_toArray, List.set_cons_zero, List.set_cons_succ])
            refine wpAnyIn_ready (rs := [5]) (by kernel_rfl) (by simp) ?_
            refine AllReadyIn.cons rfl (fun K hK => ?_) AllReadyIn.nil
            go_simp
            refine hK _ _ ?_
            clear hK K
            (try simp only [Act.put, List.setIfInBounds_toArray, List.set_cons_zero, List.set_cons_succ])
            refine wpAnyIn_ready (rs := [6]) (by kernel_rfl) (by simp) ?_
            refine AllReadyIn.cons rfl (fun K hK => ?_) AllReadyIn.nil
            go_simp
            refine hK _ _ ?_
            clear hK K
            (try simp only [Act.put, List.setIfInBounds_toArray, List.set_cons_zero, List.set_cons_succ])
            refine wpAnyIn_done (by kernel_rfl) ?_ _
            gi_wp2_with fail
            change _ ∧ _ ∧ _
            first | with_reducible exact PT.out.1 | with_reducible exact PT.out.2
      ·
        go_simp
        refine hK _ _ ?_
        clear hK K
        (try simp only [Act.put, List.setIfInBounds_toArray, List.set_cons_zero, List.set_cons_succ])
        refine wpAnyIn_ready (rs := [0]) (by kernel_rfl) (by simp) ?_
        refine AllReadyIn.cons rfl (fun K hK => ?_) AllReadyIn.nil
        go_simp
        refine hK _ _ ?_
        clear hK K
        (try simp only [Act.put, List.setIfInBounds_toArray, List.set_cons_zero, List.set_cons_succ])
        refine wpAnyIn_ready (rs := [2]) (by kernel_rfl) (by simp) ?_
        refine AllReadyIn.cons rfl (fun K hK => ?_) AllReadyIn.nil
        go_simp
        refine hK _ _ ?_
        clear hK K
        (try simp only [Act.put, List.setIfInBounds_toArray, List.set_cons_zero, List.set_cons_succ])
        refine wpAnyIn_ready (rs := [4]) (by kernel_rfl) (by simp) ?_
        refine AllReadyIn.cons rfl (fun K hK => ?_) AllReadyIn.nil
        refine stepIn_append_at rfl (.tmp 19) (.tmp 22) 23 rfl (Q + 2) 36 i0 _ 11 192 Tryz.underlying23 hi0 hz0 hz1 hz2 rfl (by decide) (.slice av n cv) n rows.flatten rfl (by have := HM.out.ou.drew.alloc (.cells [.int .i64 0, .int .i64 0, .string ⟨#[]⟩, .string ⟨#[]⟩, .string ⟨#[]⟩, .string ⟨#[]⟩, .string ⟨#[]⟩, .slice none 0 0, .slice none 0 0, .slice none 0 0, .slice none 0 0].toArray 36); rw [← HN.out] at this; exact this) ⟨W.heap.size, 0, none⟩ 1 1 [.int .i64 0, .int .i64 0, .string ⟨#[]⟩, .string ⟨#[]⟩, .string ⟨#[]⟩, .string ⟨#[]⟩, .string ⟨#[]⟩, .slice none 0 0, .slice none 0 0, .slice none 0 0, .slice none 0 0] rfl rfl (new_cells W.drew [.int .i64 0, .int .i64 0, .string ⟨#[]⟩, .string ⟨#[]⟩, .string ⟨#[]⟩, .string ⟨#[]⟩, .string ⟨#[]⟩, .slice none 0 0, .slice none 0 0, .slice none 0 0, .slice none 0 0] _) (by simp [Value.oneCell']) (by unfold maxLen; omega) (by omega) (by show Q + 2 ≤ (W.drew.alloc _).heap.size; rw [World.size_alloc]; show Q + 2 ≤ W.heap.size + 1; omega) ?_
        intro v' w3 hown' hgrow hat
        obtain ⟨g, cap, rfl⟩ := ownsRow_succ hown'
        have hgQ : Q + 2 ≤ g := (hown'.lt g rfl).1
        have hix : (n : Int) < (n : Int) + 1 := (by omega)
        have hcp := cap_e hown'
        have hnv : some Q ≠ (Value.slice av n cv).ownBlock := fun e => by have := (HM.out.ou.lt Q (by rw [← HN.out]; exact e.symm)).1; omega
        have bx3 : Box1 Q (.slice av n cv) 23 w3 := by
          have h0 : Box1 Q (.slice av n cv) 23 ((W.alloc (.cells [.int .i64 0, .int .i64 0, .string ⟨#[]⟩, .string ⟨#[]⟩, .string ⟨#[]⟩, .string ⟨#[]⟩, .string ⟨#[]⟩, .slice none 0 0, .slice none 0 0, .slice none 0 0, .slice none 0 0].toArray 36)).drew) := by have := HM.out.bp; rw [← HN.out] at this; exact (this.alloc _).drew
          exact (hgrow.block Q (by show Q < (W.alloc _).heap.size; rw [World.size_alloc]; omega) hnv).trans h0
        have kb := bx3.cell
        have fb := bx3.free
        have s0 := cell_e hown' hrl 0 _ rfl (by omega)
        have z0 := hown'.frozenAt (n * 11 + 0)
        have s1 := cell_e hown' hrl 1 _ rfl (by omega)
        have z1 := hown'.frozenAt (n * 11 + 1)
        have s2 := cell_e hown' hrl 2 _ rfl (by omega)
        have z2 := hown'.frozenAt (n * 11 + 2)
        have s3 := cell_e hown' hrl 3 _ rfl (by omega)
        have z3 := hown'.frozenAt (n * 11 + 3)
        have s4 := cell_e hown' hrl 4 _ rfl (by omega)
        have z4 := hown'.frozenAt (n * 11 + 4)
        have s5 := cell_e hown' hrl 5 _ rfl (by omega)
        have z5 := hown'.frozenAt (n * 11 + 5)
        have s6 := cell_e hown' hrl 6 _ rfl (by omega)
        have z6 := hown'.frozenAt (n * 11 + 6)
        have s7 := cell_e hown' hrl 7 _ rfl (by omega)
        have z7 := hown'.frozenAt (n * 11 + 7)
        have s8 := cell_e hown' hrl 8 _ rfl (by omega)
        have z8 := hown'.frozenAt (n * 11 + 8)
        have s9 := cell_e hown' hrl 9 _ rfl (by omega)
        have z9 := hown'.frozenAt (n * 11 + 9)
        have s10 := cell_e hown' hrl 10 _ rfl (by omega)
        have z10 := hown'.frozenAt (n * 11 + 10)
        simp only [Nat.add_zero] at s0 z0
        have PT1 : (KeepsFrom (Q + 2) W ((elv w3 g (n * 11) (.int .i64 kd) (.int .i64 lv) (.string i) (.string t) (.string d) (.string ti) (.string at_.id) (.slice ac nc cc) (.slice ap np cp) (.slice al nl cl) (.slice ak nk ck)).setCell ⟨Q, 0, none⟩ (.slice (some ⟨g, 0, none⟩) (n + 1) cap)) ∧ KpM Q W ((elv w3 g (n * 11) (.int .i64 kd) (.int .i64 lv) (.string i) (.string t) (.string d) (.string ti) (.string at_.id) (.slice ac nc cc) (.slice ap np cp) (.slice al nl cl) (.slice ak nk ck)).setCell ⟨Q, 0, none⟩ (.slice (some ⟨g, 0, none⟩) (n + 1) cap)) ∧ MI S Q w W0 (pre ++ [x]) ((elv w3 g (n * 11) (.int .i64 kd) (.int .i64 lv) (.string i) (.string t) (.string d) (.string ti) (.string at_.id) (.slice ac nc cc) (.slice ap np cp) (.slice al nl cl) (.slice ak nk ck)).setCell ⟨Q, 0, none⟩ (.slice (some ⟨g, 0, none⟩) (n + 1) cap))) ∧ (KeepsFrom (Q + 2) W (elv (w3.setCell ⟨Q, 0, none⟩ (.slice (some ⟨g, 0, none⟩) (n + 1) cap)) g (n * 11) (.int .i64 kd) (.int .i64 lv) (.string i) (.string t) (.string d) (.string ti) (.string at_.id) (.slice ac nc cc) (.slice ap np cp) (.slice al nl cl) (.slice ak nk ck)) ∧ KpM Q W (elv (w3.setCell ⟨Q, 0, none⟩ (.slice (some ⟨g, 0, none⟩) (n + 1) cap)) g (n * 11) (.int .i64 kd) (.int .i64 lv) (.string i) (.string t) (.string d) (.string ti) (.string at_.id) (.slice ac nc cc) (.slice ap np cp) (.slice al nl cl) (.slice ak nk ck)) ∧ MI S Q w W0 (pre ++ [x]) (elv (w3.setCell ⟨Q, 0, none⟩ (.slice (some ⟨g, 0, none⟩) (n + 1) cap)) g (n * 11) (.int .i64 kd) (.int .i64 lv) (.string i) (.string t) (.string d) (.string ti) (.string at_.id) (.slice ac nc cc) (.slice ap np cp) (.slice al nl cl) (.slice ak nk ck))) := by
          have hg1 : W.grownBy ((W.alloc (.cells [.int .i64 0, .int .i64 0, .string ⟨#[]⟩, .string ⟨#[]⟩, .string ⟨#[]⟩, .string ⟨#[]⟩, .string ⟨#[]⟩, .slice none 0 0, .slice none 0 0, .slice none 0 0, .slice none 0 0].toArray 36)).drew) none := grown_drew (World.grownBy_alloc W _ none)
          have go : ∀ w4, (Box1 Q (.slice (some ⟨g, 0, none⟩) (n + 1) cap) 23 w4 ∧ w4.ownsRow (Q + 2) 36 11 (.slice (some ⟨g, 0, none⟩) (n + 1) cap) (n + 1) (rows.flatten ++ [.int .i64 kd, .int .i64 lv, .string i, .string t, .string d, .string ti, .string at_.id, .slice ac nc cc, .slice ap np cp, .slice al nl cl, .slice ak nk ck]) ∧ (∀ b, b ≠ Q → b ≠ g → w4.heap[b]? = w3.heap[b]?) ∧ w4.heap.size = w3.heap.size ∧ (w4.os = w3.os ∧ w4.tape = w3.tape ∧ w4.output = w3.output)) → KeepsFrom (Q + 2) W (w4) ∧ KpM Q W (w4) ∧ MI S Q w W0 (pre ++ [x]) (w4) := by
            rintro w4 ⟨e1, e2, e3, e4, e5⟩
            have hM1 := HM.out
            have hn1 := HN.out
            subst hn1
            have P := MB.push (cs := [.int .i64 kd, .int .i64 lv, .string i, .string t, .string d, .string ti, .string at_.id, .slice ac nc cc, .slice ap np cp, .slice al nl cl, .slice ak nk ck]) hM1 hg1 hown' hgrow hat HRX.out rfl e1 e2 e3 e4 e5 (Q + 2)
            have P1 := P.1
            rw [← HEQ.out] at P1
            exact ⟨P.2.2, P.2.1, _, _, P1⟩
          exact ⟨go _ (two_ab bx3 hown' hrl rfl _ rfl), go _ (two_ba bx3 hown' hrl rfl _ rfl)⟩
        simp only [elv, Nat.add_zero] at PT1
        have PT := Lib.hid PT1
        clear PT1 hown' hgrow hat bx3
        refine hK _ _ ?_
        clear hK K
        (try simp only [Act.put, List.setIfInBounds_toArray, List.set_cons_zero, List.set_cons_succ])
        refine wpAnyIn_ready (rs := [5, 7]) (by kernel_rfl) (by simp) ?_
        refine AllReadyIn.cons rfl (fun K hK => ?_) (AllReadyIn.cons rfl (fun K hK => ?_) AllReadyIn.nil)
        ·
          go_simp
          refine hK _ _ ?_
          clear hK K
          (try simp only [Act.put, List.setIfInBounds_toArray, List.set_cons_zero, List.set_cons_succ])
          refine wpAnyIn_ready (rs := [6, 7]) (by kernel_rfl) (by simp) ?_
          refine AllReadyIn.cons rfl (fun K hK => ?_) (AllReadyIn.cons rfl (fun K hK => ?_) AllReadyIn.nil)
          ·
            go_simp
            refine hK _ _ ?_
            clear hK K
            (try simp only [Act.put, List.setIfInBounds_toArray, List.set_cons_zero, List.set_cons_succ])
            refine wpAnyIn_ready (rs := [7]) (by kernel_rfl) (by simp) ?_
            refine AllReadyIn.cons rfl (fun K hK => ?_) AllReadyIn.nil
            go_simp
            refine hK _ _ ?_
            clear hK K
            (try simp only [Act.put, List.setIfInBounds_toArray, List.set_cons_zero, List.set_cons_succ])
            refine wpAnyIn_done (by kernel_rfl) ?_ _
            gi_wp2_with fail
            change _ ∧ _ ∧ _
            first | with_reducible exact PT.out.1 | with_reducible exact PT.out.2
          ·
            go_simp
            refine hK _ _ ?_
            clear hK K
            (try simp only [Act.put, List.setIfInBounds_toArray, List.set_cons_zero, List.set_cons_succ])
            refine wpAnyIn_ready (rs := [6]) (by kernel_rfl) (by simp) ?_
            refine AllReadyIn.cons rfl (fun K hK => ?_) AllReadyIn.nil
            go_simp
            refine hK _ _ ?_
            clear hK K
            (try simp only [Act.put, List.setIfInBounds_toArray, List.set_cons_zero, List.set_cons_succ])
            refine wpAnyIn_done (by kernel_rfl) ?_ _
            gi_wp2_with fail
            change _ ∧ _ ∧ _
            first | with_reducible exact PT.out.1 | with_reducible exact PT.out.2
        ·
          go_simp
          refine hK _ _ ?_
          clear hK K
          (try simp only [Act.put, List.setIfInBounds_toArray, List.set_cons_zero, List.set_cons_succ])
          refine wpAnyIn_ready (rs := [5]) (by kernel_rfl) (by simp) ?_
          refine AllReadyIn.cons rfl (fun K hK => ?_) AllReadyIn.nil
          go_simp
          refine hK _ _ ?_
          clear hK K
          (try simp only [Act.put, List.setIfInBounds_toArray, List.set_cons_zero, List.set_cons_succ])
          refine wpAnyIn_ready (rs := [6]) (by kernel_rfl) (by simp) ?_
          refine AllReadyIn.cons rfl (fun K hK => ?_) AllReadyIn.nil
          go_simp
          refine hK _ _ ?_
          clear hK K
          (try simp only [Act.put, List.setIfInBounds_toArray, List.set_cons_zero, List.set_cons_succ])
          refine wpAnyIn_done (by kernel_rfl) ?_ _
          gi_wp2_with fail
          change _ ∧ _ ∧ _
          first | with_reducible exact PT.out.1 | with_reducible exact PT.out.2
    ·
      go_simp
      refine hK _ _ ?_
      clear hK K
      (try simp only [Act.put, List.setIfInBounds_toArray, List.set_cons_zero, List.set_cons_succ])
      refine wpAnyIn_ready (rs := [0, 1]) (by kernel_rfl) (by simp) ?_
      refine AllReadyIn.cons rfl (fun K hK => ?_) (AllReadyIn.cons rfl (fun K hK => ?_) AllReadyIn.nil)
      ·
        go_simp
        refine hK _ _ ?_
        clear hK K
        (try simp only [Act.put, List.setIfInBounds_toArray, List.set_cons_zero, List.set_cons_succ])
        refine wpAnyIn_ready (rs := [1, 2]) (by kernel_rfl) (by simp) ?_
        refine AllReadyIn.cons rfl (fun K hK => ?_) (AllReadyIn.cons rfl (fun K hK => ?_) AllReadyIn.nil)
        ·
          go_simp
          refine hK _ _ ?_
          clear hK K
          (try simp only [Act.put, List.setIfInBounds_toArray, List.set_cons_zero, List.set_cons_succ])
          refine wpAnyIn_ready (rs := [2]) (by kernel_rfl) (by simp) ?_
          refine AllReadyIn.cons rfl (fun K hK => ?_) AllReadyIn.nil
          go_simp
          refine hK _ _ ?_
          clear hK K
          (try simp only [Act.put, List.setIfInBounds_toArray, List.set_cons_zero, List.set_cons_succ])
          refine wpAnyIn_ready (rs := [4]) (by kernel_rfl) (by simp) ?_
          refine AllReadyIn.cons rfl (fun K hK => ?_) AllReadyIn.nil
          refine stepIn_append_at rfl (.tmp 19) (.tmp 22) 23 rfl (Q + 2) 36 i0 _ 11 192 Tryz.underlying23 hi0 hz0 hz1 hz2 rfl (by decide) (.slice av n cv) n rows.flatten rfl (by have := HM.out.ou.drew.alloc (.cells [.int .i64 0, .int .i64 0, .string ⟨#[]⟩, .string ⟨#[]⟩, .string ⟨#[]⟩, .string ⟨#[]⟩, .string ⟨#[]⟩, .slice none 0 0, .slice none 0 0, .slice none 0 0, .slice none 0 0].toArray 36); rw [← HN.out] at this; exact this) ⟨W.heap.size, 0, none⟩ 1 1 [.int .i64 0, .int .i64 0, .string ⟨#[]⟩, .string ⟨#[]⟩, .string ⟨#[]⟩, .string ⟨#[]⟩, .string ⟨#[]⟩, .slice none 0 0, .slice none 0 0, .slice none 0 0, .slice none 0 0] rfl rfl (new_cells W.drew [.int .i64 0, .int .i64 0, .string ⟨#[]⟩, .string ⟨#[]⟩, .string ⟨#[]⟩, .string ⟨#[]⟩, .string ⟨#[]⟩, .slice none 0 0, .slice none 0 0, .slice none 0 0, .slice none 0 0] _) (by simp [Value.oneCell']) (by unfold maxLen; omega) (by omega) (by show Q + 2 ≤ (W.drew.alloc _).heap.size; rw [World.size_alloc]; show Q + 2 ≤ W.heap.size + 1; omega) ?_
          intro v' w3 hown' hgrow hat
          obtain ⟨g, cap, rfl⟩ := ownsRow_succ hown'
          have hgQ : Q + 2 ≤ g := (hown'.lt g rfl).1
          have hix : (n : Int) < (n : Int) + 1 := (by omega)
          have hcp := cap_e hown'
          have hnv : some Q ≠ (Value.slice av n cv).ownBlock := fun e => by have := (HM.out.ou.lt Q (by rw [← HN.out]; exact e.symm)).1; omega
          have bx3 : Box1 Q (.slice av n cv) 23 w3 := by
            have h0 : Box1 Q (.slice av n cv) 23 ((W.alloc (.cells [.int .i64 0, .int .i64 0, .string ⟨#[]⟩, .string ⟨#[]⟩, .string ⟨#[]⟩, .string ⟨#[]⟩, .string ⟨#[]⟩, .slice none 0 0, .slice none 0 0, .slice none 0 0, .slice none 0 0].toArray 36)).drew) := by have := HM.out.bp; rw [← HN.out] at this; exact (this.alloc _).drew
            exact (hgrow.block Q (by show Q < (W.alloc _).heap.size; rw [World.size_alloc]; omega) hnv).trans h0
          have kb := bx3.cell
          have fb := bx3.free
          have s0 := cell_e hown' hrl 0 _ rfl (by omega)
          have z0 := hown'.frozenAt (n * 11 + 0)
          have s1 := cell_e hown' hrl 1 _ rfl (by omega)
          have z1 := hown'.frozenAt (n * 11 + 1)
          have s2 := cell_e hown' hrl 2 _ rfl (by omega)
          have z2 := hown'.frozenAt (n * 11 + 2)
          have s3 := cell_e hown' hrl 3 _ rfl (by omega)
          have z3 := hown'.frozenAt (n * 11 + 3)
          have s4 := cell_e hown' hrl 4 _ rfl (by omega)
          have z4 := hown'.frozenAt (n * 11 + 4)
          have s5 := cell_e hown' hrl 5 _ rfl (by omega)
          have z5 := hown'.frozenAt (n * 11 + 5)
          have s6 := cell_e hown' hrl 6 _ rfl (by omega)
          have z6 := hown'.frozenAt (n * 11 + 6)
          have s7 := cell_e hown' hrl 7 _ rfl (by omega)
          have z7 := hown'.frozenAt (n * 11 + 7)
          have s8 := cell_e hown' hrl 8 _ rfl (by omega)
          have z8 := hown'.frozenAt (n * 11 + 8)
          have s9 := cell_e hown' hrl 9 _ rfl (by omega)
          have z9 := hown'.frozenAt (n * 11 + 9)
          have s10 := cell_e hown' hrl 10 _ rfl (by omega)
          have z10 := hown'.frozenAt (n * 11 + 10)
          simp only [Nat.add_zero] at s0 z0
          have PT1 : (KeepsFrom (Q + 2) W ((elv w3 g (n * 11) (.int .i64 kd) (.int .i64 lv) (.string i) (.string t) (.string d) (.string ti) (.string at_.id) (.slice ac nc cc) (.slice ap np cp) (.slice al nl cl) (.slice ak nk ck)).setCell ⟨Q, 0, none⟩ (.slice (some ⟨g, 0, none⟩) (n + 1) cap)) ∧ KpM Q W ((elv w3 g (n * 11) (.int .i64 kd) (.int .i64 lv) (.string i) (.string t) (.string d) (.string ti) (.string at_.id) (.slice ac nc cc) (.slice ap np cp) (.slice al nl cl) (.slice ak nk ck)).setCell ⟨Q, 0, none⟩ (.slice (some ⟨g, 0, none⟩) (n + 1) cap)) ∧ MI S Q w W0 (pre ++ [x]) ((elv w3 g (n * 11) (.int .i64 kd) (.int .i64 lv) (.string i) (.string t) (.string d) (.string ti) (.string at_.id) (.slice ac nc cc) (.slice ap np cp) (.slice al nl cl) (.slice ak nk ck)).setCell ⟨Q, 0, none⟩ (.slice (some ⟨g, 0, none⟩) (n + 1) cap))) ∧ (KeepsFrom (Q + 2) W (elv (w3.setCell ⟨Q, 0, none⟩ (.slice (some ⟨g, 0, none⟩) (n + 1) cap)) g (n * 11) (.int .i64 kd) (.int .i64 lv) (.string i) (.string t) (.string d) (.string ti) (.string at_.id) (.slice ac nc cc) (.slice ap np cp) (.slice al nl cl) (.slice ak nk ck)) ∧ KpM Q W (elv (w3.setCell ⟨Q, 0, none⟩ (.slice (some ⟨g, 0, none⟩) (n + 1) cap)) g (n * 11) (.int .i64 kd) (.int .i64 lv) (.string i) (.string t) (.string d) (.string ti) (.string at_.id) (.slice ac nc cc) (.slice ap np cp) (.slice al nl cl) (.slice ak nk ck)) ∧ MI S Q w W0 (pre ++ [x]) (elv (w3.setCell ⟨Q, 0, none⟩ (.slice (some ⟨g, 0, none⟩) (n + 1) cap)) g (n * 11) (.int .i64 kd) (.int .i64 lv) (.string i) (.string t) (.string d) (.string ti) (.string at_.id) (.slice ac nc cc) (.slice ap np cp) (.slice al nl cl) (.slice ak nk ck))) := by
            have hg1 : W.grownBy ((W.alloc (.cells [.int .i64 0, .int .i64 0, .string ⟨#[]⟩, .string ⟨#[]⟩, .string ⟨#[]⟩, .string ⟨#[]⟩, .string ⟨#[]⟩, .slice none 0 0, .slice none 0 0, .slice none 0 0, .slice none 0 0].toArray 36)).drew) none := grown_drew (World.grownBy_alloc W _ none)
            have go : ∀ w4, (Box1 Q (.slice (some ⟨g, 0, none⟩) (n + 1) cap) 23 w4 ∧ w4.ownsRow (Q + 2) 36 11 (.slice (some ⟨g, 0, none⟩) (n + 1) cap) (n + 1) (rows.flatten ++ [.int .i64 kd, .int .i64 lv, .string i, .string t, .string d, .string ti, .string at_.id, .slice ac nc cc, .slice ap np cp, .slice al nl cl, .slice ak nk ck]) ∧ (∀ b, b ≠ Q → b ≠ g → w4.heap[b]? = w3.heap[b]?) ∧ w4.heap.size = w3.heap.size ∧ (w4.os = w3.os ∧ w4.tape = w3.tape ∧ w4.output = w3.output)) → KeepsFrom (Q + 2) W (w4) ∧ KpM Q W (w4) ∧ MI S Q w W0 (pre ++ [x]) (w4) := by
              rintro w4 ⟨e1, e2, e3, e4, e5⟩
              have hM1 := HM.out
              have hn1 := HN.out
              subst hn1
              have P := MB.push (cs := [.int .i64 kd, .int .i64 lv, .string i, .string t, .string d, .string ti, .string at_.id, .slice ac nc cc, .slice ap np cp, .slice al nl cl, .slice ak nk ck]) hM1 hg1 hown' hgrow hat HRX.out rfl e1 e2 e3 e4 e5 (Q + 2)
              have P1 := P.1
              rw [← HEQ.out] at P1
              exact ⟨P.2.2, P.2.1, _, _, P1⟩
            exact ⟨go _ (two_ab bx3 hown' hrl rfl _ rfl), go _ (two_ba bx3 hown' hrl rfl _ rfl)⟩
          simp only [elv, Nat.add_zero] at PT1
          have PT := Lib.hid PT1
          clear PT1 hown' hgrow hat bx3
          refine hK _ _ ?_
          clear hK K
          (try simp only [Act.put, List.setIfInBounds_toArray, List.set_cons_zero, List.set_cons_succ])
          refine wpAnyIn_ready (rs := [5, 7]) (by kernel_rfl) (by simp) ?_
          refine AllReadyIn.cons rfl (fun K hK => ?_) (AllReadyIn.cons rfl (fun K hK => ?_) AllReadyIn.nil)
          ·
            go_simp
            refine hK _ _ ?_
            clear hK K
            (try simp only [Act.put, List.setIfInBounds_toArray, List.set_cons_zero, List.set_cons_succ])
            refine wpAnyIn_ready (rs := [6, 7]) (by kernel_rfl) (by simp) ?_
            refine AllReadyIn.cons rfl (fun K hK => ?_) (AllReadyIn.cons rfl (fun K hK => ?_) AllReadyIn.nil)
            ·
              go_simp
              refine hK _ _ ?_
              clear hK K
              (try simp only [Act.put, List.setIfInBounds_toArray, List.set_cons_zero, List.set_cons_succ])
              refine wpAnyIn_ready (rs := [7]) (by kernel_rfl) (by simp) ?_
              refine AllReadyIn.cons rfl (fun K hK => ?_) AllReadyIn.nil
              go_simp
              refine hK _ _ ?_
              clear hK K
              (try simp only [Act.put, List.setIfInBounds_toArray, List.set_cons_zero, List.set_cons_succ])
              refine wpAnyIn_done (by kernel_rfl) ?_ _
              gi_wp2_with fail
              change _ ∧ _ ∧ _
              first | with_reducible exact PT.out.1 | with_reducible exact PT.out.2
            ·
              go_simp
              refine hK _ _ ?_
              clear hK K
              (try simp only [Act.put, List.setIfInBounds_toArray, List.set_cons_zero, List.set_cons_succ])
              refine wpAnyIn_ready (rs := [6]) (by kernel_rfl) (by simp) ?_
              refine AllReadyIn.cons rfl (fun K hK => ?_) AllReadyIn.nil
              go_simp
              refine hK _ _ ?_
              clear hK K
              (try simp only [Act.put, List.setIfInBounds_toArray, List.set_cons_zero, List.set_cons_succ])
              refine wpAnyIn_done (by kernel_rfl) ?_ _
              gi_wp2_with fail
              change _ ∧ _ ∧ _
              first | with_reducible exact PT.out.1 | with_reducible exact PT.out.2
          ·
            go_simp
            refine hK _ _ ?_
            clear hK K
            (try simp only [Act.put, List.setIfInBounds_toArray, List.set_cons_zero, List.set_cons_succ])
            refine wpAnyIn_ready (rs := [5]) (by kernel_rfl) (by simp) ?_
            refine AllReadyIn.cons rfl (fun K hK => ?_) AllReadyIn.nil
            go_simp
            refine hK _ _ ?_
            clear hK K
            (try simp only [Act.put, List.setIfInBounds_toArray, List.set_cons_zero, List.set_cons_succ])
            refine wpAnyIn_ready (rs := [6]) (by kernel_rfl) (by simp) ?_
            refine AllReadyIn.cons rfl (fun K hK => ?_) AllReadyIn.nil
            go_simp
            refine hK _ _ ?_
            clear hK K
            (try simp only [Act.put, List.setIfInBounds_toArray, List.set_cons_zero, List.set_cons_succ])
            refine wpAnyIn_done (by kernel_rfl) ?_ _
            gi_wp2_with fail
            change _ ∧ _ ∧ _
            first | with_reducible exact PT.out.1 | with_reducible exact PT.out.2
        ·
          go_simp
          refine hK _ _ ?_
          clear hK K
          (try simp only [Act.put, List.setIfInBounds_toArray, List.set_cons_zero, List.set_cons_succ])
          refine wpAnyIn_ready (rs := [1]) (by kernel_rfl) (by simp) ?_
          refine AllReadyIn.cons rfl (fun K hK => ?_) AllReadyIn.nil
          go_simp
          refine hK _ _ ?_
          clear hK K
          (try simp only [Act.put, List.setIfInBounds_toArray, List.set_cons_zero, List.set_cons_succ])
          refine wpAnyIn_ready (rs := [4]) (by kernel_rfl) (by simp) ?_
          refine AllReadyIn.cons rfl (fun K hK => ?_) AllReadyIn.nil
          refine stepIn_append_at rfl (.tmp 19) (.tmp 22) 23 rfl (Q + 2) 36 i0 _ 11 192 Tryz.underlying23 hi0 hz0 hz1 hz2 rfl (by decide) (.slice av n cv) n rows.flatten rfl (by have := HM.out.ou.drew.alloc (.cells [.int .i64 0, .int .i64 0, .string ⟨#[]⟩, .string ⟨#[]⟩, .string ⟨#[]⟩, .string ⟨#[]⟩, .string ⟨#[]⟩, .slice none 0 0, .slice none 0 0, .slice none 0 0, .slice none 0 0].toArray 36); rw [← HN.out] at this; exact this) ⟨W.heap.size, 0, none⟩ 1 1 [.int .i64 0, .int .i64 0, .string ⟨#[]⟩, .string ⟨#[]⟩, .string ⟨#[]⟩, .string ⟨#[]⟩, .string ⟨#[]⟩, .slice none 0 0, .slice none 0 0, .slice none 0 0, .slice none 0 0] rfl rfl (new_cells W.drew [.int .i64 0, .int .i64 0, .string ⟨#[]⟩, .string ⟨#[]⟩, .string ⟨#[]⟩, .string ⟨#[]⟩, .string ⟨#[]⟩, .slice none 0 0, .slice none 0 0, .slice none 0 0, .slice none 0 0] _) (by simp [Value.oneCell']) (by unfold maxLen; omega) (by omega) (by show Q + 2 ≤ (W.drew.alloc _).heap.size; rw [World.size_alloc]; show Q + 2 ≤ W.heap.size + 1; omega) ?_
          intro v' w3 hown' hgrow hat
          obtain ⟨g, cap, rfl⟩ := ownsRow_succ hown'
          have hgQ : Q + 2 ≤ g := (hown'.lt g rfl).1
          have hix : (n : Int) < (n : Int) + 1 := (by omega)
          have hcp := cap_e hown'
          have hnv : some Q ≠ (Value.slice av n cv).ownBlock := fun e => by have := (HM.out.ou.lt Q (by rw [← HN.out]; exact e.symm)).1; omega
          have bx3 : Box1 Q (.slice av n cv) 23 w3 := by
            have h0 : Box1 Q (.slice av n cv) 23 ((W.alloc (.cells [.int .i64 0, .int .i64 0, .string ⟨#[]⟩, .string ⟨#[]⟩, .string ⟨#[]⟩, .string ⟨#[]⟩, .string ⟨#[]⟩, .slice none 0 0, .slice none 0 0, .slice none 0 0, .slice none 0 0].toArray 36)).drew) := by have := HM.out.bp; rw [← HN.out] at this; exact (this.alloc _).drew
            exact (hgrow.block Q (by show Q < (W.alloc _).heap.size; rw [World.size_alloc]; omega) hnv).trans h0
          have kb := bx3.cell
          have fb := bx3.free
          have s0 := cell_e hown' hrl 0 _ rfl (by omega)
          have z0 := hown'.frozenAt (n * 11 + 0)
          have s1 := cell_e hown' hrl 1 _ rfl (by omega)
          have z1 := hown'.frozenAt (n * 11 + 1)
          have s2 := cell_e hown' hrl 2 _ rfl (by omega)
          have z2 := hown'.frozenAt (n * 11 + 2)
          have s3 := cell_e hown' hrl 3 _ rfl (by omega)
          have z3 := hown'.frozenAt (n * 11 + 3)
          have s4 := cell_e hown' hrl 4 _ rfl (by omega)
          have z4 := hown'.frozenAt (n * 11 + 4)
          have s5 := cell_e hown' hrl 5 _ rfl (by omega)
          have z5 := hown'.frozenAt (n * 11 + 5)
          have s6 := cell_e hown' hrl 6 _ rfl (by omega)
          have z6 := hown'.frozenAt (n * 11 + 6)
          have s7 := cell_e hown' hrl 7 _ rfl (by omega)
          have z7 := hown'.frozenAt (n * 11 + 7)
          have s8 := cell_e hown' hrl 8 _ rfl (by omega)
          have z8 := hown'.frozenAt (n * 11 + 8)
          have s9 := cell_e hown' hrl 9 _ rfl (by omega)
          have z9 := hown'.frozenAt (n * 11 + 9)
          have s10 := cell_e hown' hrl 10 _ rfl (by omega)
          have z10 := hown'.frozenAt (n * 11 + 10)
          simp only [Nat.add_zero] at s0 z0
          have PT1 : (KeepsFrom (Q + 2) W ((elv w3 g (n * 11) (.int .i64 kd) (.int .i64 lv) (.string i) (.string t) (.string d) (.string ti) (.string at_.id) (.slice ac nc cc) (.slice ap np cp) (.slice al nl cl) (.slice ak nk ck)).setCell ⟨Q, 0, none⟩ (.slice (some ⟨g, 0, none⟩) (n + 1) cap)) ∧ KpM Q W ((elv w3 g (n * 11) (.int .i64 kd) (.int .i64 lv) (.string i) (.string t) (.string d) (.string ti) (.string at_.id) (.slice ac nc cc) (.slice ap np cp) (.slice al nl cl) (.slice ak nk ck)).setCell ⟨Q, 0, none⟩ (.slice (some ⟨g, 0, none⟩) (n + 1) cap)) ∧ MI S Q w W0 (pre ++ [x]) ((elv w3 g (n * 11) (.int .i64 kd) (.int .i64 lv) (.string i) (.string t) (.string d) (.string ti) (.string at_.id) (.slice ac nc cc) (.slice ap np cp) (.slice al nl cl) (.slice ak nk ck)).setCell ⟨Q, 0, none⟩ (.slice (some ⟨g, 0, none⟩) (n + 1) cap))) ∧ (KeepsFrom (Q + 2) W (elv (w3.setCell ⟨Q, 0, none⟩ (.slice (some ⟨g, 0, none⟩) (n + 1) cap)) g (n * 11) (.int .i64 kd) (.int .i64 lv) (.string i) (.string t) (.string d) (.string ti) (.string at_.id) (.slice ac nc cc) (.slice ap np cp) (.slice al nl cl) (.slice ak nk ck)) ∧ KpM Q W (elv (w3.setCell ⟨Q, 0, none⟩ (.slice (some ⟨g, 0, none⟩) (n + 1) cap)) g (n * 11) (.int .i64 kd) (.int .i64 lv) (.string i) (.string t) (.string d) (.string ti) (.string at_.id) (.slice ac nc cc) (.slice ap np cp) (.slice al nl cl) (.slice ak nk ck)) ∧ MI S Q w W0 (pre ++ [x]) (elv (w3.setCell ⟨Q, 0, none⟩ (.slice (some ⟨g, 0, none⟩) (n + 1) cap)) g (n * 11) (.int .i64 kd) (.int .i64 lv) (.string i) (.string t) (.string d) (.string ti) (.string at_.id) (.slice ac nc cc) (.slice ap np cp) (.slice al nl cl) (.slice ak nk ck))) := by
            have hg1 : W.grownBy ((W.alloc (.cells [.int .i64 0, .int .i64 0, .string ⟨#[]⟩, .string ⟨#[]⟩, .string ⟨#[]⟩, .string ⟨#[]⟩, .string ⟨#[]⟩, .slice none 0 0, .slice none 0 0, .slice none 0 0, .slice none 0 0].toArray 36)).drew) none := grown_drew (World.grownBy_alloc W _ none)
            have go : ∀ w4, (Box1 Q (.slice (some ⟨g, 0, none⟩) (n + 1) cap) 23 w4 ∧ w4.ownsRow (Q + 2) 36 11 (.slice (some ⟨g, 0, none⟩) (n + 1) cap) (n + 1) (rows.flatten ++ [.int .i64 kd, .int .i64 lv, .string i, .string t, .string d, .string ti, .string at_.id, .slice ac nc cc, .slice ap np cp, .slice al nl cl, .slice ak nk ck]) ∧ (∀ b, b ≠ Q → b ≠ g → w4.heap[b]? = w3.heap[b]?) ∧ w4.heap.size = w3.heap.size ∧ (w4.os = w3.os ∧ w4.tape = w3.tape ∧ w4.output = w3.output)) → KeepsFrom (Q + 2) W (w4) ∧ KpM Q W (w4) ∧ MI S Q w W0 (pre ++ [x]) (w4) := by
              rintro w4 ⟨e1, e2, e3, e4, e5⟩
              have hM1 := HM.out
              have hn1 := HN.out
              subst hn1
              have P := MB.push (cs := [.int .i64 kd, .int .i64 lv, .string i, .string t, .string d, .string ti, .string at_.id, .slice ac nc cc, .slice ap np cp, .slice al nl cl, .slice ak nk ck]) hM1 hg1 hown' hgrow hat HRX.out rfl e1 e2 e3 e4 e5 (Q + 2)
              have P1 := P.1
              rw [← HEQ.out] at P1
              exact ⟨P.2.2, P.2.1, _, _, P1⟩
            exact ⟨go _ (two_ab bx3 hown' hrl rfl _ rfl), go _ (two_ba bx3 hown' hrl rfl _ rfl)⟩
          simp only [elv, Nat.add_zero] at PT1
          have PT := Lib.hid PT1
          clear PT1 hown' hgrow hat bx3
          refine hK _ _ ?_
          clear hK K
          (try simp only [Act.put, List.setIfInBounds_toArray, List.set_cons_zero, List.set_cons_succ])
          refine wpAnyIn_ready (rs := [5, 7]) (by kernel_rfl) (by simp) ?_
          refine AllReadyIn.cons rfl (fun K hK => ?_) (AllReadyIn.cons rfl (fun K hK => ?_) AllReadyIn.nil)
          ·
            go_simp
            refine hK _ _ ?_
            clear hK K
            (try simp only [Act.put, List.setIfInBounds_toArray, List.set_cons_zero, List.set_cons_succ])
            refine wpAnyIn_ready (rs := [6, 7]) (by kernel_rfl) (by simp) ?_
            refine AllReadyIn.cons rfl (fun K hK => ?_) (AllReadyIn.cons rfl (fun K hK => ?_) AllReadyIn.nil)
            ·
              go_simp
              refine hK _ _ ?_
              clear hK K
              (try simp only [Act.put, List.setIfInBounds_toArray, List.set_cons_zero, List.set_cons_succ])
              refine wpAnyIn_ready (rs := [7]) (by kernel_rfl) (by simp) ?_
              refine AllReadyIn.cons rfl (fun K hK => ?_) AllReadyIn.nil
              go_simp
              refine hK _ _ ?_
              clear hK K
              (try simp only [Act.put, List.setIfInBounds_toArray, List.set_cons_zero, List.set_cons_succ])
              refine wpAnyIn_done (by kernel_rfl) ?_ _
              gi_wp2_with fail
              change _ ∧ _ ∧ _
              first | with_reducible exact PT.out.1 | with_reducible exact PT.out.2
            ·
              go_simp
              refine hK _ _ ?_
              clear hK K
              (try simp only [Act.put, List.setIfInBounds_toArray, List.set_cons_zero, List.set_cons_succ])
              refine wpAnyIn_ready (rs := [6]) (by kernel_rfl) (by simp) ?_
              refine AllReadyIn.cons rfl (fun K hK => ?_) AllReadyIn.nil
              go_simp
              refine hK _ _ ?_
              clear hK K
              (try simp only [Act.put, List.setIfInBounds_toArray, List.set_cons_zero, List.set_cons_succ])
              refine wpAnyIn_done (by kernel_rfl) ?_ _
              gi_wp2_with fail
              change _ ∧ _ ∧ _
              first | with_reducible exact PT.out.1 | with_reducible exact PT.out.2
          ·
            go_simp
            refine hK _ _ ?_
            clear hK K
            (try simp only [Act.put, List.setIfInBounds_toArray, List.set_cons_zero, List.set_cons_succ])
            refine wpAnyIn_ready (rs := [5]) (by kernel_rfl) (by simp) ?_
            refine AllReadyIn.cons rfl (fun K hK => ?_) AllReadyIn.nil
            go_simp
            refine hK _ _ ?_
            clear hK K
            (try simp only [Act.put, List.setIfInBounds_toArray, List.set_cons_zero, List.set_cons_succ])
            refine wpAnyIn_ready (rs := [6]) (by kernel_rfl) (by simp) ?_
            refine AllReadyIn.cons rfl (fun K hK => ?_) AllReadyIn.nil
            go_simp
            refine hK _ _ ?_
            clear hK K
            (try simp only [Act.put, List.setIfInBounds_toArray, List.set_cons_zero, List.set_cons_succ])
            refine wpAnyIn_done (by kernel_rfl) ?_ _
            gi_wp2_with fail
            change _ ∧ _ ∧ _
            first | with_reducible exact PT.out.1 | with_reducible exact PT.out.2
      ·
        go_simp
        refine hK _ _ ?_
        clear hK K
        (try simp only [Act.put, List.setIfInBounds_toArray, List.set_cons_zero, List.set_cons_succ])
        refine wpAnyIn_ready (rs := [0]) (by kernel_rfl) (by simp) ?_
        refine AllReadyIn.cons rfl (fun K hK => ?_) AllReadyIn.nil
        go_simp
        refine hK _ _ ?_
        clear hK K
        (try simp only [Act.put, List.setIfInBounds_toArray, List.set_cons_zero, List.set_cons_succ])
        refine wpAnyIn_ready (rs := [2]) (by kernel_rfl) (by simp) ?_
        refine AllReadyIn.cons rfl (fun K hK => ?_) AllReadyIn.nil
        go_simp
        refine hK _ _ ?_
        clear hK K
        (try simp only [Act.put, List.setIfInBounds_toArray, List.set_cons_zero, List.set_cons_succ])
        refine wpAnyIn_ready (rs := [4]) (by kernel_rfl) (by simp) ?_
        refine AllReadyIn.cons rfl (fun K hK => ?_) AllReadyIn.nil
        refine stepIn_append_at rfl (.tmp 19) (.tmp 22) 23 rfl (Q + 2) 36 i0 _ 11 192 Tryz.underlying23 hi0 hz0 hz1 hz2 rfl (by decide) (.slice av n cv) n rows.flatten rfl (by have := HM.out.ou.drew.alloc (.cells [.int .i64 0, .int .i64 0, .string ⟨#[]⟩, .string ⟨#[]⟩, .string ⟨#[]⟩, .string ⟨#[]⟩, .string ⟨#[]⟩, .slice none 0 0, .slice none 0 0, .slice none 0 0, .slice none 0 0].toArray 36); rw [← HN.out] at this; exact this) ⟨W.heap.size, 0, none⟩ 1 1 [.int .i64 0, .int .i64 0, .string ⟨#[]⟩, .string ⟨#[]⟩, .string ⟨#[]⟩, .string ⟨#[]⟩, .string ⟨#[]⟩, .slice none 0 0, .slice none 0 0, .slice none 0 0, .slice none 0 0] rfl rfl (new_cells W.drew [.int .i64 0, .int .i64 0, .string ⟨#[]⟩, .string ⟨#[]⟩, .string ⟨#[]⟩, .string ⟨#[]⟩, .string ⟨#[]⟩, .slice none 0 0, .slice none 0 0, .slice none 0 0, .slice none 0 0] _) (by simp [Value.oneCell']) (by unfold maxLen; omega) (by omega) (by show Q + 2 ≤ (W.drew.alloc _).heap.size; rw [World.size_alloc]; show Q + 2 ≤ W.heap.size + 1; omega) ?_
        intro v' w3 hown' hgrow hat
        obtain ⟨g, cap, rfl⟩ := ownsRow_succ hown'
        have hgQ : Q + 2 ≤ g := (hown'.lt g rfl).1
        have hix : (n : Int) < (n : Int) + 1 := (by omega)
        have hcp := cap_e hown'
        have hnv : some Q ≠ (Value.slice av n cv).ownBlock := fun e => by have := (HM.out.ou.lt Q (by rw [← HN.out]; exact e.symm)).1; omega
        have bx3 : Box1 Q (.slice av n cv) 23 w3 := by
          have h0 : Box1 Q (.slice av n cv) 23 ((W.alloc (.cells [.int .i64 0, .int .i64 0, .string ⟨#[]⟩, .string ⟨#[]⟩, .string ⟨#[]⟩, .string ⟨#[]⟩, .string ⟨#[]⟩, .slice none 0 0, .slice none 0 0, .slice none 0 0, .slice none 0 0].toArray 36)).drew) := by have := HM.out.bp; rw [← HN.out] at this; exact (this.alloc _).drew
          exact (hgrow.block Q (by show Q < (W.alloc _).heap.size; rw [World.size_alloc]; omega) hnv).trans h0
        have kb := bx3.cell
        have fb := bx3.free
        have s0 := cell_e hown' hrl 0 _ rfl (by omega)
        have z0 := hown'.frozenAt (n * 11 + 0)
        have s1 := cell_e hown' hrl 1 _ rfl (by omega)
        have z1 := hown'.frozenAt (n * 11 + 1)
        have s2 := cell_e hown' hrl 2 _ rfl (by omega)
        have z2 := hown'.frozenAt (n * 11 + 2)
        have s3 := cell_e hown' hrl 3 _ rfl (by omega)
        have z3 := hown'.frozenAt (n * 11 + 3)
        have s4 := cell_e hown' hrl 4 _ rfl (by omega)
        have z4 := hown'.frozenAt (n * 11 + 4)
        have s5 := cell_e hown' hrl 5 _ rfl (by omega)
        have z5 := hown'.frozenAt (n * 11 + 5)
        have s6 := cell_e hown' hrl 6 _ rfl (by omega)
        have z6 := hown'.frozenAt (n * 11 + 6)
        have s7 := cell_e hown' hrl 7 _ rfl (by omega)
        have z7 := hown'.frozenAt (n * 11 + 7)
        have s8 := cell_e hown' hrl 8 _ rfl (by omega)
        have z8 := hown'.frozenAt (n * 11 + 8)
        have s9 := cell_e hown' hrl 9 _ rfl (by omega)
        have z9 := hown'.frozenAt (n * 11 + 9)
        have s10 := cell_e hown' hrl 10 _ rfl (by omega)
        have z10 := hown'.frozenAt (n * 11 + 10)
        simp only [Nat.add_zero] at s0 z0
        have PT1 : (KeepsFrom (Q + 2) W ((elv w3 g (n * 11) (.int .i64 kd) (.int .i64 lv) (.string i) (.string t) (.string d) (.string ti) (.string at_.id) (.slice ac nc cc) (.slice ap np cp) (.slice al nl cl) (.slice ak nk ck)).setCell ⟨Q, 0, none⟩ (.slice (some ⟨g, 0, none⟩) (n + 1) cap)) ∧ KpM Q W ((elv w3 g (n * 11) (.int .i64 kd) (.int .i64 lv) (.string i) (.string t) (.string d) (.string ti) (.string at_.id) (.slice ac nc cc) (.slice ap np cp) (.slice al nl cl) (.slice ak nk ck)).setCell ⟨Q, 0, none⟩ (.slice (some ⟨g, 0, none⟩) (n + 1) cap)) ∧ MI S Q w W0 (pre ++ [x]) ((elv w3 g (n * 11) (.int .i64 kd) (.int .i64 lv) (.string i) (.string t) (.string d) (.string ti) (.string at_.id) (.slice ac nc cc) (.slice ap np cp) (.slice al nl cl) (.slice ak nk ck)).setCell ⟨Q, 0, none⟩ (.slice (some ⟨g, 0, none⟩) (n + 1) cap))) ∧ (KeepsFrom (Q + 2) W (elv (w3.setCell ⟨Q, 0, none⟩ (.slice (some ⟨g, 0, none⟩) (n + 1) cap)) g (n * 11) (.int .i64 kd) (.int .i64 lv) (.string i) (.string t) (.string d) (.string ti) (.string at_.id) (.slice ac nc cc) (.slice ap np cp) (.slice al nl cl) (.slice ak nk ck)) ∧ KpM Q W (elv (w3.setCell ⟨Q, 0, none⟩ (.slice (some ⟨g, 0, none⟩) (n + 1) cap)) g (n * 11) (.int .i64 kd) (.int .i64 lv) (.string i) (.string t) (.string d) (.string ti) (.string at_.id) (.slice ac nc cc) (.slice ap np cp) (.slice al nl cl) (.slice ak nk ck)) ∧ MI S Q w W0 (pre ++ [x]) (elv (w3.setCell ⟨Q, 0, none⟩ (.slice (some ⟨g, 0, none⟩) (n + 1) cap)) g (n * 11) (.int .i64 kd) (.int .i64 lv) (.string i) (.string t) (.string d) (.string ti) (.string at_.id) (.slice ac nc cc) (.slice ap np cp) (.slice al nl cl) (.slice ak nk ck))) := by
          have hg1 : W.grownBy ((W.alloc (.cells [.int .i64 0, .int .i64 0, .string ⟨#[]⟩, .string ⟨#[]⟩, .string ⟨#[]⟩, .string ⟨#[]⟩, .string ⟨#[]⟩, .slice none 0 0, .slice none 0 0, .slice none 0 0, .slice none 0 0].toArray 36)).drew) none := grown_drew (World.grownBy_alloc W _ none)
          have go : ∀ w4, (Box1 Q (.slice (some ⟨g, 0, none⟩) (n + 1) cap) 23 w4 ∧ w4.ownsRow (Q + 2) 36 11 (.slice (some ⟨g, 0, none⟩) (n + 1) cap) (n + 1) (rows.flatten ++ [.int .i64 kd, .int .i64 lv, .string i, .string t, .string d, .string ti, .string at_.id, .slice ac nc cc, .slice ap np cp, .slice al nl cl, .slice ak nk ck]) ∧ (∀ b, b ≠ Q → b ≠ g → w4.heap[b]? = w3.heap[b]?) ∧ w4.heap.size = w3.heap.size ∧ (w4.os = w3.os ∧ w4.tape = w3.tape ∧ w4.output = w3.output)) → KeepsFrom (Q + 2) W (w4) ∧ KpM Q W (w4) ∧ MI S Q w W0 (pre ++ [x]) (w4) := by
            rintro w4 ⟨e1, e2, e3, e4, e5⟩
            have hM1 := HM.out
            have hn1 := HN.out
            subst hn1
            have P := MB.push (cs := [.int .i64 kd, .int .i64 lv, .string i, .string t, .string d, .string ti, .string at_.id, .slice ac nc cc, .slice ap np cp, .slice al nl cl, .slice ak nk ck]) hM1 hg1 hown' hgrow hat HRX.out rfl e1 e2 e3 e4 e5 (Q + 2)
            have P1 := P.1
            rw [← HEQ.out] at P1
            exact ⟨P.2.2, P.2.1, _, _, P1⟩
          exact ⟨go _ (two_ab bx3 hown' hrl rfl _ rfl), go _ (two_ba bx3 hown' hrl rfl _ rfl)⟩
        simp only [elv, Nat.add_zero] at PT1
        have PT := Lib.hid PT1
        clear PT1 hown' hgrow hat bx3
        refine hK _ _ ?_
        clear hK K
        (try simp only [Act.put, List.setIfInBounds_toArray, List.set_cons_zero, List.set_cons_succ])
        refine wpAnyIn_ready (rs := [5, 7]) (by kernel_rfl) (by simp) ?_
        refine AllReadyIn.cons rfl (fun K hK => ?_) (AllReadyIn.cons rfl (fun K hK => ?_) AllReadyIn.nil)
        ·
          go_simp
          refine hK _ _ ?_
          clear hK K
          (try simp only [Act.put, List.setIfInBounds_toArray, List.set_cons_zero, List.set_cons_succ])
          refine wpAnyIn_ready (rs := [6, 7]) (by kernel_rfl) (by simp) ?_
          refine AllReadyIn.cons rfl (fun K hK => ?_) (AllReadyIn.cons rfl (fun K hK => ?_) AllReadyIn.nil)
          ·
            go_simp
            refine hK _ _ ?_
            clear hK K
            (try simp only [Act.put, List.setIfInBounds_toArray, List.set_cons_zero, List.set_cons_succ])
            refine wpAnyIn_ready (rs := [7]) (by kernel_rfl) (by simp) ?_
            refine AllReadyIn.cons rfl (fun K hK => ?_) AllReadyIn.nil
            go_simp
            refine hK _ _ ?_
            clear hK K
            (try simp only [Act.put, List.setIfInBounds_toArray, List.set_cons_zero, List.set_cons_succ])
            refine wpAnyIn_done (by kernel_rfl) ?_ _
            gi_wp2_with fail
            change _ ∧ _ ∧ _
            first | with_reducible exact PT.out.1 | with_reducible exact PT.out.2
          ·
            go_simp
            refine hK _ _ ?_
            clear hK K
            (try simp only [Act.put, List.setIfInBounds_toArray, List.set_cons_zero, List.set_cons_succ])
            refine wpAnyIn_ready (rs := [6]) (by kernel_rfl) (by simp) ?_
            refine AllReadyIn.cons rfl (fun K hK => ?_) AllReadyIn.nil
            go_simp
            refine hK _ _ ?_
            clear hK K
            (try simp only [Act.put, List.setIfInBounds_toArray, List.set_cons_zero, List.set_cons_succ])
            refine wpAnyIn_done (by kernel_rfl) ?_ _
            gi_wp2_with fail
            change _ ∧ _ ∧ _
            first | with_reducible exact PT.out.1 | with_reducible exact PT.out.2
        ·
          go_simp
          refine hK _ _ ?_
          clear hK K
          (try simp only [Act.put, List.setIfInBounds_toArray, List.set_cons_zero, List.set_cons_succ])
          refine wpAnyIn_ready (rs := [5]) (by kernel_rfl) (by simp) ?_
          refine AllReadyIn.cons rfl (fun K hK => ?_) AllReadyIn.nil
          go_simp
          refine hK _ _ ?_
          clear hK K
          (try simp only [Act.put, List.setIfInBounds_toArray, List.set_cons_zero, List.set_cons_succ])
          refine wpAnyIn_ready (rs := [6]) (by kernel_rfl) (by simp) ?_
          refine AllReadyIn.cons rfl (fun K hK => ?_) AllReadyIn.nil
          go_simp
          refine hK _ _ ?_
          clear hK K
          (try simp only [Act.put, List.setIfInBounds_toArray, List.set_cons_zero, List.set_cons_succ])
          refine wpAnyIn_done (by kernel_rfl) ?_ _
          gi_wp2_with fail
          change _ ∧ _ ∧ _
          first | with_reducible exact PT.out.1 | with_reducible exact PT.out.2
  case done =>
    rintro D pre W hD hpre ⟨v, rows, hM⟩ hK
    rw [hpre] at hM
    have hz := hM.size
    have hbl : Below S w W := ⟨hM.os.trans bl0.os, hM.tape.trans bl0.tape, hM.output.trans bl0.output, by have := HSS.out; omega, fun b hb => (hM.blk b (by omega) (by omega)).trans (bl0.block b hb)⟩
    have hst : ∀ b, b < S → b < w.heap.size → b < W.heap.size ∧ W.heap[b]? = w.heap[b]? := fun b h1 h2 => ⟨by omega, hbl.block b h1⟩
    obtain ⟨av, cv, rfl⟩ := own_slice hM.ou
    have U0 : Us S Q D me l (.slice am nm cm) (.slice ab nb cb) (.slice av (Blk.eachL l).length cv) w W := by
      refine ⟨⟨(hM.blk S (by omega) (by omega)).trans T0.out.k1, Rd.keep hst _ _ HMM.out, Rd.keep hst _ _ HB.out, by rw [← HSS.out]; exact hbl⟩, hM.bp, ?_, hK⟩
      have ho := hM.ou
      exact Rd.sl_own (rows := rows) (B := Q + 2) (e := 36) (by rw [List.length_map]; exact ho) (RdL.keep (fun b h1 h2 => hst b h1 h2) _ _ hM.rd) hM.r11 (fun g hg => (ho.lt g hg).2)
    have HU := Lib.hid U0
    have hlen : (Blk.eachL l).length = Blk.szL l := Blk.eachL_eq l
    have hq : (((Blk.allL l : Nat) : Int) != (((Blk.eachL l).length : Nat) : Int) + (((Blk.inlsL l).length : Nat) : Int)) = false := by rw [bne_eq_false_iff_eq]; omega
    have hle1 : (Blk.eachL l).length ≤ 120 := by omega
    have hle2 : (Blk.inlsL l).length ≤ 120 := by omega
    have hwp : IntKind.i64.wrap ((((Blk.eachL l).length : Nat) : Int) + (((Blk.inlsL l).length : Nat) : Int)) = (((Blk.eachL l).length : Nat) : Int) + (((Blk.inlsL l).length : Nat) : Int) := IntWalk.i64_in _ ⟨by omega, by omega⟩
    have hq : (((Blk.allL l : Nat) : Int) != IntKind.i64.wrap ((((Blk.eachL l).length : Nat) : Int) + (((Blk.inlsL l).length : Nat) : Int))) = false := by rw [hwp]; exact hq
    clear hwp
    have hsml := HSA.out.blks
    have hbd := Blk.bdL_sm l hsml
    have HDQ : Hid (Q + 2 ≤ D ∧ S < Q) := ⟨by omega, hSQ⟩
    clear hM hK hbl hst U0 hpre hz hlen
    obtain ⟨x0, x1, x2⟩ := HU.out.all
    have IA := Lib.hid (rInls_any l _ W (by omega) (by omega) HU.out.ds.b1)
    go_wp2_with fail
    refine IA.out.mono ?_
    rintro e wB ⟨vl, rfl, hl, bB⟩
    obtain ⟨la, lc, hvl, -⟩ := Rd.sl_open hl
    obtain rfl : vl = .slice la (Blk.inlsL l).length lc := by simpa using hvl
    have UB := Lib.hid (HU.out.next bB)
    have LB1 := Lib.hid hl
    clear x0 x1 x2 IA hl hvl bB
    have RLs : Hid (∀ w', (w'.cell? ⟨S, 0, none⟩ = some (.slice am nm cm) ∧ w'.cell? ⟨S, 1, none⟩ = some (.slice ab nb cb) ∧ w'.cell? ⟨Q, 0, none⟩ = some (.slice av (Blk.eachL l).length cv) ∧ Us S Q D me l (.slice am nm cm) (.slice ab nb cb) (.slice av (Blk.eachL l).length cv) w w' ∧ Rd (· < w'.heap.size) w' (inlsD (Blk.inlsL l)) [.slice la (Blk.inlsL l).length lc]) → Calls Tryz.prog 30 #[.slice ab nb cb] w' fun e w'' => ∃ v', e = .returned v' ∧ Rd (· < w''.heap.size) w'' (blksD (Blk.eachL l)) [v'] ∧ Below w'.heap.size w' w'') := fun w' h => (list_any _ l w'.heap.size _ w' (Nat.le_refl _) (by omega) h.2.2.2.1.ds.b1 (Nat.le_refl _)).mono fun e w'' ⟨v', rows, h1, h2⟩ => ⟨v', h1, Rd.sl_own (rows := rows) (B := w'.heap.size) (e := 36) h2.own (RdL.keep (fun b hb h3 => ⟨h3, rfl⟩) _ _ h2.red) h2.len (fun g hg => (h2.own.lt g hg).2), h2.bel⟩
    have SBk : Hid (∀ w', (w'.cell? ⟨S, 0, none⟩ = some (.slice am nm cm) ∧ w'.cell? ⟨S, 1, none⟩ = some (.slice ab nb cb) ∧ w'.cell? ⟨Q, 0, none⟩ = some (.slice av (Blk.eachL l).length cv) ∧ Us S Q D me l (.slice am nm cm) (.slice ab nb cb) (.slice av (Blk.eachL l).length cv) w w' ∧ Rd (· < w'.heap.size) w' (inlsD (Blk.inlsL l)) [.slice la (Blk.inlsL l).length lc]) → ∀ v', Rd (· < w'.heap.size) w' (blksD (Blk.eachL l)) [v'] → Calls Tryz.prog 22 #[.slice av (Blk.eachL l).length cv, v'] w' fun e w'' => e = .returned (.bool true) ∧ Below w'.heap.size w' w'') := fun w' h v' hv => (sameBlocks_any _ (Blk.eachL l) (Blk.eachL l) _ _ w' (Nat.le_refl _) h.2.2.2.1.al hv).mono fun e w'' ⟨b, h1, h2, h3⟩ => ⟨by rw [h1, h2.2 rfl], h3⟩
    have TIn : Hid (∀ w', (w'.cell? ⟨S, 0, none⟩ = some (.slice am nm cm) ∧ w'.cell? ⟨S, 1, none⟩ = some (.slice ab nb cb) ∧ w'.cell? ⟨Q, 0, none⟩ = some (.slice av (Blk.eachL l).length cv) ∧ Us S Q D me l (.slice am nm cm) (.slice ab nb cb) (.slice av (Blk.eachL l).length cv) w w' ∧ Rd (· < w'.heap.size) w' (inlsD (Blk.inlsL l)) [.slice la (Blk.inlsL l).length lc]) → Calls Tryz.prog 31 #[.slice ab nb cb] w' fun e w'' => ∃ v', e = .returned v' ∧ Rd (· < w''.heap.size) w'' (inlsD (Blk.inlsL l)) [v'] ∧ Below w'.heap.size w' w'') := fun w' h => (inlines_any l _ w' h.2.2.2.1.ds.b1 hbd (by omega) (by omega)).mono fun e w'' ⟨v', rows, h1, h2, h3, h4, h5⟩ => ⟨v', h1, Rd.sl_own (rows := rows) (B := w'.heap.size) (e := 58) (by rw [List.length_map]; exact h2) (RdL.keep (fun b hb h6 => ⟨h6, rfl⟩) _ _ h3) h4 (fun g hg => (h2.lt g hg).2), h5⟩
    have SLn : Hid (∀ w', (w'.cell? ⟨S, 0, none⟩ = some (.slice am nm cm) ∧ w'.cell? ⟨S, 1, none⟩ = some (.slice ab nb cb) ∧ w'.cell? ⟨Q, 0, none⟩ = some (.slice av (Blk.eachL l).length cv) ∧ Us S Q D me l (.slice am nm cm) (.slice ab nb cb) (.slice av (Blk.eachL l).length cv) w w' ∧ Rd (· < w'.heap.size) w' (inlsD (Blk.inlsL l)) [.slice la (Blk.inlsL l).length lc]) → ∀ v', Rd (· < w'.heap.size) w' (inlsD (Blk.inlsL l)) [v'] → Calls Tryz.prog 24 #[v', .slice la (Blk.inlsL l).length lc] w' fun e w'' => e = .returned (.bool true) ∧ Below w'.heap.size w' w'') := fun w' h v' hv => (sameLine_any _ (Blk.inlsL l) (Blk.inlsL l) _ _ w' (Nat.le_refl _) hv h.2.2.2.2).mono fun e w'' ⟨b, h1, h2, h3⟩ => ⟨by rw [h1, h2.2 rfl], h3⟩
    have TSz : Hid (∀ w', (w'.cell? ⟨S, 0, none⟩ = some (.slice am nm cm) ∧ w'.cell? ⟨S, 1, none⟩ = some (.slice ab nb cb) ∧ w'.cell? ⟨Q, 0, none⟩ = some (.slice av (Blk.eachL l).length cv) ∧ Us S Q D me l (.slice am nm cm) (.slice ab nb cb) (.slice av (Blk.eachL l).length cv) w w' ∧ Rd (· < w'.heap.size) w' (inlsD (Blk.inlsL l)) [.slice la (Blk.inlsL l).length lc]) → Calls Tryz.prog 28 #[.agg #[.slice am nm cm, .slice ab nb cb]] w' fun e w'' => e = .returned (.int .i64 ((Blk.allL l : Nat) : Int)) ∧ Below w'.heap.size w' w'') := fun w' h => tSize_any l am ab nm cm nb cb w' (by omega) h.2.2.2.1.ds.b1
    have RSz : Hid (∀ w', (w'.cell? ⟨S, 0, none⟩ = some (.slice am nm cm) ∧ w'.cell? ⟨S, 1, none⟩ = some (.slice ab nb cb) ∧ w'.cell? ⟨Q, 0, none⟩ = some (.slice av (Blk.eachL l).length cv) ∧ Us S Q D me l (.slice am nm cm) (.slice ab nb cb) (.slice av (Blk.eachL l).length cv) w w' ∧ Rd (· < w'.heap.size) w' (inlsD (Blk.inlsL l)) [.slice la (Blk.inlsL l).length lc]) → Calls Tryz.prog 33 #[.agg #[.slice am nm cm, .slice ab nb cb]] w' fun e w'' => e = .returned (.int .i64 ((Blk.allL l : Nat) : Int)) ∧ Below w'.heap.size w' w'') := fun w' h => rSize_any l am ab nm cm nb cb w' (by omega) h.2.2.2.1.ds.b1
    have TDp : Hid (∀ w', (w'.cell? ⟨S, 0, none⟩ = some (.slice am nm cm) ∧ w'.cell? ⟨S, 1, none⟩ = some (.slice ab nb cb) ∧ w'.cell? ⟨Q, 0, none⟩ = some (.slice av (Blk.eachL l).length cv) ∧ Us S Q D me l (.slice am nm cm) (.slice ab nb cb) (.slice av (Blk.eachL l).length cv) w w' ∧ Rd (· < w'.heap.size) w' (inlsD (Blk.inlsL l)) [.slice la (Blk.inlsL l).length lc]) → Calls Tryz.prog 34 #[.slice ab nb cb] w' fun e w'' => e = .returned (.int .i64 ((Blk.depL l : Nat) : Int)) ∧ Below w'.heap.size w' w'') := fun w' h => (tDepth_any _ l _ _ w' (Nat.le_refl _) (by omega) h.2.2.2.1.ds.b1).mono fun e w'' h1 => ⟨h1.1, by rw [← h1.2]; exact Below.refl _ _⟩
    have RDp : Hid (∀ w', (w'.cell? ⟨S, 0, none⟩ = some (.slice am nm cm) ∧ w'.cell? ⟨S, 1, none⟩ = some (.slice ab nb cb) ∧ w'.cell? ⟨Q, 0, none⟩ = some (.slice av (Blk.eachL l).length cv) ∧ Us S Q D me l (.slice am nm cm) (.slice ab nb cb) (.slice av (Blk.eachL l).length cv) w w' ∧ Rd (· < w'.heap.size) w' (inlsD (Blk.inlsL l)) [.slice la (Blk.inlsL l).length lc]) → Calls Tryz.prog 35 #[.slice ab nb cb] w' fun e w'' => e = .returned (.int .i64 ((Blk.depL l : Nat) : Int)) ∧ Below w'.heap.size w' w'') := fun w' h => (rDepth_any _ l _ _ w' (Nat.le_refl _) (by omega) h.2.2.2.1.ds.b1).mono fun e w'' h1 => ⟨h1.1, by rw [← h1.2]; exact Below.refl _ _⟩
    have SD := Lib.hid (UB.out.step LB1.out)
    go_upto_region 11 with (fail)
    have SDa := SD.out
    go_region_held3 (fun w' => w'.cell? ⟨S, 0, none⟩ = some (.slice am nm cm) ∧ w'.cell? ⟨S, 1, none⟩ = some (.slice ab nb cb) ∧ w'.cell? ⟨Q, 0, none⟩ = some (.slice av (Blk.eachL l).length cv) ∧ Us S Q D me l (.slice am nm cm) (.slice ab nb cb) (.slice av (Blk.eachL l).length cv) w w' ∧ Rd (· < w'.heap.size) w' (inlsD (Blk.inlsL l)) [.slice la (Blk.inlsL l).length lc]) (first | exact Us.go (by assumption) hbb | exact SDa)
      (first
        | (go_simp; go_at_call 30; (with_reducible refine (RLs.out _ (by assumption)).mono ?_); rintro e wZ ⟨vL, rfl, hL, hbb⟩)
        | (go_simp; go_at_call 22; (with_reducible refine (SBk.out _ (by assumption) _ hL).mono ?_); rintro e wZ ⟨rfl, hbb⟩)
        | (go_simp; go_at_call 31; (with_reducible refine (TIn.out _ (by assumption)).mono ?_); rintro e wZ ⟨vI, rfl, hI, hbb⟩)
        | (go_simp; go_at_call 24; (with_reducible refine (SLn.out _ (by assumption) _ hI).mono ?_); rintro e wZ ⟨rfl, hbb⟩)
        | (go_simp; go_at_call 28; (with_reducible refine (TSz.out _ (by assumption)).mono ?_); rintro e wZ ⟨rfl, hbb⟩))
    clear SDa
    have SE : Hid (wZ.cell? ⟨S, 0, none⟩ = some (.slice am nm cm) ∧ wZ.cell? ⟨S, 1, none⟩ = some (.slice ab nb cb) ∧ wZ.cell? ⟨Q, 0, none⟩ = some (.slice av (Blk.eachL l).length cv) ∧ Us S Q D me l (.slice am nm cm) (.slice ab nb cb) (.slice av (Blk.eachL l).length cv) w wZ ∧ Rd (· < wZ.heap.size) wZ (inlsD (Blk.inlsL l)) [.slice la (Blk.inlsL l).length lc]) := Lib.hid (by assumption)
    have HHS := Lib.hid hsml
    clear SD UB LB1 RLs SBk TIn SLn hbd
    go_wp2
    clear hq
    go_loopw [7] (fun vi wr => ∃ k : Nat, k ≤ (Blk.eachL l).length ∧ vi = .int .i64 k ∧ wr.cell? ⟨S, 0, none⟩ = some (.slice am nm cm) ∧ wr.cell? ⟨S, 1, none⟩ = some (.slice ab nb cb) ∧ wr.cell? ⟨Q, 0, none⟩ = some (.slice av (Blk.eachL l).length cv) ∧ Us S Q D me l (.slice am nm cm) (.slice ab nb cb) (.slice av (Blk.eachL l).length cv) w wr ∧ Rd (· < wr.heap.size) wr (inlsD (Blk.inlsL l)) [.slice la (Blk.inlsL l).length lc]) (fun i _ => (Blk.eachL l).length - (intOf i).toNat)
    case atStart => exact ⟨0, Nat.zero_le _, rfl, SE.out⟩
    case round =>
      clear SE
      obtain ⟨k, hk, rfl, hS⟩ := hrel
      have HS := Lib.hid hS
      obtain ⟨y0, y1, y2, hU, hL2⟩ := hS
      by_cases hlt : k < (Blk.eachL l).length
      · obtain ⟨x, hx⟩ : ∃ x, (Blk.eachL l)[k]? = some x := ⟨_, List.getElem?_eq_getElem hlt⟩
        have hxs := Blk.eachL_small l HHS.out _ (List.mem_of_getElem? hx)
        obtain ⟨kd, lv, i, t, d, ti, at_, li, ks⟩ := x
        unfold Blk.small at hxs
        obtain ⟨-, -, -, -, -, hls, hlz, -⟩ := hxs
        obtain ⟨aa, cc, hv', hs'⟩ := Rd.sl_open hU.al
        obtain ⟨rfl, rfl⟩ : aa = av ∧ cc = cv := by simp at hv'; exact ⟨hv'.1.symm, hv'.2.symm⟩
        have hcpx : (Blk.eachL l).length ≤ cc := by simpa using hs'.le
        have hmxx := hs'.max
        unfold maxLen at hmxx
        obtain ⟨b, off, vc, vp, vl2, vk, rfl, hok, hblt, hcc, hR⟩ := blks_at hs' hx
        obtain ⟨a2, n2, c2, rfl⟩ := Rd.slf hR.line
        have k9 := hcc.c9
        have hpl : (Inl.plainL li).length ≤ 1000000000 := by have := Inl.plainL_sm li hls; omega
        obtain ⟨P, hP⟩ : ∃ P : ByteArray, P = ⟨(Inl.plainL li).toArray⟩ := ⟨_, rfl⟩
        have TP : Hid (∀ w', (w'.cell? ⟨S, 0, none⟩ = some (.slice am nm cm) ∧ w'.cell? ⟨S, 1, none⟩ = some (.slice ab nb cb) ∧ w'.cell? ⟨Q, 0, none⟩ = some (.slice (some ⟨b, off, none⟩) (Blk.eachL l).length cc) ∧ w'.cell? ⟨b, off + k * 11 + 9, none⟩ = some (.slice a2 n2 c2) ∧ Us S Q D me l (.slice am nm cm) (.slice ab nb cb) (.slice (some ⟨b, off, none⟩) (Blk.eachL l).length cc) w w' ∧ Rd (· < w'.heap.size) w' (inlsD (Blk.inlsL l)) [.slice la (Blk.inlsL l).length lc] ∧ Rd (· < w'.heap.size) w' (inlsD li) [.slice a2 n2 c2] ∧ b < w'.heap.size) → Calls Tryz.prog 27 #[.slice a2 n2 c2] w' fun e w'' => e = .returned (.string P) ∧ Below w'.heap.size w' w'') := fun w' h => by rw [hP]; exact tPlain_any li _ w' h.2.2.2.2.2.2.1 hpl
        have RP : Hid (∀ w', (w'.cell? ⟨S, 0, none⟩ = some (.slice am nm cm) ∧ w'.cell? ⟨S, 1, none⟩ = some (.slice ab nb cb) ∧ w'.cell? ⟨Q, 0, none⟩ = some (.slice (some ⟨b, off, none⟩) (Blk.eachL l).length cc) ∧ w'.cell? ⟨b, off + k * 11 + 9, none⟩ = some (.slice a2 n2 c2) ∧ Us S Q D me l (.slice am nm cm) (.slice ab nb cb) (.slice (some ⟨b, off, none⟩) (Blk.eachL l).length cc) w w' ∧ Rd (· < w'.heap.size) w' (inlsD (Blk.inlsL l)) [.slice la (Blk.inlsL l).length lc] ∧ Rd (· < w'.heap.size) w' (inlsD li) [.slice a2 n2 c2] ∧ b < w'.heap.size) → Calls Tryz.prog 32 #[.slice a2 n2 c2] w' fun e w'' => e = .returned (.string P) ∧ Below w'.heap.size w' w'') := fun w' h => by rw [hP]; exact (rPlain_any _ li _ _ w' (Nat.le_refl _) h.2.2.2.2.2.2.1 hpl).mono fun e w'' h1 => ⟨h1.1, by rw [← h1.2]; exact Below.refl _ _⟩
        have hPP : (P.toList != P.toList) = false := by simp
        have S0 := Lib.hid (Us.step2 HS.out k9 hR.line hblt)
        clear hx hU hL2 hv' hs' hcc hR hok hP hls hlz hpl y0 y1 k9
        go_upto_region 16 with (fail)
        have S0a := S0.out
        go_region_held3 (fun w' => w'.cell? ⟨S, 0, none⟩ = some (.slice am nm cm) ∧ w'.cell? ⟨S, 1, none⟩ = some (.slice ab nb cb) ∧ w'.cell? ⟨Q, 0, none⟩ = some (.slice (some ⟨b, off, none⟩) (Blk.eachL l).length cc) ∧ w'.cell? ⟨b, off + k * 11 + 9, none⟩ = some (.slice a2 n2 c2) ∧ Us S Q D me l (.slice am nm cm) (.slice ab nb cb) (.slice (some ⟨b, off, none⟩) (Blk.eachL l).length cc) w w' ∧ Rd (· < w'.heap.size) w' (inlsD (Blk.inlsL l)) [.slice la (Blk.inlsL l).length lc] ∧ Rd (· < w'.heap.size) w' (inlsD li) [.slice a2 n2 c2] ∧ b < w'.heap.size) (first | exact Us.go2 (by assumption) hbb | exact S0a)
          (first
          | (go_simp; go_at_call 27; (with_reducible refine (TP.out _ (by assumption)).mono ?_); rintro e wZ ⟨rfl, hbb⟩)
          | (go_simp; go_at_call 32; (with_reducible refine (RP.out _ (by assumption)).mono ?_); rintro e wZ ⟨rfl, hbb⟩))
        clear S0a
        have S3 := Lib.hid (Us.back (by assumption))
        clear TP RP S0
        go_wp2
        go_roundw
        case rel => exact ⟨k + 1, by omega, by go_num, S3.out⟩
        case measure => simp [intOf]; omega
      · clear y0 y1 hU hL2
        go_wp2
        have SF := Lib.hid (Us.go HS.out (Below.drew (Below.refl _ _)))
        clear HS y2
        go_upto_region 18 with (fail)
        have SFa := SF.out
        go_region_held3 (fun w' => w'.cell? ⟨S, 0, none⟩ = some (.slice am nm cm) ∧ w'.cell? ⟨S, 1, none⟩ = some (.slice ab nb cb) ∧ w'.cell? ⟨Q, 0, none⟩ = some (.slice av (Blk.eachL l).length cv) ∧ Us S Q D me l (.slice am nm cm) (.slice ab nb cb) (.slice av (Blk.eachL l).length cv) w w' ∧ Rd (· < w'.heap.size) w' (inlsD (Blk.inlsL l)) [.slice la (Blk.inlsL l).length lc]) (first | exact Us.go (by assumption) hbb | exact SFa)
          (first
          | (go_simp; go_at_call 28; (with_reducible refine (TSz.out _ (by assumption)).mono ?_); rintro e wZ ⟨rfl, hbb⟩)
          | (go_simp; go_at_call 33; (with_reducible refine (RSz.out _ (by assumption)).mono ?_); rintro e wZ ⟨rfl, hbb⟩)
          | (go_simp; go_at_call 34; (with_reducible refine (TDp.out _ (by assumption)).mono ?_); rintro e wZ ⟨rfl, hbb⟩)
          | (go_simp; go_at_call 35; (with_reducible refine (RDp.out _ (by assumption)).mono ?_); rintro e wZ ⟨rfl, hbb⟩)
          | (go_simp; go_at_call 11; (refine (awake_any _).mono ?_); rintro e wZ ⟨rfl, hbb⟩))
        clear SFa
        have S5 := Lib.hid (Us.fin (by assumption))
        clear TSz RSz TDp RDp SF
        go_wp2
        exact end_d (v := .bool true) rfl S5.out.2 (fun w' => by simp [results, Tryz.results9, go_sem]) ⟨rfl, by rw [← HSS.out]; rw [← HSS.out] at S5; exact below_put S5.out.1 (by have := HDQ.out; omega)⟩
end Go.Proofs.YtcfplilbhkaihaaGreatDoor.LawTreeMeasures
