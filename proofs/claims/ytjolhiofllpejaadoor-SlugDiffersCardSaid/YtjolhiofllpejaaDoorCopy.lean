/- Contracts of slug.copyAttr and slug.copyLine. -/
import Derived.Test.YtjolhiofllpejaaDoorAppend
import Derived.Test.YtjolhiofllpejaaDoorRAll
import Derived.Deep.RegionHeld3
namespace Go.Proofs.YtjolhiofllpejaaDoor
open Go.RowKit
set_option linter.unusedVariables false

theorem infoPr : (Tryd.prog.info? 64).map (fun i => (i.zero, i.size, i.bytes)) = some (some (.agg #[.string ByteArray.empty, .string ByteArray.empty]), 2, 32) := by kernel_rfl
theorem nil_owns (w : World) (B : Nat) (e : TypeId) (k : Nat) : w.ownsRow B e k (.slice none 0 0) 0 [] := ⟨by simp, .inl ⟨rfl, rfl⟩⟩

/-- While the copy of attributes is made. -/
def CpS (w w' : World) (id : ByteArray) (vc vp : Value) : Prop :=
  w'.cell? ⟨w.heap.size, 0, none⟩ = some (.string id) ∧ w'.cell? ⟨w.heap.size, 1, none⟩ = some vc ∧ w'.cell? ⟨w.heap.size, 2, none⟩ = some vp ∧ Below w.heap.size w w'
theorem CpS.grown {w w1 w2 : World} {id : ByteArray} {vc vp : Value} (h : CpS w w1 id vc vp) (hg : w1.grownBy w2 none) : CpS w w2 id vc vp :=
  ⟨grown_cell hg h.1 (by simp), grown_cell hg h.2.1 (by simp), grown_cell hg h.2.2.1 (by simp), h.2.2.2.grown hg h.2.2.2.size (by simp)⟩
theorem CpS.set {w w1 : World} {id : ByteArray} {vc vp : Value} (h : CpS w w1 id vc vp) (o : Nat) (u : Value) : CpS w (w1.setCell ⟨w.heap.size + 1, o, none⟩ u) id vc vp :=
  ⟨by rw [World.cell?_setCell_other _ _ _ _ (by simp)]; exact h.1, by rw [World.cell?_setCell_other _ _ _ _ (by simp)]; exact h.2.1, by rw [World.cell?_setCell_other _ _ _ _ (by simp)]; exact h.2.2.1, h.2.2.2.setCell (p := ⟨w.heap.size + 1, o, none⟩) (by simp) u⟩

/-- The block of the result, as it was made. -/
def RB (w w' : World) : Prop := w'.heap[w.heap.size + 1]? = some (.cells #[.string ⟨#[]⟩, .slice none 0 0, .slice none 0 0] 38 (0, 0))
theorem RB.grown {w w1 w2 : World} (h : RB w w1) (hg : w1.grownBy w2 none) : RB w w2 := (hg.block _ (by unfold RB at h; exact (Array.getElem?_eq_some_iff.1 h).1) (by simp)).trans h
theorem RB.cells {w w' : World} (h : RB w w') : w'.cell? ⟨w.heap.size + 1, 0, none⟩ = some (.string ⟨#[]⟩) ∧ w'.cell? ⟨w.heap.size + 1, 1, none⟩ = some (.slice none 0 0) ∧ w'.cell? ⟨w.heap.size + 1, 2, none⟩ = some (.slice none 0 0) ∧ w'.frozen? ⟨w.heap.size + 1, 0, none⟩ = false ∧ w'.frozen? ⟨w.heap.size + 1, 1, none⟩ = false ∧ w'.frozen? ⟨w.heap.size + 1, 2, none⟩ = false := by
  unfold RB at h
  simp [World.cell?, World.frozen?, h]

theorem own_set {w : World} {B : Nat} {e : TypeId} {k : Nat} {v : Value} {n : Nat} {xs : List Value} (h : w.ownsRow B e k v n xs) (p : Addr) (u : Value) (hne : v.ownBlock ≠ some p.block) : (w.setCell p u).ownsRow B e k v n xs := by
  refine ⟨h.1, ?_⟩
  rcases h.2 with h0 | ⟨g, cap, cur, rfl, hg, hh, r⟩
  · exact .inl h0
  · exact .inr ⟨g, cap, cur, rfl, hg, (Below.heap_setCell w p u g (fun e' => hne (by rw [← e']; rfl))).trans hh, r⟩
theorem own_rb {w w' : World} {B : Nat} {e : TypeId} {k : Nat} {v : Value} {n : Nat} {xs : List Value} (h : w'.ownsRow B e k v n xs) (hr : RB w w') (hne : e ≠ 38) : v.ownBlock ≠ some (w.heap.size + 1) := by
  rcases h.2 with ⟨rfl, _⟩ | ⟨g, cap, cur, rfl, hg, hh, r⟩
  · simp [Value.ownBlock]
  · intro he
    have : g = w.heap.size + 1 := by simpa [Value.ownBlock] using he
    subst this
    unfold RB at hr
    rw [hr] at hh
    injection hh with hh
    injection hh with _ ht
    exact hne ht.symm
/-- Data without slices read alike in every world. -/
theorem RdL.strs_any {ok ok' : Nat → Prop} {w w' : World} {l : List ByteArray} {rows : List (List Value)} (h : RdL ok w (l.map D.str) rows) : RdL ok' w' (l.map D.str) rows := by
  rw [RdL.strs_rows l rows h]; exact RdL.strs l
theorem RdL.prs_any {ok ok' : Nat → Prop} {w w' : World} : ∀ {l : List Pr} {rows : List (List Value)}, RdL ok w (l.map Pr.d) rows → RdL ok' w' (l.map Pr.d) rows
  | [], _, h => by rw [h.nil_open]; exact RdL.none
  | p :: l, _, h => by
    obtain ⟨r, rs, rfl, h1, h2⟩ := RdL.cons_open (d := p.d) (ds := l.map Pr.d) h
    rw [Pr.open_ h1]
    exact RdL.cons (Pr.mk_ ok' w' p) (RdL.prs_any h2)
theorem RdL.cis_any {ok ok' : Nat → Prop} {w w' : World} : ∀ {l : List Ci} {rows : List (List Value)}, RdL ok w (l.map Ci.d) rows → RdL ok' w' (l.map Ci.d) rows
  | [], _, h => by rw [h.nil_open]; exact RdL.none
  | p :: l, _, h => by
    obtain ⟨r, rs, rfl, h1, h2⟩ := RdL.cons_open (d := p.d) (ds := l.map Ci.d) h
    rw [Ci.open_ h1]
    exact RdL.cons (Ci.mk_ ok' w' p) (RdL.cis_any h2)

set_option maxRecDepth 100000 in
set_option maxHeartbeats 4000000 in
theorem copyAttr_any (at_ : At) (vc vp : Value) (B : Nat) (w : World) (h : AtR (· < B) w at_ vc vp) (hB : B ≤ w.heap.size) (hc : at_.cls.length ≤ 1000000) (hp : at_.prs.length ≤ 1000000) :
    Calls Tryd.prog 70 #[.agg #[.string at_.id, vc, vp]] w fun e w' => ∃ vc' vp', e = .returned (.agg #[.string at_.id, vc', vp']) ∧ AtR (w.heap.size ≤ ·) w' at_ vc' vp' ∧ Below w.heap.size w w' := by
  obtain ⟨iS, hiS, hzS0, hzS1, hzS2⟩ := info_parts infoS
  obtain ⟨iP, hiP, hzP0, hzP1, hzP2⟩ := info_parts infoPr
  obtain ⟨hcls, hprs⟩ := h
  obtain ⟨Ac, capc, rowsc, hvc, hc1, hc2, hc3, hc4, hc5⟩ := Rd.reads hcls
  obtain ⟨Ap, capp, rowsp, hvp, hp1, hp2, hp3, hp4, hp5⟩ := Rd.reads hprs
  obtain ⟨nc, hnc⟩ : ∃ nc, nc = at_.cls.length := ⟨_, rfl⟩
  obtain ⟨np, hnp⟩ : ∃ np, np = at_.prs.length := ⟨_, rfl⟩
  have e1 : (at_.cls.map D.str).length = nc := by rw [hnc]; simp
  have e2 : (at_.prs.map Pr.d).length = np := by rw [hnp]; simp
  rw [e1] at hvc hc1 hc5
  rw [e2] at hvp hp1 hp5
  rw [← hnc] at hc
  rw [← hnp] at hp
  subst hvc hvp
  have h1c : ∀ u ∈ rowsc.flatten, u.oneCell' = true := by
    intro u hu
    rw [RdL.strs_rows _ _ hc3, strs_flat] at hu
    obtain ⟨s, _, rfl⟩ := List.mem_map.1 hu
    rfl
  have h1p : ∀ u ∈ rowsp.flatten, u.oneCell' = true := by
    intro u hu
    obtain ⟨r, hr, hu⟩ := List.mem_flatten.1 hu
    obtain ⟨j, hj, rfl⟩ := List.mem_iff_getElem.1 hr
    have hj2 : j < (at_.prs.map Pr.d).length := by rw [← hp3.len]; exact hj
    obtain ⟨r', hr', hd⟩ := hp3.get j _ (List.getElem?_eq_getElem hj2)
    rw [List.getElem?_eq_getElem hj] at hr'
    obtain rfl := Option.some.inj hr'
    rw [List.getElem_map] at hd
    rw [Pr.open_ hd] at hu
    simp at hu
    rcases hu with rfl | rfl <;> rfl
  have HC5 := Lib.hid (hc5.more hB)
  have HP5 := Lib.hid (hp5.more hB)
  have H1C := Lib.hid h1c
  have H1P := Lib.hid h1p
  have HC3 := Lib.hid hc3
  have HP3 := Lib.hid hp3
  have HC4 := Lib.hid hc4
  have HP4 := Lib.hid hp4
  have HNC := Lib.hid hnc
  have HNP := Lib.hid hnp
  clear hc5 hp5 h1c h1p hc3 hp3 hc4 hp4 hnc hnp e1 e2 hcls hprs
  unfold maxLen at hc2 hp2
  go_enter Tryd.func70, Tryd.ntmps70
  go_wp2
  obtain ⟨w0, hw0⟩ : ∃ w0, w0 = (w.alloc (.cells #[.string at_.id, .slice Ac nc capc, .slice Ap np capp] 38)).alloc (.cells #[.string ⟨#[]⟩, .slice none 0 0, .slice none 0 0] 38) := ⟨_, rfl⟩
  have S0 : CpS w w0.drew at_.id (.slice Ac nc capc) (.slice Ap np capp) := by
    rw [hw0]
    refine ⟨past (new_cell w [.string at_.id, .slice Ac nc capc, .slice Ap np capp] _ 0 _ rfl) _, past (new_cell w [.string at_.id, .slice Ac nc capc, .slice Ap np capp] _ 1 _ rfl) _, past (new_cell w [.string at_.id, .slice Ac nc capc, .slice Ap np capp] _ 2 _ rfl) _, below_dN (((Below.refl _ w).alloc (Nat.le_refl _) _).alloc (by simp) _) 1⟩
  have R0 : RB w w0.drew := by
    rw [hw0]
    unfold RB
    have := heap_alloc_new (w.alloc (.cells #[.string at_.id, .slice Ac nc capc, .slice Ap np capp] 38)) (.cells #[.string ⟨#[]⟩, .slice none 0 0, .slice none 0 0] 38)
    rw [World.size_alloc] at this
    exact this
  rw [← hw0]
  clear hw0
  go_region_held3 (fun w' => w'.cell? ⟨w.heap.size, 0, none⟩ = some (.string at_.id) ∧ w'.cell? ⟨w.heap.size, 1, none⟩ = some (.slice Ac nc capc) ∧ w'.cell? ⟨w.heap.size, 2, none⟩ = some (.slice Ap np capp) ∧ Below w.heap.size w w')
    (first | exact S0 | exact (by assumption : CpS w _ at_.id (.slice Ac nc capc) (.slice Ap np capp)) | exact CpS.set (CpS.set (CpS.set (by assumption) _ _) _ _) _ _)
    (first
      | (refine step_append_any _ rfl (.const (.slice none 0 0)) (.tmp 6) 25 rfl w.heap.size 9 iS _ 1 16 Tryd.underlying25 hiS hzS0 hzS1 hzS2 rfl (by decide) (.slice none 0 0) 0 [] rfl (nil_owns _ _ _ _) w.heap.size Ac nc capc rowsc.flatten rfl (HC5.out.below (by assumption : _ ∧ _ ∧ _ ∧ Below w.heap.size w _).2.2.2) H1C.out (by unfold maxLen; omega) (by omega) (by assumption : _ ∧ _ ∧ _ ∧ Below w.heap.size w _).2.2.2.size ?_; intro vS wS hoS hgS _; simp only [Nat.zero_add, List.nil_append] at hoS; obtain ⟨aS, cS, rfl⟩ := own_slice hoS; have hSS := CpS.grown (by assumption) (show World.grownBy _ wS none from hgS); have hRS := RB.grown (by assumption) (show World.grownBy _ wS none from hgS); obtain ⟨q0, q1, q2, q3, q4, q5⟩ := hRS.cells)
      | (refine step_append_any _ rfl (.const (.slice none 0 0)) (.tmp 9) 29 rfl w.heap.size 64 iP _ 2 32 Tryd.underlying29 hiP hzP0 hzP1 hzP2 rfl (by decide) (.slice none 0 0) 0 [] rfl (nil_owns _ _ _ _) w.heap.size Ap np capp rowsp.flatten rfl (HP5.out.below (by assumption : _ ∧ _ ∧ _ ∧ Below w.heap.size w _).2.2.2) H1P.out (by unfold maxLen; omega) (by omega) (by assumption : _ ∧ _ ∧ _ ∧ Below w.heap.size w _).2.2.2.size ?_; intro vP wP hoP hgP _; simp only [Nat.zero_add, List.nil_append] at hoP; obtain ⟨aP, cP, rfl⟩ := own_slice hoP; have hSP := CpS.grown (by assumption) (show World.grownBy _ wP none from hgP); have hRP := RB.grown (by assumption) (show World.grownBy _ wP none from hgP); obtain ⟨q0, q1, q2, q3, q4, q5⟩ := hRP.cells))
  have oS := Lib.hid (hoS.kept (show World.grownBy _ wP none from hgP) (by cases (Value.slice aS nc cS).ownBlock <;> simp))
  have oP := Lib.hid hoP
  have nS := own_rb oS.out hRP (by decide)
  have nP := own_rb oP.out hRP (by decide)
  have FS := Lib.hid (fun u0 u1 u2 => own_set (own_set (own_set oS.out ⟨w.heap.size + 1, 0, none⟩ u0 nS) ⟨w.heap.size + 1, 1, none⟩ u1 nS) ⟨w.heap.size + 1, 2, none⟩ u2 nS)
  have FP := Lib.hid (fun u0 u1 u2 => own_set (own_set (own_set oP.out ⟨w.heap.size + 1, 0, none⟩ u0 nP) ⟨w.heap.size + 1, 1, none⟩ u1 nP) ⟨w.heap.size + 1, 2, none⟩ u2 nP)
  have FB := Lib.hid (fun u0 u1 u2 => (CpS.set (CpS.set (CpS.set hSP 0 u0) 1 u1) 2 u2).2.2.2)
  clear hoS hoP hgS hgP nS nP oS oP
  go_wp2
  refine bodyPost_ret (v := .agg #[.string at_.id, .slice aS nc cS, .slice aP np cP]) (by simp [results, Tryd.results70, go_sem, q0, q1, q2]) rfl ⟨_, _, rfl, ⟨?_, ?_⟩, FB.out _ _ _⟩
  · refine Rd.sl_own (rows := rowsc) (B := w.heap.size) (e := 9) ?_ HC3.out.strs_any HC4.out (fun g hg => ((FS.out (.bool true) (.bool true) (.bool true)).lt g hg).1)
    rw [List.length_map, ← HNC.out]; exact FS.out _ _ _
  · refine Rd.sl_own (rows := rowsp) (B := w.heap.size) (e := 64) ?_ HP3.out.prs_any HP4.out (fun g hg => ((FP.out (.bool true) (.bool true) (.bool true)).lt g hg).1)
    rw [List.length_map, ← HNP.out]; exact FP.out _ _ _
end Go.Proofs.YtjolhiofllpejaaDoor
