/- slug.Anchors: what its second loop keeps. -/
import Derived.Test.YtjolhiofllpejaaDoorAnchW
import Derived.Test.YtjolhiofllpejaaDoorSlugAll
import Derived.Test.YtjolhiofllpejaaDoorNamed
import Derived.Test.YtjolhiofllpejaaDoorTPlain
namespace Go.Proofs.YtjolhiofllpejaaDoor
open Go.RowKit Go.Shelf
set_option linter.unusedVariables false

theorem grown_of_below {w w' : World} (h : Below w.heap.size w w') : w.grownBy w' none := ⟨h.os, h.tape, h.output, h.size, fun b hlt _ => h.block b hlt⟩
theorem KpA.refl (S : Nat) (W : World) : KpA S W W := ⟨rfl, rfl, rfl, Nat.le_refl _, fun _ _ _ _ => rfl, fun _ _ _ _ h _ _ => h⟩
/-- A row of inlines of one's own, read later on. -/
theorem inl_row {W1 wr : World} {S B : Nat} {v : Value} {inl : List Inl} {rows : List (List Value)} (hown : W1.ownsRow B 42 10 v inl.length rows.flatten) (hrd : RdL (fun _ => True) W1 (inl.map Inl.d) rows) (h10 : ∀ r ∈ rows, r.length = 10) (hk : KpA S W1 wr)
    {k : Nat} {kd : Int} {t d ti : ByteArray} {at_ : At} {ar : List ByteArray} {ci : List Ci} {ks : List Inl} (hx : inl[k]? = some (.mk kd t d ti at_ ar ci ks)) :
    ∃ g cap ac nc cc ap np cp aa na ca ai ni ci ak nk ck, v = .slice (some ⟨g, 0, none⟩) inl.length cap ∧ InCells wr g (k * 10) kd t d ti at_.id (.slice ac nc cc) (.slice ap np cp) (.slice aa na ca) (.slice ai ni ci) (.slice ak nk ck) := by
  have hlt : k < inl.length := (List.getElem?_eq_some_iff.1 hx).1
  obtain ⟨r, hr, hrd1⟩ := hrd.get k _ (by rw [List.getElem?_map, hx]; rfl)
  obtain ⟨vc, vp, va, vi, vk, hcs, hR⟩ := Inl.open_ hrd1
  obtain ⟨ac, nc, cc, rfl⟩ := Rd.sl_form hR.at_.cls
  obtain ⟨ap, np, cp, rfl⟩ := Rd.sl_form hR.at_.prs
  obtain ⟨aa, na, ca, rfl⟩ := Rd.sl_form hR.args
  obtain ⟨ai, ni, ci, rfl⟩ := Rd.sl_form hR.cites
  obtain ⟨ak, nk, ck, rfl⟩ := Rd.sl_form hR.kids
  obtain ⟨g, cap, rfl, hcap⟩ := own_form hown (by omega)
  refine ⟨g, cap, ac, nc, cc, ap, np, cp, aa, na, ca, ai, ni, ci, ak, nk, ck, rfl, InCells.of hcs fun j u hu => ?_⟩
  have hf := flat_get 10 rows h10 k j r u hr hu
  obtain ⟨cur, hc⟩ := own_cells hown (r := g) rfl
  have hkc := hk.cel g cur 42 (0, 0) hc (by decide) (by decide)
  have h1 : wr.heap[g]? = W1.heap[g]? := hkc.trans hc.symm
  rw [cell_same h1]
  have hj : j < 10 := by
    have h5 := (List.getElem?_eq_some_iff.1 hu).1
    have := h10 r (List.mem_of_getElem? hr)
    omega
  exact (hown.cellAt (k * 10 + j) (by omega)).trans hf

/-- What the loop over the inlines holds. -/
def LpI (S D : Nat) (W0 W1 : World) (ub tb : List ByteArray) (vt : Value) (inl : List Inl) (vi : Value) (wr : World) : Prop :=
  ∃ (k : Nat) (vu : Value), k ≤ inl.length ∧ vi = .int .i64 k ∧ TB S (S + 2) (S + 3) W0 (ub ++ usedI (inl.take k)) tb vu vt wr ∧ KpA S W1 wr ∧ wr.heap[D]? = some (.deferred (some []))
theorem usedI_snoc (l : List Inl) (k : Nat) (x : Inl) (h : l[k]? = some x) : usedI (l.take (k + 1)) = usedI (l.take k) ++ (x.id1).toList := by
  unfold usedI
  rw [List.take_add_one, h, List.filterMap_append]
  cases e : x.id1 <;> simp [e]
theorem usedI_len (l : List Inl) (k : Nat) : (usedI (l.take k)).length ≤ k :=
  Nat.le_trans (List.length_filterMap_le _ _) (by simp; omega)
theorem stepIn_append_any {F : Fence} {nF : Nat} {P : Program} {w : World} {ops : Array Oper} {o : Oper} {a : Act} {K : Act → World → Prop} {Q : Exit → Act → World → Prop} {E : Prop} (hgd : o.guard = none) (s x : Operand) (t : TypeId)
    (ho : o.op = .call { callee := .builtin .append, args := #[s, x], argTypes := #[t, t] })
    (base : Nat) (e : TypeId) (i : TypeInfo) (z : Value) (size bytes : Nat) (ht : P.underlying t = some (.slice e)) (hi : P.info? e = some i) (hz : i.zero = some z)
    (hsize : i.size = size) (hby : i.bytes = bytes) (hzs : z.cells.size = size) (hsz : 0 < size)
    (v : Value) (n : Nat) (xs : List Value) (hs : a.eval s = v) (hown : w.ownsRow base e size v n xs)
    (B : Nat) (A : Option Addr) (m c : Nat) (news : List Value) (hx : a.eval x = .slice A m c) (hr : Reads w B size A m news) (h1 : ∀ u ∈ news, u.oneCell' = true)
    (h63 : n + m ≤ maxLen) (hbytes : (n + m) * bytes ≤ 140737488355328) (hbase : base ≤ w.heap.size)
    (h : ∀ v' w', w'.ownsRow base e size v' (n + m) (xs ++ news) → w.grownBy w' v.ownBlock → (v'.ownBlock = v.ownBlock ∨ v'.ownBlock = some w.heap.size) → K (a.put o.dst v') w') :
    if Region.wanted o (yielded ops a.tmps) = true then o.wpIn F nF P a w K Q else E := by
  rw [if_pos (by simp [Region.wanted, hgd])]
  obtain ⟨v', w', hrun, h2, h3, h4⟩ := run_append_any (P := P) w base t o.type e i z size bytes ht hi hz hsize hby hzs hsz v n xs hown B A m c news hr h1 h63 hbytes hbase
  unfold Oper.wpIn
  refine ⟨by simp [Oper.about, ho, resolve, Target.leads, Sem.run_pure], ?_⟩
  rw [Oper.semAt_plain F _ _ (by rw [ho]; intro c hc'; cases hc')]
  simp [execOp, ho, resolve, invoke, builtin, hs, hx, hrun, Result.andThen]
  exact h v' w' h2 h3 h4

theorem TB.bel {S p q : Nat} {w W0 W : World} {us ts : List ByteArray} {vu vt : Value} (h : TB S p q W0 us ts vu vt W) (hp : S ≤ p) (hq : S ≤ q) (hb : Below S w W0) (hS : S = w.heap.size) : Below S w W :=
  ⟨h.os.trans hb.os, h.tape.trans hb.tape, h.output.trans hb.output, by have := h.size; omega, fun b hlt => (h.blk b (by omega) (by omega) (by omega)).trans (hb.block b hlt)⟩
mutual
theorem textB_each : ∀ (x : Blk), (textB x.each).length = x.bare
  | .mk k _ _ _ _ _ a _ ks => by
    have h := textB_eachL ks
    unfold textB at h ⊢
    rw [Blk.each, Blk.bare, List.filterMap_cons]
    by_cases h1 : a.id.data.toList = []
    · by_cases h2 : k = 2
      · simp [Blk.tx1, h1, h2, h]; omega
      · simp [Blk.tx1, h1, h2, h]
    · simp [Blk.tx1, h1, h]
theorem textB_eachL : ∀ (l : List Blk), (textB (Blk.eachL l)).length = Blk.bareL l
  | [] => by rw [Blk.eachL, Blk.bareL]; rfl
  | x :: l => by
    have h1 := textB_each x
    have h2 := textB_eachL l
    unfold textB at h1 h2 ⊢
    rw [Blk.eachL, Blk.bareL, List.filterMap_append, List.length_append, h1, h2]
end
theorem allA_len (l used : List ByteArray) : (allA l used).length = l.length := by unfold allA; rw [allG_len, List.length_map]
/-- What is known ahead of slug.named. -/
structure AF (S D bx : Nat) (w : World) (A : List ByteArray) (vm vb : Value) (W : World) : Prop where
  bel : Below S w W
  doc : W.heap[S]? = some (.cells #[vm, vb] 32 (0, 0))
  res : W.heap[S + 1]? = some (.cells #[.slice none 0 0, .slice none 0 0] 32 (0, 0))
  box : BxAt W bx A
  dfr : W.heap[D]? = some (.deferred (some []))
  lt : bx < W.heap.size
section
variable {S D bx : Nat} {w W W' : World} {A : List ByteArray} {vm vb : Value}
theorem at_lt {o : Obj} {b : Nat} (h : W.heap[b]? = some o) : b < W.heap.size := (Array.getElem?_eq_some_iff.1 h).1
theorem AF.grown (h : AF S D bx w A vm vb W) (hg : W.grownBy W' none) (hS : S ≤ W.heap.size) : AF S D bx w A vm vb W' :=
  ⟨⟨hg.os.trans h.bel.os, hg.tape.trans h.bel.tape, hg.output.trans h.bel.output, Nat.le_trans h.bel.size hg.size, fun b hb => (hg.block b (by omega) (by simp)).trans (h.bel.block b hb)⟩,
    (hg.block _ (at_lt h.doc) (by simp)).trans h.doc, (hg.block _ (at_lt h.res) (by simp)).trans h.res, h.box.keep (fun b hb => hg.block b (by have := h.lt; omega) (by simp)), (hg.block _ (at_lt h.dfr) (by simp)).trans h.dfr, Nat.lt_of_lt_of_le h.lt hg.size⟩
theorem AF.c0 (h : AF S D bx w A vm vb W) : W.cell? ⟨S, 0, none⟩ = some vm := by simp [World.cell?, h.doc]
theorem AF.c1 (h : AF S D bx w A vm vb W) : W.cell? ⟨S, 1, none⟩ = some vb := by simp [World.cell?, h.doc]
/-- The world at the end. -/
def fin (S D : Nat) (w : World) (a b : Value) : World := ((w.setCell ⟨S + 1, 0, none⟩ a).setCell ⟨S + 1, 1, none⟩ b).putObj D (.deferred none)
theorem fin_same (a b : Value) {i : Nat} (h1 : i ≠ S + 1) (h2 : i ≠ D) : (fin S D w a b).heap[i]? = w.heap[i]? :=
  (World.putObj_heap_other (by omega)).trans ((Below.heap_setCell _ ⟨S + 1, 1, none⟩ b i h1).trans (Below.heap_setCell _ ⟨S + 1, 0, none⟩ a i h1))
theorem fin_res (a b : Value) {x y : Value} {t : TypeId} (h : w.heap[S + 1]? = some (.cells #[x, y] t (0, 0))) (h2 : D ≠ S + 1) : (fin S D w a b).heap[S + 1]? = some (.cells #[a, b] t (0, 0)) := by
  refine (World.putObj_heap_other (by omega)).trans ?_
  simp [World.setCell, Array.getElem?_modify, h]
theorem fin_dfr (a b : Value) {o : Obj} (h : w.heap[D]? = some o) (h2 : D ≠ S + 1) : ((w.setCell ⟨S + 1, 0, none⟩ a).setCell ⟨S + 1, 1, none⟩ b).heap[D]? = some o :=
  ((Below.heap_setCell _ ⟨S + 1, 1, none⟩ b D h2).trans (Below.heap_setCell _ ⟨S + 1, 0, none⟩ a D h2)).trans h
theorem fin_size (a b : Value) : (fin S D w a b).heap.size = w.heap.size := by simp [fin, World.putObj, World.setCell]
end
theorem pairs_one {ok : Nat → Prop} {w : World} {l : List Pr} {rows : List (List Value)} (h : RdL ok w (l.map Pr.d) rows) : ∀ u ∈ rows.flatten, u.oneCell' = true := by
  intro u hu
  obtain ⟨r, hr, hu⟩ := List.mem_flatten.1 hu
  obtain ⟨j, hj, rfl⟩ := List.mem_iff_getElem.1 hr
  have hj2 : j < (l.map Pr.d).length := by rw [← h.len]; exact hj
  obtain ⟨r', hr', hd⟩ := h.get j _ (List.getElem?_eq_getElem hj2)
  rw [List.getElem?_eq_getElem hj] at hr'
  obtain rfl := Option.some.inj hr'
  rw [List.getElem_map] at hd
  rw [Pr.open_ hd] at hu
  simp at hu
  rcases hu with rfl | rfl <;> rfl
theorem grown_drew2 {w w' : World} {r : Option Nat} (h : w.grownBy w' r) : w.grownBy w'.drew r := ⟨h.os, h.tape, h.output, h.size, h.block⟩
/-- What is asked only of the normal way. -/
def NormQ (Q : Exit → Act → World → Prop) : Exit → Act → World → Prop := fun e a w => e = .normal ∧ Q e a w
theorem wpInQ {F : Fence} {n : Nat} {P : Program} {Q Q' : Exit → Act → World → Prop} (hQ : ∀ e a w, Q e a w → Q' e a w) {o : Oper} {a : Act} {w : World} {K K' : Act → World → Prop} (h : ∀ a w, K a w → K' a w)
    (hh : o.wpIn F n P a w K Q) : o.wpIn F n P a w K' Q' := by
  unfold Oper.wpIn at *
  refine ⟨hh.1, ?_⟩
  have hh := hh.2
  generalize (o.semAt F.round a.eval).run P w = r at *
  cases r with
  | ok x w' =>
    cases x <;> simp only [Oper.uponIn] at hh ⊢ <;>
      first
        | exact h _ _ hh
        | exact ⟨hh.1, CallsIn.mono hh.2 (fun e w'' he => by
            cases e
            · exact h _ _ he
            · exact hQ _ _ _ he
            · obtain ⟨a', w3, h3⟩ := he; exact ⟨a', w3, hQ _ _ _ h3⟩)⟩
        | exact ⟨hh.1, RowsIn.mono hh.2 (fun _ _ he => h _ _ he)⟩
        | exact ⟨hh.1, RoundIn.mono hh.2 (fun e w'' he => by
            cases e
            · exact h _ _ he
            · exact hQ _ _ _ he
            · obtain ⟨a', w3, h3⟩ := he; exact ⟨a', w3, hQ _ _ _ h3⟩)⟩
  | halt x w' => cases x <;> simp only [Oper.uponIn] at hh ⊢ <;> first | exact hh | exact hQ _ _ _ hh
theorem wpOpInQ {F : Fence} {n : Nat} {P : Program} {ops : Array Oper} {Q Q' : Exit → Act → World → Prop} (hQ : ∀ e a w, Q e a w → Q' e a w) {i : Nat} {a : Act} {w : World} {K K' : Act → World → Prop} (h : ∀ a w, K a w → K' a w)
    (hh : wpOpIn F n P ops Q i K a w) : wpOpIn F n P ops Q' i K' a w := by
  unfold wpOpIn at *
  split
  · exact h _ _ (by simpa [*] using hh)
  · rename_i o ho
    simp only [ho] at hh
    split
    · rename_i hw; simp only [hw, if_true] at hh; exact wpInQ hQ h hh
    · rename_i hw; simp only [hw] at hh; exact ⟨hh.1, h _ _ hh.2⟩
theorem wpAnyInQ {F : Fence} {n : Nat} {P : Program} {md : Region.Mode} {ops : Array Oper} {Q Q' : Exit → Act → World → Prop} (hQ : ∀ e a w, Q e a w → Q' e a w) : ∀ (fuel : Nat) (listed : Array Bool) (a : Act) (w : World), wpAnyIn F n P md ops Q fuel listed a w → wpAnyIn F n P md ops Q' fuel listed a w
  | 0, _, _, _, h => ⟨h.1, hQ _ _ _ h.2⟩
  | fuel + 1, listed, a, w, h => ⟨fun e => hQ _ _ _ (h.1 e), fun i hi => wpOpInQ hQ (fun a' w' h' => wpAnyInQ hQ fuel _ a' w' h') (h.2 i hi)⟩
theorem wpAnyIn_norm {F : Fence} {n : Nat} {P : Program} {md : Region.Mode} {ops : Array Oper} {Q : Exit → Act → World → Prop} {fuel : Nat} {listed : Array Bool} {a : Act} {w : World} (h : wpAnyIn F n P md ops (NormQ Q) fuel listed a w) : wpAnyIn F n P md ops Q fuel listed a w :=
  wpAnyInQ (fun _ _ _ h => h.2) fuel listed a w h
theorem norm_panic {Q : Exit → Act → World → Prop} {d : Option Tmp} {v : Value} : ∀ c a w, NormQ Q (.panic c) (Act.put a d v) w → NormQ Q (.panic c) a w := fun _ _ _ h => by cases h.1
end Go.Proofs.YtjolhiofllpejaaDoor
