/- What the closures of count.Numbers share, and how the steps of a round change it. -/
import Derived.Test.YtlbioncagkkkoaaDoorKTcS
namespace Go.Proofs.YtlbioncagkkkoaaDoor
open Go.RowKit
set_option linter.unusedVariables false
set_option linter.unusedSimpArgs false

/-- Where the boxes lie, and of which types they are. -/
structure Pk where
  pO : Nat
  pS : Nat
  pM : Nat
  pC : Nat
  pK : Nat
  pV : Nat
  N : Nat
  tO : TypeId
  tS : TypeId
  tC : TypeId
  tK : TypeId
  tV : TypeId
def Pk.ok (q : Pk) (B : Nat) : Prop := B ≤ q.pO ∧ 1 < q.pO ∧ q.pO < q.pS ∧ q.pS < q.pM ∧ q.pM < q.pC ∧ q.pC < q.pK ∧ q.pK < q.pV ∧ q.pV < q.N
def Pk.cnt (q : Pk) : Value := .func (.func 39) #[] #[.pointer (some ⟨q.pC, 0, none⟩)]
def Pk.vis (q : Pk) : Value := .func (.func 41) #[] #[.pointer (some ⟨q.pS, 0, none⟩), .pointer (some ⟨q.pK, 0, none⟩), .pointer (some ⟨q.pO, 0, none⟩), .pointer (some ⟨q.pV, 0, none⟩)]
/-- All counts are at most M. -/
structure NsB (s : Ns) (M nn : Nat) : Prop where
  c : ∀ i, s.c.getD i 0 ≤ M
  f : s.f ≤ M
  t : s.t ≤ M
  e : s.e ≤ M
  o : s.out.length ≤ M
  n : nn ≤ M
theorem NsB.mono {s : Ns} {M M' nn : Nat} (h : NsB s M nn) (hm : M ≤ M') : NsB s M' nn := ⟨fun i => Nat.le_trans (h.c i) hm, Nat.le_trans h.f hm, Nat.le_trans h.t hm, Nat.le_trans h.e hm, Nat.le_trans h.o hm, Nat.le_trans h.n hm⟩
def FnOk (s : Ns) (f : ByteArray → Int) : Prop := f figS = (s.f : Int) ∧ f tabS = (s.t : Int) ∧ f equS = (s.e : Int) ∧ f notS = 0
/-- What the closures share: the counters, and the numbers so far. The data of the numbers lie in [N, U). -/
structure NuB (q : Pk) (B U : Nat) (s : Ns) (v : Value) (nn : Nat) (rows : List (List Value)) (wr : World) : Prop where
  sec : CB q.tS q.pS (intC s.c) wr
  num : ∃ f, NumAt wr q.pM nn f ∧ FnOk s f
  bC : CB q.tC q.pC [.map (some q.pM)] wr
  bK : CB q.tK q.pK [q.cnt] wr
  bV : CB q.tV q.pV [q.vis] wr
  bO : CB q.tO q.pO [v] wr
  own : wr.ownsRow q.N 61 4 v s.out.length rows.flatten
  red : RdL (fun b => q.N ≤ b ∧ v.ownBlock ≠ some b ∧ b < U) wr (s.out.map Nm.d) rows
  len : ∀ r ∈ rows, r.length = 4
  c6 : s.c.length = 6
  ltU : U ≤ wr.heap.size
  ltN : q.N ≤ U
  oU : ∀ g, v.ownBlock = some g → g < U
  pt : PT wr
section
variable {q : Pk} {B U : Nat} {s : Ns} {v : Value} {nn : Nat} {rows : List (List Value)} {wr w' : World}
theorem NuB.up (h : NuB q B U s v nn rows wr) {U' : Nat} (h1 : U ≤ U') (h2 : U' ≤ wr.heap.size) : NuB q B U' s v nn rows wr :=
  { h with red := RdL.keep (fun b hb _ => ⟨⟨hb.1, hb.2.1, by omega⟩, rfl⟩) _ _ h.red, ltU := h2, ltN := Nat.le_trans h.ltN h1, oU := fun g hg => Nat.lt_of_lt_of_le (h.oU g hg) h1 }
theorem NuB.grown (h : NuB q B U s v nn rows wr) (hg : wr.grownBy w' none) : NuB q B U s v nn rows w' :=
  { sec := cb_grown h.sec hg (by simp), num := by obtain ⟨f, h1, h2⟩ := h.num; exact ⟨f, h1.kept hg (by simp), h2⟩
    bC := cb_grown h.bC hg (by simp), bK := cb_grown h.bK hg (by simp), bV := cb_grown h.bV hg (by simp), bO := cb_grown h.bO hg (by simp)
    own := h.own.kept hg (by cases v.ownBlock <;> simp), red := RdL.keep (fun b hb hlt => ⟨hb, hg.block b hlt (by simp)⟩) _ _ h.red
    len := h.len, c6 := h.c6, ltU := Nat.le_trans h.ltU hg.size, ltN := h.ltN, oU := h.oU, pt := h.pt.grown hg (by simp) }
theorem NuB.below (h : NuB q B U s v nn rows wr) (hb : Below wr.heap.size wr w') : NuB q B U s v nn rows w' := h.grown (grown_below hb)
theorem NuB.drew (h : NuB q B U s v nn rows wr) : NuB q B U s v nn rows wr.drew := h.grown ⟨rfl, rfl, rfl, Nat.le_refl _, fun _ _ _ => rfl⟩
theorem NuB.alloc (h : NuB q B U s v nn rows wr) (o : Obj) : NuB q B U s v nn rows (wr.alloc o) := h.grown (World.grownBy_alloc _ _ none)
/-- A store to a box of a round. -/
theorem NuB.set (h : NuB q B U s v nn rows wr) (ok : q.ok B) {p : Nat} (hp : U ≤ p) (j : Nat) (u : Value) : NuB q B U s v nn rows (wr.setCell ⟨p, j, none⟩ u) := by
  obtain ⟨o1, o2, o3, o4, o5, o6, o7, o8⟩ := ok
  have hN := h.ltN
  have far : ∀ b, b < U → (wr.setCell ⟨p, j, none⟩ u).heap[b]? = wr.heap[b]? := fun b hb => Below.heap_setCell wr ⟨p, j, none⟩ u b (by show b ≠ p; omega)
  have hk : wr.grownBy (wr.setCell ⟨p, j, none⟩ u) (some p) := ⟨rfl, rfl, rfl, by simp [World.setCell], fun b hb hne => Below.heap_setCell wr ⟨p, j, none⟩ u b (fun e => hne (by rw [e]))⟩
  exact
  { sec := (far _ (by omega)).trans h.sec, num := by obtain ⟨f, h1, h2⟩ := h.num; exact ⟨f, h1.kept hk (by intro e; have := Option.some.inj e; omega), h2⟩
    bC := (far _ (by omega)).trans h.bC, bK := (far _ (by omega)).trans h.bK, bV := (far _ (by omega)).trans h.bV, bO := (far _ (by omega)).trans h.bO
    own := own_set h.own ⟨p, j, none⟩ u (fun e => by have h9 : p < U := h.oU _ e; omega), red := RdL.keep (fun b hb hlt => ⟨hb, far b hb.2.2⟩) _ _ h.red
    len := h.len, c6 := h.c6, ltU := by have := h.ltU; simpa [World.setCell] using this, ltN := h.ltN, oU := h.oU, pt := h.pt.grown hk (by intro e; have := Option.some.inj e; omega) }
/-- The counters of sections go up. -/
theorem NuB.secs (h : NuB q B U s v nn rows wr) (ok : q.ok B) {c : List Nat} (hg : wr.grownBy w' (some q.pS)) (hc : CB q.tS q.pS (intC c) w') (h6 : c.length = 6) : NuB q B U { s with c := c } v nn rows w' := by
  obtain ⟨o1, o2, o3, o4, o5, o6, o7, o8⟩ := ok
  have hN := h.ltN
  have ne : ∀ p, p ≠ q.pS → some p ≠ some q.pS := fun p hp e => hp (Option.some.inj e)
  exact
  { sec := hc, num := by obtain ⟨f, h1, h2⟩ := h.num; exact ⟨f, h1.kept hg (ne _ (by omega)), h2⟩
    bC := cb_grown h.bC hg (ne _ (by omega)), bK := cb_grown h.bK hg (ne _ (by omega)), bV := cb_grown h.bV hg (ne _ (by omega)), bO := cb_grown h.bO hg (ne _ (by omega))
    own := h.own.kept hg (.inr (fun e => by have := (h.own.lt _ e).1; omega)), red := RdL.keep (fun b hb hlt => ⟨hb, hg.block b hlt (ne _ (by omega))⟩) _ _ h.red
    len := h.len, c6 := h6, ltU := Nat.le_trans h.ltU hg.size, ltN := h.ltN, oU := h.oU, pt := h.pt.grown hg (ne _ (by omega)) }
/-- A count of the map goes up. -/
theorem NuB.maps (h : NuB q B U s v nn rows wr) (ok : q.ok B) {s' : Ns} {f : ByteArray → Int} (hs : s'.c = s.c ∧ s'.out = s.out) (hg : wr.grownBy w' (some q.pM)) (hf : NumAt w' q.pM (nn + 1) f) (ho : FnOk s' f) : NuB q B U s' v (nn + 1) rows w' := by
  obtain ⟨o1, o2, o3, o4, o5, o6, o7, o8⟩ := ok
  have hN := h.ltN
  have ne : ∀ p, p ≠ q.pM → some p ≠ some q.pM := fun p hp e => hp (Option.some.inj e)
  exact
  { sec := by rw [hs.1]; exact cb_grown h.sec hg (ne _ (by omega)), num := ⟨f, hf, ho⟩
    bC := cb_grown h.bC hg (ne _ (by omega)), bK := cb_grown h.bK hg (ne _ (by omega)), bV := cb_grown h.bV hg (ne _ (by omega)), bO := cb_grown h.bO hg (ne _ (by omega))
    own := by rw [hs.2]; exact h.own.kept hg (.inr (fun e => by have := (h.own.lt _ e).1; omega)), red := by rw [hs.2]; exact RdL.keep (fun b hb hlt => ⟨hb, hg.block b hlt (ne _ (by omega))⟩) _ _ h.red
    len := h.len, c6 := by rw [hs.1]; exact h.c6, ltU := Nat.le_trans h.ltU hg.size, ltN := h.ltN, oU := h.oU, pt := h.pt.grown hg (ne _ (by omega)) }
theorem Nm.mk_ (x : Nm) {ok : Nat → Prop} {w : World} {vl : Value} (h : Rd ok w (inlsD x.line) [vl]) : Rd ok w x.d [.string x.id, .string x.kind, .string x.val, vl] :=
  Rd.st_mk (rows := [[.string x.id], [.string x.kind], [.string x.val], [vl]]) (RdL.cons (Rd.str_mk _ _ _) (RdL.cons (Rd.str_mk _ _ _) (RdL.cons (Rd.str_mk _ _ _) (RdL.one h))))
/-- A number is put behind the others. -/
theorem NuB.put (h : NuB q B U s v nn rows wr) (ok : q.ok B) {x : Nm} {vl v' : Value} {o : Obj} (hl : Rd (U ≤ ·) wr (inlsD x.line) [vl]) (hg : (wr.alloc o).grownBy w' v.ownBlock)
    (hown : w'.ownsRow q.N 61 4 v' (s.out.length + 1) (rows.flatten ++ [.string x.id, .string x.kind, .string x.val, vl])) (hat : v'.ownBlock = v.ownBlock ∨ v'.ownBlock = some (wr.heap.size + 1)) :
    NuB q B w'.heap.size { s with out := s.out ++ [x] } v' nn (rows ++ [[.string x.id, .string x.kind, .string x.val, vl]]) (w'.setCell ⟨q.pO, 0, none⟩ v') := by
  obtain ⟨o1, o2, o3, o4, o5, o6, o7, o8⟩ := ok
  have hN := h.ltN
  have hU := h.ltU
  have hs := hg.size
  rw [World.size_alloc] at hs
  have hlt : ∀ g, v.ownBlock = some g → q.N ≤ g ∧ g < U := fun g e => ⟨(h.own.lt g e).1, h.oU g e⟩
  have hh : ∀ b, b < wr.heap.size → v.ownBlock ≠ some b → w'.heap[b]? = wr.heap[b]? := fun b hb hne =>
    (hg.block b (by rw [World.size_alloc]; omega) (fun e => hne e.symm)).trans (Below.heap_alloc _ _ b hb)
  have fa : ∀ b, b ≠ q.pO → (w'.setCell ⟨q.pO, 0, none⟩ v').heap[b]? = w'.heap[b]? := fun b hb => Below.heap_setCell w' ⟨q.pO, 0, none⟩ v' b hb
  have fb : ∀ b, b < q.N → b ≠ q.pO → (w'.setCell ⟨q.pO, 0, none⟩ v').heap[b]? = wr.heap[b]? := fun b hb hne => (fa b hne).trans (hh b (by omega) (fun e => by have := hlt b e; omega))
  have hk : w'.grownBy (w'.setCell ⟨q.pO, 0, none⟩ v') (some q.pO) := ⟨rfl, rfl, rfl, by simp [World.setCell], fun b hb hne => fa b (fun e => hne (by rw [e]))⟩
  have ne : ∀ p, p ≠ q.pO → some p ≠ some q.pO := fun p hp e => hp (Option.some.inj e)
  have no : ∀ p, p < q.N → some p ≠ v.ownBlock := fun p hp e => by have := hlt p e.symm; omega
  have hvb : ∀ g, v'.ownBlock = some g → g < w'.heap.size := fun g e => (hown.lt g e).2
  have hO : CB q.tO q.pO [v] w' := (hh _ (by omega) (fun e => by have := hlt _ e; omega)).trans h.bO
  have hv' : ∀ b, b < wr.heap.size → v.ownBlock ≠ some b → v'.ownBlock ≠ some b := by
    intro b hb hne
    rcases hat with e | e
    · rw [e]; exact hne
    · rw [e]; intro h; have := Option.some.inj h; omega
  exact
  { sec := (fb _ (by omega) (by omega)).trans h.sec
    num := by obtain ⟨f, h1, h2⟩ := h.num; exact ⟨f, ((h1.kept (World.grownBy_alloc wr o none) (by simp)).kept hg (no _ (by omega))).kept hk (ne _ (by omega)), h2⟩
    bC := (fb _ (by omega) (by omega)).trans h.bC, bK := (fb _ (by omega) (by omega)).trans h.bK, bV := (fb _ (by omega) (by omega)).trans h.bV
    bO := cb_set hO 0 v'
    own := by
      rw [List.length_append, List.flatten_append]
      exact own_set (by simpa using hown) ⟨q.pO, 0, none⟩ v' (fun e => by have h9 : q.N ≤ q.pO := (hown.lt _ e).1; omega)
    red := by
      show RdL _ _ ((s.out ++ [x]).map Nm.d) _
      rw [List.map_append]
      refine RdL.app (RdL.keep (fun b hb hlt' => ⟨⟨hb.1, hv' b hlt' hb.2.1, by omega⟩, (fa b (by omega)).trans (hh b hlt' hb.2.1)⟩) _ _ h.red) (RdL.one ?_)
      refine Rd.keep (fun b (hb : U ≤ b) hlt' => ?_) _ _ (Nm.mk_ x hl)
      have hne : v.ownBlock ≠ some b := fun e => by have := hlt b e; omega
      exact ⟨⟨by omega, hv' b hlt' hne, by omega⟩, (fa b (by omega)).trans (hh b hlt' hne)⟩
    len := by
      intro r hr
      rcases List.mem_append.1 hr with hr | hr
      · exact h.len r hr
      · simp at hr; subst hr; rfl
    c6 := h.c6, ltU := by simp [World.setCell], ltN := by omega, oU := hvb
    pt := ((h.pt.grown (World.grownBy_alloc wr o none) (by simp)).grown hg (no _ (by omega))).grown hk (ne _ (by omega)) }
end
/-- What a block counts: the counters behind it, the value and the line of its number. -/
def numVal (free : Bool) (s : Ns) (k lv : Int) (i : ByteArray) (a : At) (li : List Inl) (ks : List Blk) : Ns × ByteArray × List Inl :=
  if k = 2 ∧ free = true then ({ s with c := cntUp s.c (lvlOf lv) }, valS (cntUp s.c (lvlOf lv)) (lvlOf lv), li)
  else if k = 13 ∧ i = figS then ({ s with f := s.f + 1 }, decS (s.f + 1), capL ks)
  else if k = 13 ∧ i = tabS then ({ s with t := s.t + 1 }, decS (s.t + 1), capL ks)
  else if k = 4 ∧ a.id.data.toList ≠ [] then ({ s with e := s.e + 1 }, decS (s.e + 1), [])
  else (s, ⟨#[]⟩, [])
theorem numOne_val (free : Bool) (s : Ns) (k lv : Int) (i : ByteArray) (a : At) (li : List Inl) (ks : List Blk) :
    numOne free s k lv i a li ks = { (numVal free s k lv i a li ks).1 with out := (numVal free s k lv i a li ks).1.out ++ if (kindS free k i a.id).data.toList = [] then [] else [⟨a.id, kindS free k i a.id, (numVal free s k lv i a li ks).2.1, (numVal free s k lv i a li ks).2.2⟩] } := by
  unfold numOne numVal kindS
  by_cases h1 : k = 2 ∧ free = true
  · simp only [if_pos h1]; rfl
  · simp only [if_neg h1]
    by_cases h2 : k = 13 ∧ i = figS
    · have h3 : k = 13 ∧ (i = figS ∨ i = tabS) := ⟨h2.1, .inl h2.2⟩
      simp only [if_pos h2, if_pos h3]
      rw [h2.2]; rfl
    · simp only [if_neg h2]
      by_cases h4 : k = 13 ∧ i = tabS
      · have h3 : k = 13 ∧ (i = figS ∨ i = tabS) := ⟨h4.1, .inr h4.2⟩
        simp only [if_pos h4, if_pos h3]
        rw [h4.2]; rfl
      · have h3 : ¬ (k = 13 ∧ (i = figS ∨ i = tabS)) := fun h => by rcases h.2 with e | e; exact h2 ⟨h.1, e⟩; exact h4 ⟨h.1, e⟩
        simp only [if_neg h4, if_neg h3]
        by_cases h5 : k = 4 ∧ a.id.data.toList ≠ []
        · simp only [if_pos h5]; rfl
        · simp only [if_neg h5]
          show s = { s with out := s.out ++ [] }
          rw [List.append_nil]
end Go.Proofs.YtlbioncagkkkoaaDoor
