/- Maps of the call's own with texts as keys: numbers. The contract of slug.All. -/
import Derived.Test.YtjobjicdfoklpaaGreatDoorBd
import Derived.Test.YtjobjicdfoklpaaGreatDoorSlugOf
import Derived.Test.YtjobjicdfoklpaaGreatDoorSlugOf
import Derived.Lib.AppendIntMem
namespace Go.Proofs.YtjobjicdfoklpaaGreatDoor
open Go.RowKit Go.Maps
set_option linter.unusedVariables false
set_option linter.unusedSimpArgs false

def NumAt (w : World) (b n : Nat) (f : ByteArray → Int) : Prop :=
  ∃ D : DataW Unit, w.ownsMap Tryz.prog 9 (plainElem Tryz.prog 3) b n D ∧ ∀ s : ByteArray, D.atKey (sKey s) (.lit (.int .i64 0)) = .lit (.int .i64 (f s))
theorem NumAt.look {w : World} {b n : Nat} {f : ByteArray → Int} (h : NumAt w b n f) (s : ByteArray) (hs : s.size ≤ maxLen) :
    (Instr.lookup 82 (.map (some b)) (.string s) false).run Tryz.prog w = .ok (.int .i64 (f s)) w := by
  obtain ⟨D, hD, hat⟩ := h
  obtain ⟨c, hrun, hc, _⟩ := hD.lookup_int keyS Tryz.underlying82 Tryz.underlying3 (zeroI w) (sKey_of s hs)
  rw [hat s] at hc
  have : f s = c := (Lit.int.inj (DataW.lit.inj hc)).2
  subst this; exact hrun
theorem NumAt.put {w : World} {b n : Nat} {f : ByteArray → Int} (h : NumAt w b n f) (s : ByteArray) (x : Int) (hs : s.size ≤ maxLen) (hn : n < maxLen) (hx : (Lit.int .i64 x).wf = true) :
    ∃ w', (Instr.mapUpdate 82 (.map (some b)) (.string s) (.int .i64 x)).run Tryz.prog w = .ok () w' ∧ NumAt w' b (n + 1) (fun t => if t = s then x else f t) ∧ w.grownBy w' (some b) := by
  obtain ⟨D, hD, hat⟩ := h
  obtain ⟨w', hrun, hD', hg⟩ := hD.update keyS Tryz.underlying82 hn (sKey_of s hs) (plainElem_int Tryz.underlying3 hx)
  refine ⟨w', hrun, ⟨_, hD', fun t => ?_⟩, hg⟩
  by_cases e : t = s
  · subst e
    rw [atKey_put_same (owns_isMap hD) (sKey_lit t)]
    show _ = DataW.lit (.int .i64 (if t = t then x else f t))
    rw [if_pos rfl]
  · rw [atKey_put_other (fun h => e (sKey_inj _ _ h)), hat t]
    show _ = DataW.lit (.int .i64 (if t = s then x else f t))
    rw [if_neg e]
theorem NumAt.made (w : World) : NumAt (w.alloc (.map #[] 0)) w.heap.size 0 (fun _ => 0) :=
  ⟨_, World.ownsMap_made w _ _ _, fun s => rfl⟩
theorem NumAt.kept {w w' : World} {b n : Nat} {f : ByteArray → Int} {row : Option Nat} (h : NumAt w b n f) (hg : w.grownBy w' row) (hne : some b ≠ row) : NumAt w' b n f := by
  obtain ⟨D, hD, hat⟩ := h
  exact ⟨D, hD.kept hg hne, hat⟩
theorem NumAt.lt {w : World} {b n : Nat} {f : ByteArray → Int} (h : NumAt w b n f) : b < w.heap.size := by
  obtain ⟨D, hD, _⟩ := h; exact hD.lt
theorem NumAt.obj {w : World} {b n : Nat} {f : ByteArray → Int} (h : NumAt w b n f) : ∃ es c, w.heap[b]? = some (.map es c) := by
  obtain ⟨D, ⟨es, c, h, _⟩, _⟩ := h; exact ⟨es, c, h⟩
theorem NumAt.below {w w' : World} {b n : Nat} {f : ByteArray → Int} (h : NumAt w b n f) (hb : Below w.heap.size w w') : NumAt w' b n f := h.kept (grown_below hb) (by simp)

end Go.Proofs.YtjobjicdfoklpaaGreatDoor

namespace Go.Proofs.YtjobjicdfoklpaaGreatDoor
open Go.RowKit
set_option linter.unusedVariables false
set_option linter.unusedSimpArgs false

set_option maxRecDepth 100000 in
set_option maxHeartbeats 1000000 in
theorem free_no (x : ByteArray) (pb b n : Nat) (S : List ByteArray) (w : World) (hx : x.size ≤ maxLen) (hc : w.cell? ⟨pb, 0, none⟩ = some (.map (some b))) (hS : SetAt w b n S) (h : hasB S x = true) :
    Calls Tryz.prog 129 #[.string x, .pointer (some ⟨pb, 0, none⟩)] w fun e w' => e = .returned (.bool false) ∧ w = w' := by
  have hl := hS.look x hx
  rw [h] at hl
  clear hS h
  unfold maxLen at hx
  go_enter Tryz.func129, Tryz.ntmps129
  go_wp2
  go_ret
  exact ⟨rfl, rfl⟩

def FreeYes (x : ByteArray) (b n : Nat) (S : List ByteArray) (w : World) (e : Ending) (w' : World) : Prop := e = .returned (.bool true) ∧ SetAt w' b (n + 1) (x :: S) ∧ w.grownBy w' (some b)
set_option maxRecDepth 100000 in
set_option maxHeartbeats 1000000 in
theorem free_yes (x : ByteArray) (pb b n : Nat) (S : List ByteArray) (w : World) (hx : x.size ≤ maxLen) (hn : n < maxLen) (hc : w.cell? ⟨pb, 0, none⟩ = some (.map (some b))) (hS : SetAt w b n S) (h : hasB S x = false) :
    Calls Tryz.prog 129 #[.string x, .pointer (some ⟨pb, 0, none⟩)] w (FreeYes x b n S w) := by
  have hl := hS.look x hx
  rw [h] at hl
  obtain ⟨w', hu, hS', hg⟩ := hS.put x hx hn
  have HS := Lib.hid hS'
  have HG := Lib.hid hg
  clear hS h hS' hg
  unfold maxLen at hx
  go_enter Tryz.func129, Tryz.ntmps129
  go_wp2
  go_ret
  exact ⟨rfl, HS.out, HG.out⟩

/-- The table of powers of ten is laid. -/
def PT (w : World) : Prop := 1 < w.heap.size ∧ Lib.TabIs Tryz.prog w "internal/strconv.uint64pow10" .u64 Lib.pow10Tab
theorem PT.below {w w' : World} (h : PT w) (hb : Below w.heap.size w w') : PT w' := by
  refine ⟨Nat.lt_of_lt_of_le h.1 hb.size, ?_⟩
  have hg : Tryz.prog.globalNamed "internal/strconv.uint64pow10" = some 1 := by kernel_rfl
  have h2 := h.2
  unfold Lib.TabIs World.var? at h2 ⊢
  rw [hg] at h2 ⊢
  simp only [Option.bind_some] at h2 ⊢
  rw [hb.block _ h.1]
  exact h2
theorem itoa_any (n : Nat) (w : World) (hn : n ≤ 1000000) (ht : PT w) :
    Calls Tryz.prog 54 #[.int .i64 (n : Int)] w fun e w' => e = .returned (.string ⟨(Lib.decDigits n).toArray⟩) ∧ Below w.heap.size w w' := by
  refine (Tryz.strconv_Itoa (n : Int) (by omega) (by omega) w ht.2).mono ?_
  rintro e w' ⟨rfl, k, os, rfl⟩
  refine ⟨?_, Lib.below_grow _ w (Nat.le_refl _) k os⟩
  have : Lib.itoa (n : Int) = Lib.decDigits n := by unfold Lib.itoa; rw [if_neg (by omega)]; simp
  rw [this]

theorem SetAt.congr {w : World} {b n : Nat} {S T : List ByteArray} (h : SetAt w b n S) (he : ∀ x, x ∈ S ↔ x ∈ T) : SetAt w b n T := by
  obtain ⟨D, hD, hat⟩ := h
  refine ⟨D, hD, fun s => ?_⟩
  rw [hat s]
  have : hasB S s = hasB T s := by rw [Bool.eq_iff_iff, hasB_iff, hasB_iff, he]
  rw [this]

/-- The numbers of the second map: below them nothing is free. -/
def NxOk (f : ByteArray → Int) (T : List ByteArray) : Prop := ∀ b, 0 ≤ f b ∧ (1 ≤ f b → ∀ i : Nat, (i : Int) ≤ f b → cand b i ∈ T)
theorem NxOk.more {f : ByteArray → Int} {T : List ByteArray} (h : NxOk f T) (x : ByteArray) : NxOk f (x :: T) := fun b => ⟨(h b).1, fun h1 i hi => List.mem_cons_of_mem _ ((h b).2 h1 i hi)⟩
theorem NxOk.zero (T : List ByteArray) : NxOk (fun _ => 0) T := fun b => ⟨Int.le_refl _, fun h => absurd h (by show ¬ (1 : Int) ≤ 0; omega)⟩
theorem NxOk.put {f : ByteArray → Int} {T : List ByteArray} {base : ByteArray} {n : Nat} (h : NxOk f (cand base (idx T base) :: T)) (hn : n ≤ idx T base) : NxOk (fun t => if t = base then (n : Int) else f t) (cand base (idx T base) :: T) := by
  intro b
  by_cases e : b = base
  · subst e
    show 0 ≤ (if b = b then (n : Int) else f b) ∧ _
    rw [if_pos rfl]
    refine ⟨by omega, fun _ i hi => ?_⟩
    simp only [if_true] at hi
    have hi' : i ≤ n := by omega
    rcases Nat.lt_or_ge i (idx T b) with h' | h'
    · exact List.mem_cons_of_mem _ ((idx_spec T b).2.1 i h')
    · have : i = idx T b := by omega
      rw [this]; exact List.mem_cons_self
  · show 0 ≤ (if b = base then (n : Int) else f b) ∧ (1 ≤ (if b = base then (n : Int) else f b) → ∀ i : Nat, (i : Int) ≤ (if b = base then (n : Int) else f b) → _)
    rw [if_neg e]
    exact h b
theorem NxOk.lt {f : ByteArray → Int} {T : List ByteArray} (h : NxOk f T) (base : ByteArray) (h1 : 1 ≤ f base) : f base < idx T base := by
  rcases Int.lt_or_le (f base) (idx T base) with h' | h'
  · exact h'
  · exact absurd ((h base).2 h1 (idx T base) h') (idx_spec T base).1

theorem run_makeMap_hint {P : Program} {t k e : TypeId} (ht : P.underlying t = some (.map k e)) (n : Int) (w : World) :
    (Instr.makeMap t (some (.int .i64 n))).run P w = .ok (.map (some w.heap.size)) (w.alloc (.map #[] 0)) := by
  simp [Instr.makeMap, run_underlying ht, asInt, asIntOf]

/-- At the head of each round of the second loop. -/
def Al2 (w wr : World) (bN : Nat) (bs used : List ByteArray) (v vi : Value) : Prop :=
  ∃ (k nn : Nat) (f : ByteArray → Int), k ≤ bs.length ∧ vi = .int .i64 k ∧ wr.ownsRow (w.heap.size + 2) 9 1 v (outTo bs used k).length ((outTo bs used k).map Value.string) ∧
    SetAt wr w.heap.size (used.length + k) (useT bs used k) ∧ wr.cell? ⟨w.heap.size + 1, 0, none⟩ = some (.map (some w.heap.size)) ∧ NumAt wr bN nn f ∧ NxOk f (useT bs used k) ∧ nn ≤ k * 300000 ∧ Below w.heap.size w wr
/-- What stays over a round's inner loop, and what it has come to. -/
structure Al3 (w wr : World) (bN : Nat) (v : Value) (outs T : List ByteArray) (n1 nn : Nat) (f : ByteArray → Int) : Prop where
  own : wr.ownsRow (w.heap.size + 2) 9 1 v outs.length (outs.map Value.string)
  set : SetAt wr w.heap.size n1 T
  box : wr.cell? ⟨w.heap.size + 1, 0, none⟩ = some (.map (some w.heap.size))
  num : NumAt wr bN nn f
  bel : Below w.heap.size w wr
theorem Al3.below {w wr w' : World} {bN : Nat} {v : Value} {outs T : List ByteArray} {n1 nn : Nat} {f : ByteArray → Int} (h : Al3 w wr bN v outs T n1 nn f) (hb : Below wr.heap.size wr w') : Al3 w w' bN v outs T n1 nn f :=
  ⟨own_below h.own hb, h.set.below hb, by rw [hb.cell (p := ⟨w.heap.size + 1, 0, none⟩) (cell_lt h.box)]; exact h.box, h.num.below hb, below_trans_size h.bel hb⟩
theorem map_cell_ne {w : World} {b c o : Nat} {v : Value} (hm : ∃ es k, w.heap[b]? = some (.map es k)) (hc : w.cell? ⟨c, o, none⟩ = some v) : b ≠ c := by
  rintro rfl
  obtain ⟨es, k, hm⟩ := hm
  simp [World.cell?, hm] at hc
theorem own_cell_ne {w : World} {B : Nat} {v : Value} {n : Nat} {xs : List Value} {c : Nat} {es : List ByteArray} (h : w.ownsRow B 9 1 v n (es.map Value.string)) {m : Value} (hc : w.cell? ⟨c, 0, none⟩ = some m) (hm : ∀ s, m ≠ .string s) (hn : n = es.length) : v.ownBlock ≠ some c ∨ n = 0 := by
  rcases Nat.eq_zero_or_pos n with h0 | h0
  · exact .inr h0
  · refine .inl (fun e => ?_)
    cases es with
    | nil => simp at hn; omega
    | cons x l =>
      have := h.cells e 0 (.string x) rfl
      have e2 : ((⟨c, 0, none⟩ : Addr).add 0) = ⟨c, 0, none⟩ := by unfold Addr.add; simp
      rw [e2, hc] at this
      exact hm x (Option.some.inj this)

theorem useT_succ (bs used : List ByteArray) (k : Nat) (b : ByteArray) (h : bs[k]? = some b) : useT bs used (k + 1) = nextA (useT bs used k) b :: useT bs used k := by
  unfold useT
  rw [outTo_succ bs used k b h]
  simp
/-- At the head of each round of the innermost loop. -/
def In3 (w wr : World) (bN : Nat) (v : Value) (outs T : List ByteArray) (n1 r m0 Q : Nat) (base : ByteArray) (va vn : Value) : Prop :=
  ∃ (j n nn : Nat) (f : ByteArray → Int), j ≤ r ∧ va = .string (cand base j) ∧ vn = .int .i64 (n : Int) ∧ ((j = 0 ∧ n = m0) ∨ (1 ≤ j ∧ n = j + 1)) ∧ n ≤ r + 1 ∧ 1 ≤ n ∧ Al3 w wr bN v outs T n1 nn f ∧ NxOk f (cand base r :: T) ∧ nn ≤ Q + n
theorem Al3.put {w wr w' : World} {bN : Nat} {v : Value} {outs T : List ByteArray} {n1 nn nn' : Nat} {f f' : ByteArray → Int} (h : Al3 w wr bN v outs T n1 nn f) (hb : w.heap.size + 2 ≤ bN) (hg : wr.grownBy w' (some bN)) (hN : NumAt w' bN nn' f') : Al3 w w' bN v outs T n1 nn' f' :=
  ⟨h.own.kept hg (.inr (own_map_ne h.own h.num.obj)), h.set.kept hg (by simp; omega), grown_cell hg h.box (by simp; omega), hN, h.bel.grown hg h.bel.size (fun j hj => by cases hj; omega)⟩
theorem Al3.set_put {w wr w' : World} {bN : Nat} {v : Value} {outs T T' : List ByteArray} {n1 n1' nn : Nat} {f : ByteArray → Int} (h : Al3 w wr bN v outs T n1 nn f) (hb : w.heap.size + 2 ≤ bN) (hg : wr.grownBy w' (some w.heap.size)) (hS : SetAt w' w.heap.size n1' T') : Al3 w w' bN v outs T' n1' nn f :=
  ⟨h.own.kept hg (.inr (own_map_ne h.own h.set.obj)), hS, grown_cell hg h.box (by simp), h.num.kept hg (by simp; omega), h.bel.grown hg h.bel.size (fun j hj => by cases hj; exact Nat.le_refl _)⟩

def Us1 (w wr : World) (used : List ByteArray) (vi : Value) : Prop :=
  ∃ k : Nat, k ≤ used.length ∧ vi = .int .i64 k ∧ SetAt wr w.heap.size k (used.take k).reverse ∧ wr.cell? ⟨w.heap.size + 1, 0, none⟩ = some (.map (some w.heap.size)) ∧ Below w.heap.size w wr ∧ w.heap.size + 2 ≤ wr.heap.size

set_option maxRecDepth 100000 in
set_option maxHeartbeats 4000000 in
theorem slAll_any (l used : List ByteArray) (v1 v2 : Value) (w : World) (h1 : Sees w 1 v1 l.length (l.map Value.string)) (h2 : Sees w 1 v2 used.length (used.map Value.string)) (hl : l.length ≤ 100000) (hu : used.length ≤ 100000) (hsz : ∀ x ∈ l, x.size ≤ 100000000) (hsu : ∀ x ∈ used, x.size ≤ 100000000) (ht : PT w) :
    Calls Tryz.prog 74 #[v1, v2] w fun e w' => ∃ v, e = .returned v ∧ w'.ownsRow w.heap.size 9 1 v (allA l used).length ((allA l used).map Value.string) ∧ Below w.heap.size w w' := by
  obtain ⟨i0, hi, hz0, hz1, hz2⟩ := info_parts infoS
  have HSZ := Lib.hid hsz
  have HSU := Lib.hid hsu
  have HT := Lib.hid ht
  obtain ⟨-, a, cap, rfl, hcap, hmx, hcs⟩ := h1
  obtain ⟨-, a2, cap2, rfl, hcap2, hmx2, hcs2⟩ := h2
  obtain ⟨bs, hbs⟩ : ∃ bs, bs = l.map slugS := ⟨_, rfl⟩
  have HBS := Lib.hid hbs
  have hbl : bs.length = l.length := by rw [hbs]; simp
  have HR : Hid (allA l used = outTo bs used bs.length) := by rw [outTo_all, hbs]; rfl
  have HCS := Lib.hid hcs
  have HCS2 := Lib.hid hcs2
  have HBL := Lib.hid hbl
  clear hcs hcs2 hbs hsz hsu hbl ht
  generalize allA l used = R at *
  unfold maxLen at hmx hmx2
  have hmm := @run_makeMap Tryz.prog
  have hmh := fun n w => run_makeMap_hint Tryz.underlying92 n w
  go_enter Tryz.func74, Tryz.ntmps74
  go_wp2
  clear hmh
  go_loopw [24] (fun vi wr => Us1 w wr used vi) (fun i _ => used.length - (intOf i).toNat)
  case atStart =>
    refine ⟨0, Nat.zero_le _, rfl, ?_, ?_, ?_, ?_⟩
    · exact (SetAt.made w).kept (World.grownBy_alloc _ _ none) (by simp)
    · have := new_cell (w.alloc (.map #[] 0)) [.map (some w.heap.size)] 92 0 _ rfl
      rwa [World.size_alloc] at this
    · exact ((Below.refl _ w).alloc (Nat.le_refl _) _).alloc (by simp) _
    · simp
  case round =>
    obtain ⟨k, hk, rfl, hS, hbox, hbel, hz⟩ := hrel
    by_cases hlt : k < used.length
    · obtain ⟨x, hx⟩ : ∃ x, used[k]? = some x := ⟨_, List.getElem?_eq_getElem hlt⟩
      rcases HCS2.out with h0 | ⟨b, off, rfl, hc⟩
      · omega
      have k0 := hc k (.string x) (by simp [hx])
      have c0 : wr.cell? ⟨b, off + k, none⟩ = some (.string x) := by rw [hbel.cell (p := ⟨b, off + k, none⟩) (cell_lt k0)]; exact k0
      have hxs := HSU.out x (List.mem_of_getElem? hx)
      obtain ⟨w', hup, hS', hg⟩ := hS.put x (by unfold maxLen; omega) (by unfold maxLen; omega)
      have hbox' : w'.cell? ⟨w.heap.size + 1, 0, none⟩ = some (.map (some w.heap.size)) := grown_cell hg hbox (by simp)
      have hbel' : Below w.heap.size w w' := hbel.grown hg hbel.size (fun j hj => by cases hj; exact Nat.le_refl _)
      have hz' : w.heap.size + 2 ≤ w'.heap.size := Nat.le_trans hz hg.size
      have HS' : Hid (SetAt w' w.heap.size (k + 1) (used.take (k + 1)).reverse) := by
        show SetAt _ _ _ _
        rw [List.take_add_one, hx]
        simpa using hS'
      have HBOX := Lib.hid hbox'
      clear hS hS' hg k0 hc hx hbox' hxs
      go_wp2
      go_roundw
      case rel => exact ⟨k + 1, by omega, by go_num, HS'.out, HBOX.out, hbel', hz'⟩
      case measure => simp [intOf]; omega
    · have hkl : k = used.length := by omega
      have hS2 : SetAt wr w.heap.size used.length (useT bs used 0) := by
        subst hkl
        refine hS.congr (fun x => ?_)
        unfold useT outTo
        simp
      have HS2 := Lib.hid hS2
      have HBX := Lib.hid hbox
      clear hS hS2 hbox hkl
      go_wp2_with (at_make; refine wpList_make_own _ rfl _ _ 40 rfl (w.heap.size + 2) 9 i0 (.string ByteArray.empty) 1 Tryz.underlying40 hi hz0 hz1 .i64 .i64 _ l.length rfl rfl rfl ?m1 ?m2 ?m3 ?_)
      case m1 => rw [hz2]; omega
      case m2 => unfold maxLen; omega
      case m3 => simp; omega
      intro w2 hown2 hg2
      have hB0 : Below w.heap.size w (wr.alloc (.map #[] 0)) := hbel.alloc hbel.size _
      have hB2 : Below w.heap.size w w2 := hB0.grown hg2 hB0.size (by simp)
      have A0 : Hid (Al2 w w2 wr.heap.size bs used (.slice (some ⟨wr.heap.size + 1, 0, none⟩) 0 l.length) (.int .i64 0)) := by
        refine ⟨0, 0, fun _ => 0, Nat.zero_le _, rfl, hown2, ?_, ?_, ?_, NxOk.zero _, by omega, hB2⟩
        · exact (HS2.out.kept (World.grownBy_alloc _ _ none) (by simp)).kept hg2 (by simp)
        · exact grown_cell hg2 (past HBX.out _) (by simp)
        · exact (NumAt.made wr).kept hg2 (by simp)
      have hbN : w.heap.size + 2 ≤ wr.heap.size := hz
      clear hown2 hg2 hB0 hmm HS2 HBX hbel hz
      go_wp2
      obtain ⟨bN, hbe⟩ : ∃ bN, bN = wr.heap.size := ⟨_, rfl⟩
      rw [← hbe] at A0 hbN ⊢
      clear hbe
      go_loopw [10, 38] (fun v vi wr => Al2 w wr bN bs used v vi) (fun _ i _ => l.length - (intOf i).toNat)
      case atStart => exact A0.out
      case round =>
        obtain ⟨k, nn, f, hk, rfl, hown, hS, hbox, hN, hNx, hnn, hbel⟩ := hrel
        rw [HBL.out] at hk
        have A3 := Lib.hid (⟨hown, hS, hbox, hN, hbel⟩ : Al3 w _ bN _ (outTo bs used k) (useT bs used k) (used.length + k) nn f)
        have HNX := Lib.hid hNx
        clear hown hS hbox hN hNx A0
        by_cases hlt : k < l.length
        · obtain ⟨av, cv, rfl⟩ := own_slice A3.out.own
          obtain ⟨x, hx⟩ : ∃ x, l[k]? = some x := ⟨_, List.getElem?_eq_getElem hlt⟩
          rcases HCS.out with h0 | ⟨b, off, rfl, hc⟩
          · omega
          have k0 := hc k (.string x) (by simp [hx])
          have c0 : wr.cell? ⟨b, off + k, none⟩ = some (.string x) := by rw [hbel.cell (p := ⟨b, off + k, none⟩) (cell_lt k0)]; exact k0
          have SO := Lib.hid (fun w => slOf_any x w (HSZ.out x (List.mem_of_getElem? hx)))
          have hbk : bs[k]? = some (slugS x) := by rw [HBS.out]; simp [hx]
          have HOS := Lib.hid (outTo_succ bs used k (slugS x) hbk)
          have HUS := Lib.hid (useT_succ bs used k (slugS x) hbk)
          have hss := slugS_size x
          have hol : (outTo bs used k).length = k := outTo_len bs used k (by rw [HBL.out]; omega)
          have HOL := Lib.hid hol
          have hix := (idx_spec (useT bs used k) (slugS x)).2.2
          have htl : (useT bs used k).length = k + used.length := by unfold useT; simp [hol]
          have HIL := Lib.hid (idx_lt (useT bs used k) (slugS x))
          have HLT := Lib.hid (HNX.out.lt (slugS x))
          have HPUT := Lib.hid (fun f n h1 h2 => NxOk.put (f := f) (T := useT bs used k) (base := slugS x) (n := n) h1 h2)
          have h0f := (HNX.out (slugS x)).1
          have HMORE := Lib.hid (HNX.out.more (cand (slugS x) (idx (useT bs used k) (slugS x))))
          have HNE : Hid (nextA (useT bs used k) (slugS x) = cand (slugS x) (idx (useT bs used k) (slugS x))) := rfl
          have HNE2 : Hid (nextA ((outTo bs used k).reverse ++ used) (slugS x) = cand (slugS x) (idx (useT bs used k) (slugS x))) := rfl
          rw [htl] at hix
          have HCA := Lib.hid (cand_size (slugS x))
          clear hx k0 hc hbk hol htl HNX
          generalize slugS x = base at *
          generalize hT : useT bs used k = T at *
          generalize hr : idx T base = r at *
          clear hT hr
          have LT1 := HLT.out
          obtain ⟨m0, hm0⟩ : ∃ m0 : Nat, max (f base) 1 = (m0 : Int) := ⟨(max (f base) 1).toNat, by omega⟩
          have hm1 : 1 ≤ m0 := by omega
          have hm2 : m0 ≤ r + 1 ∧ (0 < r → m0 ≤ r) := by
            by_cases h : 1 ≤ f base
            · have := LT1 h; omega
            · omega
          clear LT1 HLT
          go_wp2_with fail
          refine (SO.out _).mono ?_
          rintro e w1 ⟨rfl, b1⟩
          have A1 := Lib.hid (A3.out.below b1)
          have hlk := A1.out.num.look base (by unfold maxLen; omega)
          clear b1 SO A3 c0
          go_wp2
          clear hlk
          have HC0 : Hid (cand base 0 = base) := rfl
          go_loopw [14, 15] (fun va vn wr => In3 w wr bN (.slice av (outTo bs used k).length cv) (outTo bs used k) T (used.length + k) r m0 (k * 300000) base va vn) (fun _ n _ => r + 2 - (intOf n).toNat)
          case atStart =>
            have q1 : Value.string base = .string (cand base 0) := by rw [HC0.out]
            have q2 : nn ≤ k * 300000 + m0 := Nat.le_trans hnn (Nat.le_add_right _ _)
            exact ⟨0, m0, nn, f, Nat.zero_le _, q1, rfl, .inl ⟨rfl, rfl⟩, hm2.1, hm1, A1.out, HMORE.out, q2⟩
          case round =>
            obtain ⟨j, n, n3, f3, hjr, rfl, rfl, hjn, hn1, hn2, hA, hX, hn3⟩ := hrel
            have A2 := Lib.hid hA
            have HX := Lib.hid hX
            have hcz := HCA.out j
            have hil := HIL.out j hjr
            have hbel2 := hA.bel
            clear hA hX
            by_cases hlt2 : j < r
            · have FN := Lib.hid (free_no (cand base j) (w.heap.size + 1) w.heap.size (used.length + k) T _ (by unfold maxLen; omega) A2.out.box A2.out.set ((hasB_iff _ _).2 (hil.2 hlt2)))
              have hnr : n ≤ r := by rcases hjn with h | h <;> omega
              have IT := Lib.hid (itoa_any n _ (by omega) (HT.out.below hbel2))
              have hdl := dec_len n
              have HN : Hid (cand base n = numB base n) := by
                show cand base n = _
                unfold cand; rw [if_neg (by omega)]
              clear hil hjn
              generalize cand base j = cb at *
              go_wp2_with fail
              refine FN.out.mono ?_
              rintro e w3 ⟨rfl, rfl⟩
              go_wp2_with fail
              refine IT.out.mono ?_
              rintro e w4 ⟨rfl, b4⟩
              have A4 := Lib.hid (A2.out.below b4)
              obtain ⟨w5, hup, hN5, hg5⟩ := A4.out.num.put base (n : Int) (by unfold maxLen; omega) (by unfold maxLen; omega) (WalkArith.wf_i64 (by omega))
              have A5 := Lib.hid (A4.out.put hbN hg5 hN5)
              clear hN5 hg5 b4 FN IT
              go_wp2
              go_roundw
              case rel => exact ⟨n, n + 1, n3 + 1, _, hnr, by rw [HN.out]; exact rfl, by go_num, .inr ⟨hn2, rfl⟩, by omega, by omega, A5.out, HPUT.out f3 n HX.out hnr, by omega⟩
              case measure => simp [intOf]; omega
            · have hje : j = r := by omega
              have hno : hasB T (cand base j) = false := by
                rw [hasB_no]; intro h; exact absurd (hil.1 h) hlt2
              have FY := Lib.hid (free_yes (cand base j) (w.heap.size + 1) w.heap.size (used.length + k) T _ (by unfold maxLen; omega) (by unfold maxLen; omega) A2.out.box A2.out.set hno)
              have HJE := Lib.hid hje
              clear hil hno hje hjn
              rw [← HJE.out] at HX HNE HNE2
              generalize cand base j = cb at *
              go_wp2_with fail
              refine FY.out.mono ?_
              rintro e w3 ⟨rfl, hS3, hg3⟩
              have A4 := Lib.hid (A2.out.set_put hbN hg3 hS3)
              clear hS3 hg3 FY
              have hol : (outTo bs used k).length ≤ 100000 := by rw [HOL.out]; omega
              have hszw := A4.out.bel.size
              have hszn := A4.out.num.lt
              have hownA := A4.out.own
              go_wp2_with (at_builtin; refine wpList_append_own _ rfl _ _ 40 rfl (w.heap.size + 2) 9 i0 (.string ByteArray.empty) 1 16 Tryz.underlying40 hi hz0 hz1 hz2 rfl (by decide) _ _ _ rfl (hownA.alloc _) ⟨_, 0, none⟩ 1 1 [.string cb] rfl rfl ?c1 ?c2 ?c3 ?c4 ?c5 ?_)
              case c1 => exact new_one _ _ _
              case c2 => intro u hu; simp at hu; subst hu; rfl
              case c3 => unfold maxLen; omega
              case c4 => omega
              case c5 => simp; omega
              intro v' w6 hown' hgrow _
              have b6 : Below w.heap.size w w6 := below_app A4.out.bel hszw (own_mono hownA (by omega)) hgrow
              have S6 := Lib.hid ((A4.out.set.kept (World.grownBy_alloc _ _ none) (by simp)).kept hgrow (fun e => own_map_ne hownA A4.out.set.obj e.symm))
              have N6 := Lib.hid ((A4.out.num.kept (World.grownBy_alloc _ _ none) (by simp)).kept hgrow (fun e => own_map_ne hownA A4.out.num.obj e.symm))
              have HO6 := Lib.hid hown'
              have X6 : Hid (w6.cell? ⟨w.heap.size + 1, 0, none⟩ = some (.map (some w.heap.size))) := grown_cell hgrow (past A4.out.box _) (fun e => by have := (hownA.lt _ e).1; omega)
              clear hown' hgrow hownA
              go_wp2
              go_roundw
              case rel =>
                refine ⟨k + 1, n3, f3, by rw [HBL.out]; omega, by go_num, ?_, ?_, X6.out, N6.out, ?_, by omega, b6⟩
                · rw [HOS.out, HNE2.out, List.length_append, List.map_append]; exact HO6.out
                · rw [HUS.out, HNE.out]; exact S6.out
                · rw [HUS.out, HNE.out]; exact HX.out
              case measure => simp [intOf]; omega
        · have hkl : k = bs.length := by rw [HBL.out]; omega
          have hO := A3.out.own
          have hbw := A3.out.bel
          rw [hkl, ← HR.out] at hO
          have HO2 := Lib.hid (own_mono hO (show w.heap.size ≤ w.heap.size + 2 by omega))
          clear hO hkl A3
          go_wp2
          go_ret
          exact ⟨_, rfl, HO2.out, hbw⟩
end Go.Proofs.YtjobjicdfoklpaaGreatDoor
