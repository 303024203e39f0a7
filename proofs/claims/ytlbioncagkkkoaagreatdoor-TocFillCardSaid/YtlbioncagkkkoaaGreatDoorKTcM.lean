/- Plain part: different anchors for texts: the first free number. Maps of the call's own with texts as keys: a set (bool elements). Words for copies of inlines and blocks: what is not too long; blocks that are known whole. Plain laws on anchors: how long they are; what is used when the k-th one is looked for. The contract of slug.Of. Contracts of slug.copyAttr and slug.copyLine. The anchors that are left, in the box that slug.Anchors$1 takes them out of; which blocks get them. Maps of the call's own from numbers to numbers; the contract of toc.treatments. -/
import Derived.Test.YtlbioncagkkkoaaGreatDoorKPlFold
import Derived.Test.YtlbioncagkkkoaaGreatDoorKName
import Derived.Lib.ItoaNum
import Derived.Maps.Own
import Derived.Maps.OwnOps
import Derived.Maps.Views
import Derived.Maps.Keyed
import Derived.StringKeys
import Derived.Test.YtlbioncagkkkoaaGreatDoorKAppend
import Derived.Test.YtlbioncagkkkoaaGreatDoorKRFoldR
import Derived.Deep.RegionHeld3
import Derived.Deep.RegionWith
import Derived.Deep.DeepCutAuto
namespace Go.Proofs.YtlbioncagkkkoaaGreatDoor

def numB (base : ByteArray) (n : Nat) : ByteArray := (base ++ ⟨#[45]⟩) ++ ⟨(Lib.decDigits n).toArray⟩

def valD (l : List UInt8) : Nat := l.foldl (fun a c => a * 10 + (c.toNat - 48)) 0
theorem valD_snoc (l : List UInt8) (c : UInt8) : valD (l ++ [c]) = valD l * 10 + (c.toNat - 48) := by simp [valD]
theorem valD_dec (n : Nat) : valD (Lib.decDigits n) = n := by
  induction n using Nat.strongRecOn with
  | _ n ih =>
    rw [Lib.decDigits]
    split
    · have : (UInt8.ofNat (48 + n)).toNat = 48 + n := by simp; omega
      simp only [valD, List.foldl_cons, List.foldl_nil, this]; omega
    · rw [valD_snoc, ih (n / 10) (by omega)]
      have : (UInt8.ofNat (48 + n % 10)).toNat = 48 + n % 10 := by simp; omega
      rw [this]; omega
theorem numB_list (base : ByteArray) (n : Nat) : (numB base n).data.toList = base.data.toList ++ (45 :: Lib.decDigits n) := by
  simp [numB]
theorem numB_inj (base : ByteArray) (m n : Nat) (h : numB base m = numB base n) : m = n := by
  have e := congrArg (fun b => b.data.toList) h
  simp only [numB_list] at e
  have e := List.append_cancel_left e
  simp only [List.cons.injEq, true_and] at e
  have := congrArg valD e
  rwa [valD_dec, valD_dec] at this

/-- The texts that are tried for an anchor, in their order. -/
def cand (base : ByteArray) (n : Nat) : ByteArray := if n = 0 then base else numB base n
theorem cand_inj (base : ByteArray) (m n : Nat) (h : cand base m = cand base n) : m = n := by
  have hs : ∀ k, numB base k ≠ base := by
    intro k e
    have e := congrArg (fun b => b.data.toList.length) e
    simp [numB_list] at e
  unfold cand at h
  split at h <;> split at h
  · omega
  · exact absurd h.symm (hs n)
  · exact absurd h (hs m)
  · exact numB_inj base m n h

theorem nodup_len {α : Type} [DecidableEq α] : ∀ (l T : List α), l.Nodup → (∀ x ∈ l, x ∈ T) → l.length ≤ T.length
  | [], _, _, _ => Nat.zero_le _
  | a :: l, T, hn, hs => by
    have ha : a ∈ T := hs a (by simp)
    have hn' := List.nodup_cons.1 hn
    have h := nodup_len l (T.erase a) hn'.2 (fun x hx => (List.mem_erase_of_ne (fun e => hn'.1 (by rw [← e]; exact hx))).2 (hs x (by simp [hx])))
    rw [List.length_erase_of_mem ha] at h
    have : 0 < T.length := List.length_pos_of_mem ha
    simp; omega

def hasB (T : List ByteArray) (x : ByteArray) : Bool := T.any fun y => decide (y = x)
theorem hasB_iff (T : List ByteArray) (x : ByteArray) : hasB T x = true ↔ x ∈ T := by
  unfold hasB
  rw [List.any_eq_true]
  constructor
  · rintro ⟨y, hy, h⟩; rw [← of_decide_eq_true h]; exact hy
  · intro h; exact ⟨x, h, decide_eq_true rfl⟩
theorem hasB_no (T : List ByteArray) (x : ByteArray) : hasB T x = false ↔ x ∉ T := by
  rw [← hasB_iff, Bool.not_eq_true]
def firstF (T : List ByteArray) (base : ByteArray) : Nat → Nat → Nat
  | 0, n => n
  | f + 1, n => if hasB T (cand base n) then firstF T base f (n + 1) else n
/-- The number of the first text that is free. -/
def idx (T : List ByteArray) (base : ByteArray) : Nat := firstF T base (T.length + 1) 0
theorem firstF_up (T : List ByteArray) (base : ByteArray) : ∀ (f n : Nat), (∀ j, j < n → cand base j ∈ T) → n ≤ firstF T base f n ∧ (∀ j, j < firstF T base f n → cand base j ∈ T) ∧ (cand base (firstF T base f n) ∉ T ∨ firstF T base f n = n + f)
  | 0, n, h => ⟨Nat.le_refl _, h, .inr rfl⟩
  | f + 1, n, h => by
    rw [firstF]
    split
    · rename_i hm
      rw [hasB_iff] at hm
      have := firstF_up T base f (n + 1) (fun j hj => by
        rcases Nat.lt_or_ge j n with h' | h'
        · exact h j h'
        · have : j = n := by omega
          rw [this]; exact hm)
      exact ⟨by omega, this.2.1, this.2.2.imp id (fun e => by omega)⟩
    · rename_i hm
      rw [hasB_iff] at hm
      exact ⟨Nat.le_refl _, h, .inl hm⟩
theorem idx_spec (T : List ByteArray) (base : ByteArray) : cand base (idx T base) ∉ T ∧ (∀ j, j < idx T base → cand base j ∈ T) ∧ idx T base ≤ T.length := by
  obtain ⟨_, h2, h3⟩ := firstF_up T base (T.length + 1) 0 (fun j hj => by omega)
  change ∀ j, j < idx T base → cand base j ∈ T at h2
  have hle : idx T base ≤ T.length := by
    have hn : ((List.range (idx T base)).map (cand base)).Nodup := by
      rw [List.nodup_iff_pairwise_ne, List.pairwise_map]
      exact List.Pairwise.imp (fun hab e => hab (cand_inj base _ _ e)) (List.nodup_iff_pairwise_ne.1 List.nodup_range)
    have := nodup_len _ T hn (fun x hx => by
      obtain ⟨j, hj, rfl⟩ := List.mem_map.1 hx
      exact h2 j (List.mem_range.1 hj))
    simpa using this
  refine ⟨?_, h2, hle⟩
  rcases h3 with h3 | h3
  · exact h3
  · change idx T base = 0 + (T.length + 1) at h3
    omega
end Go.Proofs.YtlbioncagkkkoaaGreatDoor

namespace Go.Proofs.YtlbioncagkkkoaaGreatDoor
open Go.RowKit Go.Maps
set_option linter.unusedVariables false
set_option linter.unusedSimpArgs false

theorem keyS : Keyed Tryz.prog 9 := string_keyed Tryz.underlying9
theorem zeroB (w : World) : (zeroValue 4).run Tryz.prog w = .ok (.bool false) w := by kernel_rfl
theorem zeroI (w : World) : (zeroValue 3).run Tryz.prog w = .ok (.int .i64 0) w := by kernel_rfl
def sKey (s : ByteArray) : Lit := .string s.data.toList
theorem sKey_of (s : ByteArray) (hs : s.size ≤ maxLen) : keyOf Tryz.prog 9 (.string s) = some (sKey s) := WideMaps.keyOf_string_mk Tryz.underlying9 hs
theorem sKey_inj (s t : ByteArray) (h : sKey s = sKey t) : s = t := by
  unfold sKey at h
  injection h with h
  exact ByteArray.ext (Array.toList_inj.1 h)
theorem plainB_inv {P : Program} {e : TypeId} (he : P.underlying e = some .bool) {v : Value} {z : DataW Unit × List MemPlace} (h : plainElem P e v = some z) : ∃ x, v = .bool x ∧ z = (.lit (.bool x), []) := by
  unfold plainElem at h
  rw [he] at h
  cases v <;> simp at h
  exact ⟨_, rfl, h.symm⟩

/-- Block b is a map of at most n entries: the set S. -/
def SetAt (w : World) (b n : Nat) (S : List ByteArray) : Prop :=
  ∃ D : DataW Unit, w.ownsMap Tryz.prog 9 (plainElem Tryz.prog 4) b n D ∧ ∀ s : ByteArray, D.atKey (sKey s) (.lit (.bool false)) = .lit (.bool (hasB S s))

theorem owns_isMap {w : World} {k : TypeId} {R : Value → Option (DataW Unit × List MemPlace)} {b n : Nat} {D : DataW Unit} (h : w.ownsMap Tryz.prog k R b n D) : IsMap D := by
  obtain ⟨es, c, _, _, _, rfl⟩ := h
  exact ⟨_, rfl⟩
theorem sKey_lit (s : ByteArray) : WideAt.IsKeyLit (sKey s) := by
  unfold sKey
  simp [WideAt.IsKeyLit]

theorem SetAt.look {w : World} {b n : Nat} {S : List ByteArray} (h : SetAt w b n S) (s : ByteArray) (hs : s.size ≤ maxLen) :
    (Instr.lookup 112 (.map (some b)) (.string s) false).run Tryz.prog w = .ok (.bool (hasB S s)) w := by
  obtain ⟨D, hD, hat⟩ := h
  obtain ⟨v, ps, hrun, hv⟩ := hD.lookup keyS Tryz.underlying112 (zeroB w) (plainElem_bool Tryz.underlying4 false) (sKey_of s hs)
  obtain ⟨x, rfl, hx⟩ := plainB_inv Tryz.underlying4 hv
  rw [hat s] at hx
  simp only [Prod.mk.injEq] at hx
  have : hasB S s = x := Lit.bool.inj (DataW.lit.inj hx.1)
  subst this; exact hrun
theorem SetAt.put {w : World} {b n : Nat} {S : List ByteArray} (h : SetAt w b n S) (s : ByteArray) (hs : s.size ≤ maxLen) (hn : n < maxLen) :
    ∃ w', (Instr.mapUpdate 112 (.map (some b)) (.string s) (.bool true)).run Tryz.prog w = .ok () w' ∧ SetAt w' b (n + 1) (s :: S) ∧ w.grownBy w' (some b) := by
  obtain ⟨D, hD, hat⟩ := h
  obtain ⟨w', hrun, hD', hg⟩ := hD.update keyS Tryz.underlying112 hn (sKey_of s hs) (plainElem_bool Tryz.underlying4 true)
  refine ⟨w', hrun, ⟨_, hD', fun t => ?_⟩, hg⟩
  by_cases e : t = s
  · subst e
    rw [atKey_put_same (owns_isMap hD) (sKey_lit t)]
    simp [hasB]
  · rw [atKey_put_other (fun h => e (sKey_inj _ _ h)), hat t]
    have : hasB (s :: S) t = hasB S t := by simp [hasB, show ¬ s = t from fun h => e h.symm]
    rw [this]
theorem SetAt.made (w : World) : SetAt (w.alloc (.map #[] 0)) w.heap.size 0 [] :=
  ⟨_, World.ownsMap_made w _ _ _, fun s => rfl⟩
theorem SetAt.kept {w w' : World} {b n : Nat} {S : List ByteArray} {row : Option Nat} (h : SetAt w b n S) (hg : w.grownBy w' row) (hne : some b ≠ row) : SetAt w' b n S := by
  obtain ⟨D, hD, hat⟩ := h
  exact ⟨D, hD.kept hg hne, hat⟩
theorem SetAt.lt {w : World} {b n : Nat} {S : List ByteArray} (h : SetAt w b n S) : b < w.heap.size := by
  obtain ⟨D, hD, _⟩ := h; exact hD.lt
theorem SetAt.obj {w : World} {b n : Nat} {S : List ByteArray} (h : SetAt w b n S) : ∃ es c, w.heap[b]? = some (.map es c) := by
  obtain ⟨D, ⟨es, c, h, _⟩, _⟩ := h; exact ⟨es, c, h⟩
theorem grown_below {w w' : World} (hb : Below w.heap.size w w') : w.grownBy w' none := ⟨hb.os, hb.tape, hb.output, hb.size, fun i hi _ => hb.block i hi⟩
theorem SetAt.below {w w' : World} {b n : Nat} {S : List ByteArray} (h : SetAt w b n S) (hb : Below w.heap.size w w') : SetAt w' b n S := h.kept (grown_below hb) (by simp)

/-- A row of cells is no map. -/
theorem own_map_ne {w : World} {B : Nat} {e : TypeId} {k : Nat} {v : Value} {n : Nat} {xs : List Value} {b : Nat} (h : w.ownsRow B e k v n xs) (hm : ∃ es c, w.heap[b]? = some (.map es c)) : v.ownBlock ≠ some b := by
  obtain ⟨es, c, hm⟩ := hm
  rcases h.2 with ⟨rfl, _⟩ | ⟨g, cap, cur, rfl, _, hh, _⟩
  · simp [Value.ownBlock]
  · intro he
    have : g = b := by simpa [Value.ownBlock] using he
    subst this
    rw [hh] at hm
    cases hm
end Go.Proofs.YtlbioncagkkkoaaGreatDoor

namespace Go.Proofs.YtlbioncagkkkoaaGreatDoor
open Go.RowKit
set_option linter.unusedVariables false
set_option linter.unusedSimpArgs false

theorem infoS : (Tryz.prog.info? 9).map (fun i => (i.zero, i.size, i.bytes)) = some (some (.string ByteArray.empty), 1, 16) := by kernel_rfl
theorem str_ne {x y : ByteArray} (h : y ≠ x) : (y.toList == x.toList) = false := by
  rw [beq_eq_false_iff_ne]
  intro e
  apply h
  apply ByteArray.ext
  apply Array.toList_inj.1
  rw [← Lib.toList_data, ← Lib.toList_data, e]
theorem hasB_snoc (l : List ByteArray) (k : Nat) (y x : ByteArray) (h : l[k]? = some y) : hasB (l.take (k + 1)) x = (hasB (l.take k) x || decide (y = x)) := by
  unfold hasB; rw [List.take_add_one, h]; simp
theorem hasB_take (l : List ByteArray) (k : Nat) (x : ByteArray) (h : hasB (l.take k) x = true) : hasB l x = true := by
  rw [hasB_iff] at *; exact List.mem_of_mem_take h

theorem infoPr : (Tryz.prog.info? 58).map (fun i => (i.zero, i.size, i.bytes)) = some (some (.agg #[.string ByteArray.empty, .string ByteArray.empty]), 2, 32) := by kernel_rfl
theorem nil_owns (w : World) (B : Nat) (e : TypeId) (k : Nat) : w.ownsRow B e k (.slice none 0 0) 0 [] := ⟨by simp, .inl ⟨rfl, rfl⟩⟩

/-- While the copy of attributes is made. -/
def CpS (w w' : World) (id : ByteArray) (vc vp : Value) : Prop :=
  w'.cell? ⟨w.heap.size, 0, none⟩ = some (.string id) ∧ w'.cell? ⟨w.heap.size, 1, none⟩ = some vc ∧ w'.cell? ⟨w.heap.size, 2, none⟩ = some vp ∧ Below w.heap.size w w'
theorem CpS.grown {w w1 w2 : World} {id : ByteArray} {vc vp : Value} (h : CpS w w1 id vc vp) (hg : w1.grownBy w2 none) : CpS w w2 id vc vp :=
  ⟨grown_cell hg h.1 (by simp), grown_cell hg h.2.1 (by simp), grown_cell hg h.2.2.1 (by simp), h.2.2.2.grown hg h.2.2.2.size (by simp)⟩
theorem CpS.set {w w1 : World} {id : ByteArray} {vc vp : Value} (h : CpS w w1 id vc vp) (o : Nat) (u : Value) : CpS w (w1.setCell ⟨w.heap.size + 1, o, none⟩ u) id vc vp :=
  ⟨by rw [World.cell?_setCell_other _ _ _ _ (by simp)]; exact h.1, by rw [World.cell?_setCell_other _ _ _ _ (by simp)]; exact h.2.1, by rw [World.cell?_setCell_other _ _ _ _ (by simp)]; exact h.2.2.1, h.2.2.2.setCell (p := ⟨w.heap.size + 1, o, none⟩) (by simp) u⟩

/-- The block of the result, as it was made. -/
def RB (w w' : World) : Prop := w'.heap[w.heap.size + 1]? = some (.cells #[.string ⟨#[]⟩, .slice none 0 0, .slice none 0 0] 44 (0, 0))
theorem RB.grown {w w1 w2 : World} (h : RB w w1) (hg : w1.grownBy w2 none) : RB w w2 := (hg.block _ (by unfold RB at h; exact (Array.getElem?_eq_some_iff.1 h).1) (by simp)).trans h
theorem RB.cells {w w' : World} (h : RB w w') : w'.cell? ⟨w.heap.size + 1, 0, none⟩ = some (.string ⟨#[]⟩) ∧ w'.cell? ⟨w.heap.size + 1, 1, none⟩ = some (.slice none 0 0) ∧ w'.cell? ⟨w.heap.size + 1, 2, none⟩ = some (.slice none 0 0) ∧ w'.frozen? ⟨w.heap.size + 1, 0, none⟩ = false ∧ w'.frozen? ⟨w.heap.size + 1, 1, none⟩ = false ∧ w'.frozen? ⟨w.heap.size + 1, 2, none⟩ = false := by
  unfold RB at h
  simp [World.cell?, World.frozen?, h]

theorem own_set {w : World} {B : Nat} {e : TypeId} {k : Nat} {v : Value} {n : Nat} {xs : List Value} (h : w.ownsRow B e k v n xs) (p : Addr) (u : Value) (hne : v.ownBlock ≠ some p.block) : (w.setCell p u).ownsRow B e k v n xs := by
  refine ⟨h.1, ?_⟩
  rcases h.2 with h0 | ⟨g, cap, cur, rfl, hg, hh, r⟩
  · exact .inl h0
  · exact .inr ⟨g, cap, cur, rfl, hg, (Below.heap_setCell w p u g (fun e' => hne (by rw [← e']; rfl))).trans hh, r⟩
theorem own_rb {w w' : World} {B : Nat} {e : TypeId} {k : Nat} {v : Value} {n : Nat} {xs : List Value} (h : w'.ownsRow B e k v n xs) (hr : RB w w') (hne : e ≠ 44) : v.ownBlock ≠ some (w.heap.size + 1) := by
  rcases h.2 with ⟨rfl, _⟩ | ⟨g, cap, cur, rfl, hg, hh, r⟩
  · simp [Value.ownBlock]
  · intro he
    have : g = w.heap.size + 1 := by simpa [Value.ownBlock] using he
    subst this
    unfold RB at hr
    rw [hr] at hh
    injection hh with hh
    injection hh with _ ht
    exact hne ht.symm
/-- Data without slices read alike in every world. -/
theorem RdL.strs_any {ok ok' : Nat → Prop} {w w' : World} {l : List ByteArray} {rows : List (List Value)} (h : RdL ok w (l.map D.str) rows) : RdL ok' w' (l.map D.str) rows := by
  rw [RdL.strs_rows l rows h]; exact RdL.strs l
theorem RdL.prs_any {ok ok' : Nat → Prop} {w w' : World} : ∀ {l : List Pr} {rows : List (List Value)}, RdL ok w (l.map Pr.d) rows → RdL ok' w' (l.map Pr.d) rows
  | [], _, h => by rw [h.nil_open]; exact RdL.none
  | p :: l, _, h => by
    obtain ⟨r, rs, rfl, h1, h2⟩ := RdL.cons_open (d := p.d) (ds := l.map Pr.d) h
    rw [Pr.open_ h1]
    exact RdL.cons (Pr.mk_ ok' w' p) (RdL.prs_any h2)
theorem RdL.cis_any {ok ok' : Nat → Prop} {w w' : World} : ∀ {l : List Ci} {rows : List (List Value)}, RdL ok w (l.map Ci.d) rows → RdL ok' w' (l.map Ci.d) rows
  | [], _, h => by rw [h.nil_open]; exact RdL.none
  | p :: l, _, h => by
    obtain ⟨r, rs, rfl, h1, h2⟩ := RdL.cons_open (d := p.d) (ds := l.map Ci.d) h
    rw [Ci.open_ h1]
    exact RdL.cons (Ci.mk_ ok' w' p) (RdL.cis_any h2)

theorem infoIn : (Tryz.prog.info? 47).map (fun i => (i.zero, i.size, i.bytes)) = some (some (.agg #[.int .i64 0, .string ByteArray.empty, .string ByteArray.empty, .string ByteArray.empty, .string ByteArray.empty, .slice none 0 0, .slice none 0 0, .slice none 0 0, .slice none 0 0, .slice none 0 0]), 10, 192) := by kernel_rfl
theorem infoCi : (Tryz.prog.info? 96).map (fun i => (i.zero, i.size, i.bytes)) = some (some (.agg #[.string ByteArray.empty, .string ByteArray.empty, .string ByteArray.empty, .bool false]), 4, 56) := by kernel_rfl
mutual
/-- What is not too long. -/
def Inl.bd : Inl → Prop
  | .mk _ _ _ _ a ar ci ks => a.cls.length ≤ 1000000 ∧ a.prs.length ≤ 1000000 ∧ ar.length ≤ 1000000 ∧ ci.length ≤ 1000000 ∧ Inl.bdL ks
def Inl.bdL : List Inl → Prop
  | [] => True
  | x :: l => x.bd ∧ Inl.bdL l
end
theorem Inl.bdL_get : ∀ (l : List Inl) (k : Nat) (x : Inl), Inl.bdL l → l[k]? = some x → x.bd
  | [], _, _, _, h => by simp at h
  | y :: l, 0, x, hb, h => by simp at h; subst h; rw [Inl.bdL] at hb; exact hb.1
  | y :: l, k + 1, x, hb, h => by rw [Inl.bdL] at hb; exact Inl.bdL_get l k x hb.2 (by simpa using h)
theorem Inl.sz_pos (x : Inl) : 1 ≤ x.sz := by cases x; rw [Inl.sz]; omega
theorem Inl.len_le : ∀ (l : List Inl), l.length ≤ Inl.szL l
  | [] => by simp
  | x :: l => by have := Inl.len_le l; have := x.sz_pos; rw [Inl.szL]; simp; omega

/-- The cells of the copy in its block. -/
def PB (p : Nat) (cs : List Value) (w : World) : Prop := w.heap[p]? = some (.cells cs.toArray 47 (0, 0))
theorem PB.cell {p : Nat} {cs : List Value} {w : World} (h : PB p cs w) (j : Nat) (u : Value) (hu : cs[j]? = some u) : w.cell? ⟨p, j, none⟩ = some u := by
  unfold PB at h
  simp [World.cell?, h, hu]
theorem PB.free {p : Nat} {cs : List Value} {w : World} (h : PB p cs w) (j : Nat) : w.frozen? ⟨p, j, none⟩ = false := by
  unfold PB at h
  simp [World.frozen?, h]
theorem PB.set {p : Nat} {cs : List Value} {w : World} (h : PB p cs w) (j : Nat) (u : Value) : PB p (cs.set j u) (w.setCell ⟨p, j, none⟩ u) := by
  unfold PB at h ⊢
  simp [World.setCell, Array.getElem?_modify, h]
theorem PB.grown {p : Nat} {cs : List Value} {w w' : World} (h : PB p cs w) (hg : w.grownBy w' none) : PB p cs w' := (hg.block p (by unfold PB at h; exact (Array.getElem?_eq_some_iff.1 h).1) (by simp)).trans h
theorem PB.lt {p : Nat} {cs : List Value} {w : World} (h : PB p cs w) : p < w.heap.size := by unfold PB at h; exact (Array.getElem?_eq_some_iff.1 h).1

/-- The state of a round: the copy's block p with its cells; what has been collected; what lay there. -/
structure CL (w : World) (p : Nat) (cs : List Value) (v : Value) (n : Nat) (rows : List (List Value)) (l : List Inl) (wr : World) : Prop where
  own : wr.ownsRow w.heap.size 47 10 v n rows.flatten
  red : RdL (fun b => w.heap.size ≤ b ∧ v.ownBlock ≠ some b ∧ b ≠ p) wr (l.map Inl.d) rows
  pb : PB p cs wr
  bel : Below w.heap.size w wr
theorem CL.grown {w : World} {p : Nat} {cs : List Value} {v : Value} {n : Nat} {rows : List (List Value)} {l : List Inl} {wr w' : World} (h : CL w p cs v n rows l wr) (hg : wr.grownBy w' none) : CL w p cs v n rows l w' :=
  ⟨h.own.kept hg (by cases v.ownBlock <;> simp), RdL.keep (fun b hb hlt => ⟨hb, hg.block b hlt (by simp)⟩) _ _ h.red, h.pb.grown hg, h.bel.grown hg h.bel.size (by simp)⟩
theorem CL.set {w : World} {p : Nat} {cs : List Value} {v : Value} {n : Nat} {rows : List (List Value)} {l : List Inl} {wr : World} (h : CL w p cs v n rows l wr) (hp : w.heap.size ≤ p) (hv : v.ownBlock ≠ some p) (j : Nat) (u : Value) : CL w p (cs.set j u) v n rows l (wr.setCell ⟨p, j, none⟩ u) :=
  ⟨own_set h.own ⟨p, j, none⟩ u hv, RdL.keep (fun b hb hlt => ⟨hb, Below.heap_setCell wr ⟨p, j, none⟩ u b hb.2.2⟩) _ _ h.red, h.pb.set j u, h.bel.setCell (p := ⟨p, j, none⟩) hp u⟩

/-- Blocks above p stay. -/
def Above (p : Nat) (w w' : World) : Prop := ∀ b, p < b → b < w.heap.size → w'.heap[b]? = w.heap[b]?
theorem Above.grown {p : Nat} {w w' : World} (hg : w.grownBy w' none) : Above p w w' := fun b _ hlt => hg.block b hlt (by simp)
theorem Above.set {p : Nat} {w : World} (j : Nat) (u : Value) : Above p w (w.setCell ⟨p, j, none⟩ u) := fun b hb _ => Below.heap_setCell w ⟨p, j, none⟩ u b (by show b ≠ p; omega)
theorem Rd.above {p : Nat} {w w' : World} {d : D} {cs : List Value} (h : Rd (p < ·) w d cs) (ha : Above p w w') : Rd (p < ·) w' d cs :=
  Rd.keep (fun b hb hlt => ⟨hb, ha b hb hlt⟩) d cs h
theorem Rd.weaken {ok ok' : Nat → Prop} {w : World} {d : D} {cs : List Value} (h : Rd ok w d cs) (hk : ∀ b, ok b → ok' b) : Rd ok' w d cs :=
  Rd.keep (fun b hb _ => ⟨hk b hb, rfl⟩) d cs h
theorem AtR.above {p : Nat} {w w' : World} {a : At} {vc vp : Value} (h : AtR (p < ·) w a vc vp) (ha : Above p w w') : AtR (p < ·) w' a vc vp := ⟨h.cls.above ha, h.prs.above ha⟩
theorem AtR.weaken {ok ok' : Nat → Prop} {w : World} {a : At} {vc vp : Value} (h : AtR ok w a vc vp) (hk : ∀ b, ok b → ok' b) : AtR ok' w a vc vp := ⟨h.cls.weaken hk, h.prs.weaken hk⟩
theorem AtR.below {B : Nat} {w w' : World} {a : At} {vc vp : Value} (h : AtR (· < B) w a vc vp) (hb : Below B w w') : AtR (· < B) w' a vc vp := ⟨h.cls.below hb, h.prs.below hb⟩

theorem InCells.below {w w' : World} {b o : Nat} {k : Int} {t d ti id : ByteArray} {vc vp va vi vk : Value} (h : InCells w b o k t d ti id vc vp va vi vk) (hb : Below w.heap.size w w') : InCells w' b o k t d ti id vc vp va vi vk := by
  have hl := cell_lt h.c0
  have f : ∀ q, w'.cell? ⟨b, q, none⟩ = w.cell? ⟨b, q, none⟩ := fun q => hb.cell (p := ⟨b, q, none⟩) hl
  obtain ⟨c0, c1, c2, c3, c4, c5, c6, c7, c8, c9⟩ := h
  exact ⟨by rw [f]; exact c0, by rw [f]; exact c1, by rw [f]; exact c2, by rw [f]; exact c3, by rw [f]; exact c4, by rw [f]; exact c5, by rw [f]; exact c6, by rw [f]; exact c7, by rw [f]; exact c8, by rw [f]; exact c9⟩

/-- At the head of each round. -/
def LcRel (w wr : World) (l : List Inl) (v vi : Value) : Prop :=
  ∃ (k : Nat) (rows : List (List Value)), k ≤ l.length ∧ vi = .int .i64 k ∧ wr.ownsRow w.heap.size 47 10 v k rows.flatten ∧ RdL (fun b => w.heap.size ≤ b ∧ v.ownBlock ≠ some b) wr ((l.take k).map Inl.d) rows ∧ (∀ r ∈ rows, r.length = 10) ∧ Below w.heap.size w wr
def LcPost (w : World) (l : List Inl) (e : Ending) (w' : World) : Prop := ∃ v, e = .returned v ∧ Rd (w.heap.size ≤ ·) w' (inlsD l) [v] ∧ Below w.heap.size w w'

theorem infoBl : (Tryz.prog.info? 53).map (fun i => (i.zero, i.size, i.bytes)) = some (some (.agg #[.int .i64 0, .int .i64 0, .string ByteArray.empty, .string ByteArray.empty, .string ByteArray.empty, .string ByteArray.empty, .string ByteArray.empty, .slice none 0 0, .slice none 0 0, .slice none 0 0, .slice none 0 0]), 11, 192) := by kernel_rfl
mutual
def Blk.bd : Blk → Prop
  | .mk _ _ _ _ _ _ a li ks => a.cls.length ≤ 1000000 ∧ a.prs.length ≤ 1000000 ∧ Inl.bdL li ∧ Inl.szL li ≤ 1000000 ∧ Blk.bdL ks
def Blk.bdL : List Blk → Prop
  | [] => True
  | x :: l => x.bd ∧ Blk.bdL l
end
theorem Blk.bdL_get : ∀ (l : List Blk) (k : Nat) (x : Blk), Blk.bdL l → l[k]? = some x → x.bd
  | [], _, _, _, h => by simp at h
  | y :: l, 0, x, hb, h => by simp at h; subst h; rw [Blk.bdL] at hb; exact hb.1
  | y :: l, k + 1, x, hb, h => by rw [Blk.bdL] at hb; exact Blk.bdL_get l k x hb.2 (by simpa using h)
theorem Blk.sz_pos (x : Blk) : 1 ≤ x.sz := by cases x; rw [Blk.sz]; omega
theorem Blk.len_le : ∀ (l : List Blk), l.length ≤ Blk.szL l
  | [] => by simp
  | x :: l => by have := Blk.len_le l; have := x.sz_pos; rw [Blk.szL]; simp; omega

def QB (p : Nat) (cs : List Value) (w : World) : Prop := w.heap[p]? = some (.cells cs.toArray 53 (0, 0))
section
variable {p : Nat} {cs : List Value} {w w' : World}
theorem QB.cell (h : QB p cs w) (j : Nat) (u : Value) (hu : cs[j]? = some u) : w.cell? ⟨p, j, none⟩ = some u := by
  unfold QB at h
  simp [World.cell?, h, hu]
theorem QB.free (h : QB p cs w) (j : Nat) : w.frozen? ⟨p, j, none⟩ = false := by
  unfold QB at h
  simp [World.frozen?, h]
theorem QB.set (h : QB p cs w) (j : Nat) (u : Value) : QB p (cs.set j u) (w.setCell ⟨p, j, none⟩ u) := by
  unfold QB at h ⊢
  simp [World.setCell, Array.getElem?_modify, h]
theorem QB.lt (h : QB p cs w) : p < w.heap.size := by unfold QB at h; exact (Array.getElem?_eq_some_iff.1 h).1
theorem QB.grown (h : QB p cs w) {row : Option Nat} (hg : w.grownBy w' row) (hne : some p ≠ row) : QB p cs w' := (hg.block p h.lt hne).trans h
end

theorem BlCells.grown {w w' : World} {b o : Nat} {k lv : Int} {i t d ti id : ByteArray} {vc vp vl vk : Value} (h : BlCells w b o k lv i t d ti id vc vp vl vk) {row : Option Nat} (hg : w.grownBy w' row) (hne : row ≠ some b) : BlCells w' b o k lv i t d ti id vc vp vl vk := by
  obtain ⟨c0, c1, c2, c3, c4, c5, c6, c7, c8, c9, c10⟩ := h
  exact ⟨grown_cell hg c0 hne, grown_cell hg c1 hne, grown_cell hg c2 hne, grown_cell hg c3 hne, grown_cell hg c4 hne, grown_cell hg c5 hne, grown_cell hg c6 hne, grown_cell hg c7 hne, grown_cell hg c8 hne, grown_cell hg c9 hne, grown_cell hg c10 hne⟩

theorem Rd.sl_form {ok : Nat → Prop} {w : World} {k : Nat} {l : List D} {v : Value} (h : Rd ok w (.sl k l) [v]) : ∃ a n c, v = .slice a n c := by
  obtain ⟨a', c', h', _⟩ := Rd.sl_open h
  exact ⟨_, _, _, by simpa using h'⟩

end Go.Proofs.YtlbioncagkkkoaaGreatDoor

namespace Go.Proofs.YtlbioncagkkkoaaGreatDoor
open Go.RowKit
set_option linter.unusedVariables false
set_option linter.unusedSimpArgs false

theorem dec_len (n : Nat) : (Lib.decDigits n).length ≤ n + 1 := by
  induction n using Nat.strongRecOn with
  | _ n ih =>
    rw [Lib.decDigits]
    split
    · simp
    · have := ih (n / 10) (by omega)
      simp; omega
end Go.Proofs.YtlbioncagkkkoaaGreatDoor

namespace Go.Proofs.YtlbioncagkkkoaaGreatDoor
open Go.RowKit
set_option linter.unusedVariables false
set_option linter.unusedSimpArgs false

end Go.Proofs.YtlbioncagkkkoaaGreatDoor

namespace Go.Proofs.YtlbioncagkkkoaaGreatDoor
open Go.RowKit
set_option linter.unusedVariables false
set_option linter.unusedSimpArgs false

end Go.Proofs.YtlbioncagkkkoaaGreatDoor

namespace Go.Proofs.YtlbioncagkkkoaaGreatDoor
open Go.RowKit
set_option linter.unusedVariables false
set_option linter.unusedSimpArgs false

mutual
/-- How many headings have no identifier. -/
def Blk.bare : Blk → Nat
  | .mk k _ _ _ _ _ a _ ks => (if k = 2 ∧ a.id.data.toList = [] then 1 else 0) + Blk.bareL ks
def Blk.bareL : List Blk → Nat
  | [] => 0
  | x :: l => x.bare + Blk.bareL l
end
/-- The box bx holds a slice of the anchors A; they lie below it. -/
def BxAt (w : World) (bx : Nat) (A : List ByteArray) : Prop :=
  ∃ a cap, w.heap[bx]? = some (.cells #[.slice a A.length cap] 40 (0, 0)) ∧ A.length ≤ cap ∧ cap ≤ maxLen ∧ Reads w bx 1 a A.length (A.map Value.string)
theorem BxAt.keep {w w' : World} {bx : Nat} {A : List ByteArray} (h : BxAt w bx A) (hk : ∀ b, b ≤ bx → w'.heap[b]? = w.heap[b]?) : BxAt w' bx A := by
  obtain ⟨a, cap, h1, h2, h3, h4⟩ := h
  exact ⟨a, cap, (hk bx (Nat.le_refl _)).trans h1, h2, h3, h4.keep fun p hp => World.cell?_of_block (hk _ (Nat.le_of_lt hp))⟩

/-- The box behind a store. -/
theorem BxAt.put {w : World} {bx : Nat} {old : Value} (h1 : w.heap[bx]? = some (.cells #[old] 40 (0, 0))) {A : List ByteArray} {a : Option Addr} {cap : Nat} (hc : A.length ≤ cap) (hm : cap ≤ maxLen) (hr : Reads w bx 1 a A.length (A.map Value.string)) :
    BxAt (w.setCell ⟨bx, 0, none⟩ (.slice a A.length cap)) bx A := by
  refine ⟨a, cap, by simp [World.setCell, Array.getElem?_modify, h1], hc, hm, hr.setCell (p := ⟨bx, 0, none⟩) (Nat.le_refl _) _⟩

end Go.Proofs.YtlbioncagkkkoaaGreatDoor

namespace Go.Proofs.YtlbioncagkkkoaaGreatDoor
open Go.RowKit Go.Maps
set_option linter.unusedVariables false
set_option linter.unusedSimpArgs false

theorem keyI : Keyed Tryz.prog 3 := int_keyed Tryz.underlying3
def iKey (n : Int) : Lit := .int .i64 n
theorem iKey_inj (a b : Int) (h : iKey a = iKey b) : a = b := (Lit.int.inj h).2
theorem iKey_lit (a : Int) : WideAt.IsKeyLit (iKey a) := by
  unfold iKey; simp [WideAt.IsKeyLit]
def IntAt (w : World) (b n : Nat) (f : Int → Int) : Prop :=
  ∃ D : DataW Unit, w.ownsMap Tryz.prog 3 (plainElem Tryz.prog 3) b n D ∧ ∀ s : Int, D.atKey (iKey s) (.lit (.int .i64 0)) = .lit (.int .i64 (f s))
theorem IntAt.look {w : World} {b n : Nat} {f : Int → Int} (h : IntAt w b n f) (s : Int) (hs : (Lit.int .i64 s).wf = true) :
    (Instr.lookup 62 (.map (some b)) (.int .i64 s) false).run Tryz.prog w = .ok (.int .i64 (f s)) w := by
  obtain ⟨D, hD, hat⟩ := h
  obtain ⟨c, hrun, hc, _⟩ := hD.lookup_int keyI Tryz.underlying62 Tryz.underlying3 (zeroI w) (keyOf_int_mk Tryz.underlying3 hs)
  have hc' := hat s
  unfold iKey at hc'
  rw [hc'] at hc
  have : f s = c := (Lit.int.inj (DataW.lit.inj hc)).2
  subst this; exact hrun
theorem IntAt.put {w : World} {b n : Nat} {f : Int → Int} (h : IntAt w b n f) (s x : Int) (hs : (Lit.int .i64 s).wf = true) (hn : n < maxLen) (hx : (Lit.int .i64 x).wf = true) :
    ∃ w', (Instr.mapUpdate 62 (.map (some b)) (.int .i64 s) (.int .i64 x)).run Tryz.prog w = .ok () w' ∧ IntAt w' b (n + 1) (fun t => if t = s then x else f t) ∧ w.grownBy w' (some b) := by
  obtain ⟨D, hD, hat⟩ := h
  obtain ⟨w', hrun, hD', hg⟩ := hD.update keyI Tryz.underlying62 hn (keyOf_int_mk Tryz.underlying3 hs) (plainElem_int Tryz.underlying3 hx)
  refine ⟨w', hrun, ⟨_, hD', fun t => ?_⟩, hg⟩
  by_cases e : t = s
  · subst e
    show (D.put (iKey t) _).atKey _ _ = _
    rw [atKey_put_same (owns_isMap hD) (iKey_lit t)]
    show _ = DataW.lit (.int .i64 (if t = t then x else f t))
    rw [if_pos rfl]
  · show (D.put (iKey s) _).atKey _ _ = _
    rw [atKey_put_other (fun h => e (iKey_inj _ _ h)), hat t]
    show _ = DataW.lit (.int .i64 (if t = s then x else f t))
    rw [if_neg e]
theorem IntAt.made (w : World) : IntAt (w.alloc (.map #[] 0)) w.heap.size 0 (fun _ => 0) :=
  ⟨_, World.ownsMap_made w _ _ _, fun s => rfl⟩
theorem IntAt.kept {w w' : World} {b n : Nat} {f : Int → Int} {row : Option Nat} (h : IntAt w b n f) (hg : w.grownBy w' row) (hne : some b ≠ row) : IntAt w' b n f := by
  obtain ⟨D, hD, hat⟩ := h
  exact ⟨D, hD.kept hg hne, hat⟩
theorem IntAt.lt {w : World} {b n : Nat} {f : Int → Int} (h : IntAt w b n f) : b < w.heap.size := by
  obtain ⟨D, hD, _⟩ := h; exact hD.lt
theorem IntAt.below {w w' : World} {b n : Nat} {f : Int → Int} (h : IntAt w b n f) (hb : Below w.heap.size w w') : IntAt w' b n f := h.kept (grown_below hb) (by simp)
theorem IntAt.congr {w : World} {b n : Nat} {f g : Int → Int} (h : IntAt w b n f) (he : ∀ x, f x = g x) : IntAt w b n g := by rw [← funext he]; exact h

/-- What happens to an inline of a kind. -/
def howF (k : Int) : Int :=
  if k = 9 ∨ k = 11 then 1 else if k = 12 ∨ k = 14 ∨ k = 13 then 2 else if k = 2 ∨ k = 3 then 3 else if k = 16 then 4 else if k = 10 then 5 else if k = 6 ∨ k = 7 ∨ k = 8 then 6 else 0

set_option maxRecDepth 100000 in
set_option maxHeartbeats 4000000 in
theorem treatments_any (w : World) :
    Calls Tryz.prog 25 #[] w fun e w' => e = .returned (.map (some w.heap.size)) ∧ IntAt w' w.heap.size 12 howF ∧ Below w.heap.size w w' := by
  have A0 := IntAt.made w
  have g0 : Below w.heap.size w (w.alloc (.map #[] 0)) := (Below.refl _ _).alloc (Nat.le_refl _) _
  have hz0 : w.heap.size ≤ (w.alloc (.map #[] 0)).heap.size := by simp
  obtain ⟨w1, r1, A1, g1⟩ := A0.put 9 1 (by decide) (by decide) (by decide)
  obtain ⟨w2, r2, A2, g2⟩ := A1.put 11 1 (by decide) (by decide) (by decide)
  obtain ⟨w3, r3, A3, g3⟩ := A2.put 12 2 (by decide) (by decide) (by decide)
  obtain ⟨w4, r4, A4, g4⟩ := A3.put 14 2 (by decide) (by decide) (by decide)
  obtain ⟨w5, r5, A5, g5⟩ := A4.put 13 2 (by decide) (by decide) (by decide)
  obtain ⟨w6, r6, A6, g6⟩ := A5.put 2 3 (by decide) (by decide) (by decide)
  obtain ⟨w7, r7, A7, g7⟩ := A6.put 3 3 (by decide) (by decide) (by decide)
  obtain ⟨w8, r8, A8, g8⟩ := A7.put 16 4 (by decide) (by decide) (by decide)
  obtain ⟨w9, r9, A9, g9⟩ := A8.put 10 5 (by decide) (by decide) (by decide)
  obtain ⟨w10, r10, A10, g10⟩ := A9.put 6 6 (by decide) (by decide) (by decide)
  obtain ⟨w11, r11, A11, g11⟩ := A10.put 7 6 (by decide) (by decide) (by decide)
  obtain ⟨w12, r12, A12, g12⟩ := A11.put 8 6 (by decide) (by decide) (by decide)
  have gg := grown_trans (grown_trans (grown_trans (grown_trans (grown_trans (grown_trans g1 g2) (grown_trans g3 g4)) (grown_trans g5 g6)) (grown_trans g7 g8)) (grown_trans g9 g10)) (grown_trans g11 g12)
  have HB := Lib.hid (g0.grown gg hz0 (fun j hj => by rw [← Option.some.inj hj]; exact Nat.le_refl _))
  have HA := Lib.hid (A12.congr (g := howF) (fun x => by
    unfold howF
    by_cases h1 : x = 8; · subst h1; rfl
    by_cases h2 : x = 7; · subst h2; rfl
    by_cases h3 : x = 6; · subst h3; rfl
    by_cases h4 : x = 10; · subst h4; rfl
    by_cases h5 : x = 16; · subst h5; rfl
    by_cases h6 : x = 3; · subst h6; rfl
    by_cases h7 : x = 2; · subst h7; rfl
    by_cases h8 : x = 13; · subst h8; rfl
    by_cases h9 : x = 14; · subst h9; rfl
    by_cases h10 : x = 12; · subst h10; rfl
    by_cases h11 : x = 11; · subst h11; rfl
    by_cases h12 : x = 9; · subst h12; rfl
    simp [h1, h2, h3, h4, h5, h6, h7, h8, h9, h10, h11, h12]))
  clear A0 A1 A2 A3 A4 A5 A6 A7 A8 A9 A10 A11 A12 g0 g1 g2 g3 g4 g5 g6 g7 g8 g9 g10 g11 g12 gg hz0
  have mk := @run_makeMap Tryz.prog
  go_enter Tryz.func25, Tryz.ntmps25
  go_wp2
  go_wp2
  go_ret
  exact ⟨rfl, HA.out, HB.out⟩
end Go.Proofs.YtlbioncagkkkoaaGreatDoor
