/- tree.Each: what the function that it returns does with a loop's body. Plain part: what a small document's parts are bounded by. Maps of the call's own from texts to truth values; what the loops of count.Notes keep. Plain part: what the entries of a well-formed document have. Plain part: how many bytes of text inlines give to an entry line. Contract of publisherref24.tidy. -/
import Derived.Test.YtlbioncagkkkoaaGreatDoorKEach
import Derived.Laws.EntriesVeiled
import Derived.Test.YtlbioncagkkkoaaGreatDoorKSmall
import Derived.Test.YtlbioncagkkkoaaGreatDoorKInlines
import Derived.Test.YtlbioncagkkkoaaGreatDoorKEnW
import Derived.Maps.AppendAt
import Derived.Test.YtlbioncagkkkoaaGreatDoorKTcE
import Derived.Test.YtlbioncagkkkoaaGreatDoorKRMergO
namespace Go.Proofs.YtlbioncagkkkoaaGreatDoor
open Go.RowKit Go.Shelf
set_option linter.unusedVariables false
set_option linter.unusedSimpArgs false

attribute [local go_sem] Oper.semAt_some

theorem grownDrew (W : World) : W.grownBy W.drew none := ⟨rfl, rfl, rfl, Nat.le_refl _, fun _ _ _ => rfl⟩

set_option maxRecDepth 100000 in
set_option maxHeartbeats 4000000 in
theorem each1_in (n l Bl B0 : Nat) (P : Blk → Prop) (bs : List Blk) (v : Value) (w0 : World) (Kp : World → World → Prop) (hK : KpOk B0 Kp) (J Jx : List (BW B0 w0 P) → World → Prop) (W : World)
    (hJ : AbidesFrom W.heap.size J)
    (hY : ∀ (m : Nat) (pre : List (BW B0 w0 P)) (x : BW B0 w0 P) (W1 : World), J pre W1 → pre.length < (Blk.eachL bs).length → YieldAt Fence.wide m Tryz.prog l #[x.1.enc] W1 fun e W' =>
      (e = .returned (.bool true) ∧ J (pre ++ [x]) W' ∧ Kp W1 W') ∨ (e = .returned (.bool false) ∧ Jx (pre ++ [x]) W'))
    (hPb : ∀ b ∈ Blk.eachL bs, P b) (hrd : Rd (· < B0) w0 (blksD bs) [v]) (hbel : Below B0 w0 W) (hB0 : B0 ≤ W.heap.size) (hBl : Box1 Bl v 23 W) (h0 : J [] W) :
    CallsIn Fence.wide n Tryz.prog 111 #[.func (.yield l) #[] #[], .pointer (some ⟨Bl, 0, none⟩)] W fun e W' => (∃ v, e = .returned v) ∧
      ((∃ xs, blksOf xs = Blk.eachL bs ∧ J xs W') ∨ (∃ pre, blksOf pre <+: Blk.eachL bs ∧ Jx pre W')) := by
  obtain ⟨va, vn, vc, rfl⟩ := Rd.sl_form hrd
  have hdd : ∀ k : Nat, (Fence.wide.depth.isSome = true → 1 ≤ k) := fun k h => by cases h
  have HC : Hid (∀ (m : Nat) (w2 : World), Below B0 w0 w2 → EB l W.heap.size (W.heap.size + 1) w2 → J [] w2 → _) := fun m w2 h1 h2 h3 =>
    each11_in l B0 W.heap.size (W.heap.size + 1) (Blk.eachL bs).length P w0 Kp hK J Jx (fun pre W1 h => hJ pre W1 W1.drew none h (grownDrew W1) (fun r e => by cases e)) hY (Blk.szL bs) m bs (.slice va vn vc) [] w2 (Nat.le_refl _) hPb hrd h1 h2 h3 (by simp)
  have HJ := Lib.hid hJ
  have HB := Lib.hid hBl
  have HBEL := Lib.hid hbel
  have H0 := Lib.hid h0
  obtain ⟨p, hp⟩ : ∃ p, p = W.heap.size := ⟨_, rfl⟩
  rw [← hp] at HC
  clear hK hY hrd hbel hBl h0 hJ
  refine callsIn_of_wp Tryz.func111 rfl trivial ?_ rfl
  simp only [Tryz.ntmps111, List.size_toArray, List.length_cons, List.length_nil, Nat.reduceAdd, Nat.reduceSub, Array.replicate_succ, Array.replicate_zero, List.push_toArray, List.append_toArray, List.nil_append, List.cons_append]
  gi_upto_region 2 with (fail)
  obtain ⟨wA, hwA⟩ : ∃ wA, wA = (W.alloc (.cells #[.func (.yield l) #[] #[]] 106)).alloc (.cells #[.nilFunc] 145) := ⟨_, rfl⟩
  have b0 : Box1 p (.func (.yield l) #[] #[]) 106 wA := by rw [hwA, hp]; exact (Box1.new W _ _).alloc _
  have b1 : Box1 (p + 1) .nilFunc 145 wA := by
    rw [hwA, hp]
    have := Box1.new (W.alloc (.cells #[.func (.yield l) #[] #[]] 106)) .nilFunc 145
    rwa [World.size_alloc] at this
  have gA : Below p W wA := by rw [hwA, hp]; exact ((Below.refl _ _).alloc (Nat.le_refl _) _).alloc (by simp) _
  rw [← hwA, ← hp]
  rw [← hp] at hB0
  have HP := Lib.hid hp
  clear hwA hp
  have c1 := b1.cell
  have f1 := b1.free
  gi_upto_region 3 with (fail)
  obtain ⟨wB, hwB⟩ : ∃ wB, wB = wA.setCell ⟨p + 1, 0, none⟩ (eachF p (p + 1)) := ⟨_, rfl⟩
  have d0 : Box1 p (.func (.yield l) #[] #[]) 106 wB := by rw [hwB]; exact b0.far (by omega) _
  have d1 : Box1 (p + 1) (eachF p (p + 1)) 145 wB := by rw [hwB]; exact b1.set _
  have gB : Below p W wB := by rw [hwB]; exact gA.setCell (p := ⟨p + 1, 0, none⟩) (by show p ≤ p + 1; omega) _
  have cl : wB.cell? ⟨Bl, 0, none⟩ = some (.slice va vn vc) := (HB.out.below (by have := HB.out.lt; rw [HP.out]; exact this) gB).cell
  have c2 := d1.cell
  have HD := Lib.hid (HC.out (n - 1) wB (HBEL.out.trans (gB.mono hB0)) ⟨d0, d1⟩ (HJ.out [] W wB none H0.out ⟨gB.os, gB.tape, gB.output, gB.size, fun k hk _ => gB.block k (by rw [HP.out]; exact hk)⟩ (fun r e => by cases e)))
  unfold eachF at hwB c2
  rw [← hwB]
  clear hwB b0 b1 gA c1 f1 d0 d1 gB
  gi_wp2_with (first
    | (refine ⟨trivial, hdd _, ?_⟩; refine HD.out.mono ?_; clear HD; rintro e W1 (⟨rfl, q, hq, hJ1, hb1, hE1⟩ | ⟨rfl, q, hq, hx1⟩))
    | (refine HD.out.mono ?_; clear HD; rintro e W1 (⟨rfl, q, hq, hJ1, hb1, hE1⟩ | ⟨rfl, q, hq, hx1⟩)))
  · go_end0
    exact ⟨⟨_, rfl⟩, .inl ⟨q, hq, by simpa using hJ1⟩⟩
  · go_end0
    exact ⟨⟨_, rfl⟩, .inr ⟨q, hq, by simpa using hx1⟩⟩

theorem each_stops (n Bl B0 : Nat) (P : Blk → Prop) (bs : List Blk) (v : Value) (w0 w : World) (Kp : World → World → Prop) (hK : KpOk B0 Kp) (hPb : ∀ b ∈ Blk.eachL bs, P b) (hrd : Rd (· < B0) w0 (blksD bs) [v]) (hbel : Below B0 w0 w) (hB0 : B0 ≤ w.heap.size) (hBl : Box1 Bl v 23 w) :
    SeqStopsK Fence.wide n Tryz.prog 111 #[.pointer (some ⟨Bl, 0, none⟩)] (fun x : BW B0 w0 P => #[x.1.enc]) Kp (fun xs => blksOf xs = Blk.eachL bs) (fun pre => blksOf pre <+: Blk.eachL bs) (Blk.eachL bs).length w := fun l J Jx W hW hJ hJx hY h0 =>
  each1_in n l Bl B0 P bs v w0 Kp hK J Jx W hJ (fun m pre x W1 hj hl => yieldAny rfl m (hY pre x W1 hj hl)) hPb hrd (hbel.trans (hW.mono hB0)) (Nat.le_trans hB0 hW.size) (hBl.below hBl.lt hW) h0

set_option maxHeartbeats 4000000 in
theorem each_any (va : Option Addr) (vn vc : Nat) (w : World) : Calls Tryz.prog 82 #[.slice va vn vc] w fun e w' => e = .returned (.func (.func 111) #[] #[.pointer (some ⟨w.heap.size, 0, none⟩)]) ∧ w' = w.alloc (.cells #[.slice va vn vc] 23) := by
  go_enter Tryz.func82, Tryz.ntmps82
  go_wp2
  go_ret
  exact ⟨rfl, rfl⟩
end Go.Proofs.YtlbioncagkkkoaaGreatDoor

namespace Go.Proofs.YtlbioncagkkkoaaGreatDoor
set_option linter.unusedVariables false
set_option linter.unusedSimpArgs false

mutual
theorem Inl.bd_sm : ∀ (x : Inl), x.small → x.bd
  | .mk k t d ti a ar ci ks, h => by
    unfold Inl.small at h
    obtain ⟨h1, h2, h3, h4, h5, h6, h7, h8, h9⟩ := h
    unfold At.short at h4
    have hk := Inl.bdL_sm ks h9
    unfold Inl.bd
    exact ⟨by omega, by omega, by omega, by omega, hk⟩
theorem Inl.bdL_sm : ∀ (l : List Inl), Inl.smallL l → Inl.bdL l
  | [], _ => by unfold Inl.bdL; trivial
  | x :: l, h => by
    unfold Inl.smallL at h
    unfold Inl.bdL
    exact ⟨Inl.bd_sm x h.1, Inl.bdL_sm l h.2⟩
end
mutual
theorem Blk.bd_sm : ∀ (x : Blk), x.small → x.bd
  | .mk k lv i t d ti a li ks, h => by
    unfold Blk.small at h
    obtain ⟨h1, h2, h3, h4, h5, h6, h7, h8⟩ := h
    unfold At.short at h5
    have hk := Blk.bdL_sm ks h8
    unfold Blk.bd
    exact ⟨by omega, by omega, Inl.bdL_sm li h6, by omega, hk⟩
theorem Blk.bdL_sm : ∀ (l : List Blk), Blk.smallL l → Blk.bdL l
  | [], _ => by unfold Blk.bdL; trivial
  | x :: l, h => by
    unfold Blk.smallL at h
    unfold Blk.bdL
    exact ⟨Blk.bd_sm x h.1, Blk.bdL_sm l h.2⟩
end
mutual
theorem Blk.all_sz : ∀ (x : Blk), x.sz + x.inls.length = x.all
  | .mk k lv i t d ti a li ks => by
    have := Blk.allL_sz ks
    have h2 := Inl.deepL_len li
    rw [Blk.sz, Blk.inls, Blk.all, List.length_append, h2]; omega
theorem Blk.allL_sz : ∀ (l : List Blk), Blk.szL l + (Blk.inlsL l).length = Blk.allL l
  | [] => by rw [Blk.szL, Blk.inlsL, Blk.allL]; rfl
  | x :: l => by
    have := Blk.all_sz x
    have := Blk.allL_sz l
    rw [Blk.szL, Blk.inlsL, Blk.allL, List.length_append]; omega
end
mutual
theorem Blk.each_small : ∀ (x : Blk), x.small → ∀ b ∈ x.each, b.small
  | .mk k lv i t d ti a li ks, h, b, hb => by
    rw [Blk.each] at hb
    rcases List.mem_cons.1 hb with rfl | hb
    · exact h
    · unfold Blk.small at h
      exact Blk.eachL_small ks h.2.2.2.2.2.2.2 b hb
theorem Blk.eachL_small : ∀ (l : List Blk), Blk.smallL l → ∀ b ∈ Blk.eachL l, b.small
  | [], _, b, hb => by rw [Blk.eachL] at hb; simp at hb
  | x :: l, h, b, hb => by
    unfold Blk.smallL at h
    rw [Blk.eachL] at hb
    rcases List.mem_append.1 hb with hb | hb
    · exact Blk.each_small x h.1 b hb
    · exact Blk.eachL_small l h.2 b hb
end
mutual
theorem Inl.deep_small : ∀ (x : Inl), x.small → ∀ b ∈ x.deep, b.small
  | .mk k t d ti a ar ci ks, h, b, hb => by
    rw [Inl.deep] at hb
    rcases List.mem_cons.1 hb with rfl | hb
    · exact h
    · unfold Inl.small at h
      exact Inl.deepL_small ks h.2.2.2.2.2.2.2.2 b hb
theorem Inl.deepL_small : ∀ (l : List Inl), Inl.smallL l → ∀ b ∈ Inl.deepL l, b.small
  | [], _, b, hb => by rw [Inl.deepL] at hb; simp at hb
  | x :: l, h, b, hb => by
    unfold Inl.smallL at h
    rw [Inl.deepL] at hb
    rcases List.mem_append.1 hb with hb | hb
    · exact Inl.deep_small x h.1 b hb
    · exact Inl.deepL_small l h.2 b hb
end
mutual
theorem Blk.inls_small : ∀ (x : Blk), x.small → ∀ b ∈ x.inls, b.small
  | .mk k lv i t d ti a li ks, h, b, hb => by
    unfold Blk.small at h
    rw [Blk.inls] at hb
    rcases List.mem_append.1 hb with hb | hb
    · exact Inl.deepL_small li h.2.2.2.2.2.1 b hb
    · exact Blk.inlsL_small ks h.2.2.2.2.2.2.2 b hb
theorem Blk.inlsL_small : ∀ (l : List Blk), Blk.smallL l → ∀ b ∈ Blk.inlsL l, b.small
  | [], _, b, hb => by rw [Blk.inlsL] at hb; simp at hb
  | x :: l, h, b, hb => by
    unfold Blk.smallL at h
    rw [Blk.inlsL] at hb
    rcases List.mem_append.1 hb with hb | hb
    · exact Blk.inls_small x h.1 b hb
    · exact Blk.inlsL_small l h.2 b hb
end
end Go.Proofs.YtlbioncagkkkoaaGreatDoor

namespace Go.Proofs.YtlbioncagkkkoaaGreatDoor
open Go.RowKit Go.Maps
set_option linter.unusedVariables false
set_option linter.unusedSimpArgs false

def BolAt (w : World) (b n : Nat) (f : ByteArray → Bool) : Prop :=
  ∃ D : DataW Unit, w.ownsMap Tryz.prog 9 (plainElem Tryz.prog 4) b n D ∧ ∀ s : ByteArray, D.atKey (sKey s) (.lit (.bool false)) = .lit (.bool (f s))
theorem BolAt.look {w : World} {b n : Nat} {f : ByteArray → Bool} (h : BolAt w b n f) (s : ByteArray) (hs : s.size ≤ maxLen) :
    (Instr.lookup 112 (.map (some b)) (.string s) false).run Tryz.prog w = .ok (.bool (f s)) w := by
  obtain ⟨D, hD, hat⟩ := h
  obtain ⟨v, ps, hrun, hv⟩ := hD.lookup keyS Tryz.underlying112 (zeroB w) (plainElem_bool Tryz.underlying4 false) (sKey_of s hs)
  rw [hat s] at hv
  obtain ⟨x, rfl, hx⟩ := plainB_inv Tryz.underlying4 hv
  have : f s = x := by
    have := (Prod.mk.inj hx).1
    exact Lit.bool.inj (DataW.lit.inj this)
  subst this; exact hrun
theorem BolAt.put {w : World} {b n : Nat} {f : ByteArray → Bool} (h : BolAt w b n f) (s : ByteArray) (x : Bool) (hs : s.size ≤ maxLen) (hn : n < maxLen) :
    ∃ w', (Instr.mapUpdate 112 (.map (some b)) (.string s) (.bool x)).run Tryz.prog w = .ok () w' ∧ BolAt w' b (n + 1) (fun t => if t = s then x else f t) ∧ w.grownBy w' (some b) := by
  obtain ⟨D, hD, hat⟩ := h
  obtain ⟨w', hrun, hD', hg⟩ := hD.update keyS Tryz.underlying112 hn (sKey_of s hs) (plainElem_bool Tryz.underlying4 x)
  refine ⟨w', hrun, ⟨_, hD', fun t => ?_⟩, hg⟩
  by_cases e : t = s
  · subst e
    rw [atKey_put_same (owns_isMap hD) (sKey_lit t)]
    show _ = DataW.lit (.bool (if t = t then x else f t))
    rw [if_pos rfl]
  · rw [atKey_put_other (fun h => e (sKey_inj _ _ h)), hat t]
    show _ = DataW.lit (.bool (if t = s then x else f t))
    rw [if_neg e]
theorem BolAt.made (w : World) : BolAt (w.alloc (.map #[] 0)) w.heap.size 0 (fun _ => false) :=
  ⟨_, World.ownsMap_made w _ _ _, fun s => rfl⟩
theorem BolAt.kept {w w' : World} {b n : Nat} {f : ByteArray → Bool} {row : Option Nat} (h : BolAt w b n f) (hg : w.grownBy w' row) (hne : some b ≠ row) : BolAt w' b n f := by
  obtain ⟨D, hD, hat⟩ := h
  exact ⟨D, hD.kept hg hne, hat⟩
theorem BolAt.lt {w : World} {b n : Nat} {f : ByteArray → Bool} (h : BolAt w b n f) : b < w.heap.size := by
  obtain ⟨D, hD, _⟩ := h; exact hD.lt
theorem BolAt.obj {w : World} {b n : Nat} {f : ByteArray → Bool} (h : BolAt w b n f) : ∃ es c, w.heap[b]? = some (.map es c) := by
  obtain ⟨D, ⟨es, c, h, _⟩, _⟩ := h; exact ⟨es, c, h⟩
theorem BolAt.below {w w' : World} {b n : Nat} {f : ByteArray → Bool} (h : BolAt w b n f) (hb : Below w.heap.size w w') : BolAt w' b n f := h.kept (grown_below hb) (by simp)
theorem BolAt.same {w w' : World} {b n : Nat} {f : ByteArray → Bool} (h : BolAt w b n f) (hb : w'.heap[b]? = w.heap[b]?) : BolAt w' b n f := by
  obtain ⟨D, ⟨es, c, h1, h2, h3⟩, hat⟩ := h
  exact ⟨D, ⟨es, c, hb.trans h1, h2, h3⟩, hat⟩
theorem BolAt.congr {w : World} {b n : Nat} {f g : ByteArray → Bool} (h : BolAt w b n f) (he : ∀ x, f x = g x) : BolAt w b n g := by rw [← funext he]; exact h
end Go.Proofs.YtlbioncagkkkoaaGreatDoor

namespace Go.Proofs.YtlbioncagkkkoaaGreatDoor
open Go.RowKit Go.Shelf
set_option linter.unusedVariables false
set_option linter.unusedSimpArgs false
attribute [local go_sem] Oper.semAt_some

mutual
theorem Blk.each_num : ∀ (x : Blk), x.each.length = x.sz
  | .mk k lv i t d ti a li ks => by rw [Blk.each, Blk.sz, List.length_cons, Blk.eachL_num ks]; omega
theorem Blk.eachL_num : ∀ (l : List Blk), (Blk.eachL l).length = Blk.szL l
  | [] => by rw [Blk.eachL, Blk.szL]; rfl
  | x :: l => by rw [Blk.eachL, Blk.szL, List.length_append, Blk.each_num x, Blk.eachL_num l]
end
def Blk.infoOf : Blk → ByteArray
  | .mk _ _ i _ _ _ _ _ _ => i
/-- The map in block mb, its box in block pb; all else below Q as in W0. -/
structure Nt1 (mb pb Q : Nat) (W0 : World) (bs : List Blk) (W : World) : Prop where
  mp : ∃ n, n ≤ bs.length ∧ BolAt W mb n (hasB (defN bs))
  bx : Box1 pb (.map (some mb)) 112 W
  os : W.os = W0.os
  tape : W.tape = W0.tape
  output : W.output = W0.output
  size : Q ≤ W.heap.size
  blk : ∀ b, b < Q → b ≠ mb → W.heap[b]? = W0.heap[b]?
/-- What a round keeps. -/
structure KpN (mb Q : Nat) (W W' : World) : Prop where
  os : W'.os = W.os
  tape : W'.tape = W.tape
  output : W'.output = W.output
  size : W.heap.size ≤ W'.heap.size
  blk : ∀ b, b < Q → b ≠ mb → W'.heap[b]? = W.heap[b]?
  cel : ∀ (b : Nat) (cs : Array Value) (t : TypeId) (g : Nat × Nat), W.heap[b]? = some (Obj.cells cs t g) → W'.heap[b]? = some (Obj.cells cs t g)
section
variable {mb pb Q : Nat} {W0 W W' : World} {bs : List Blk}
theorem KpN.trans {A B C : World} (h : KpN mb Q A B) (k : KpN mb Q B C) : KpN mb Q A C :=
  ⟨k.os.trans h.os, k.tape.trans h.tape, k.output.trans h.output, Nat.le_trans h.size k.size, fun b h1 h2 => (k.blk b h1 h2).trans (h.blk b h1 h2), fun b cs t g h1 => k.cel b cs t g (h.cel b cs t g h1)⟩
theorem KpN.refl (mb Q : Nat) (W : World) : KpN mb Q W W := ⟨rfl, rfl, rfl, Nat.le_refl _, fun _ _ _ => rfl, fun _ _ _ _ h => h⟩
theorem KpN.grown (h : W.grownBy W' none) (hS : Q ≤ W.heap.size) : KpN mb Q W W' :=
  ⟨h.os, h.tape, h.output, h.size, fun b h1 _ => h.block b (by omega) (by simp), fun b cs t g h1 => (h.block b (Array.getElem?_eq_some_iff.1 h1).1 (by simp)).trans h1⟩
theorem KpN.map (h : W.grownBy W' (some mb)) (hS : Q ≤ W.heap.size) (hm : ∃ es c, W.heap[mb]? = some (.map es c)) : KpN mb Q W W' := by
  refine ⟨h.os, h.tape, h.output, h.size, fun b h1 h2 => h.block b (by omega) (fun e => h2 (Option.some.inj e)), fun b cs t g h1 => (h.block b (Array.getElem?_eq_some_iff.1 h1).1 (fun e => ?_)).trans h1⟩
  obtain ⟨es, c, hm⟩ := hm
  rw [← Option.some.inj e, h1] at hm; cases hm
theorem KpN.obj (W : World) (l : Nat) (o o' : Obj) (hl : Q ≤ l) (ho : W.heap[l]? = some o) (hc : o.isCells = false) : KpN mb Q W (W.putObj l o') := by
  refine ⟨rfl, rfl, rfl, by simp [World.putObj], fun b h1 _ => World.putObj_heap_other (by omega), fun b cs t g h1 => ?_⟩
  refine (World.putObj_heap_other ?_).trans h1
  rintro rfl
  rw [ho] at h1
  cases h1
  cases hc
theorem KpN.ok {S : Nat} (h1 : S ≤ mb) (h2 : S ≤ Q) : KpOk S (KpN mb Q) where
  below h := ⟨h.os, h.tape, h.output, h.size, fun b hb => h.blk b (by omega) (by omega)⟩
  yld h hb := h.cel _ _ _ _ hb
  wlk h hb := h.cel _ _ _ _ hb
theorem Nt1.grown (h : Nt1 mb pb Q W0 bs W) {row : Option Nat} (hg : W.grownBy W' row) (hr : ∀ r, row = some r → Q ≤ r) (hm : mb < Q) (hp : pb < Q) : Nt1 mb pb Q W0 bs W' := by
  have hz := h.size
  have hn : ∀ b, b < Q → some b ≠ row := fun b hb e => by have := hr b e.symm; omega
  obtain ⟨n, hn1, hn2⟩ := h.mp
  exact ⟨⟨n, hn1, hn2.kept hg (hn _ hm)⟩, (hg.block pb (by omega) (hn _ hp)).trans h.bx, hg.os.trans h.os, hg.tape.trans h.tape, hg.output.trans h.output, Nat.le_trans h.size hg.size, fun b h1 h2 => (hg.block b (by omega) (hn b h1)).trans (h.blk b h1 h2)⟩
theorem defN_snoc (bs : List Blk) (x : Blk) : defN (bs ++ [x]) = defN bs ++ defN [x] := by unfold defN; rw [List.filterMap_append]
theorem hasB_app (l m : List ByteArray) (t : ByteArray) : hasB (l ++ m) t = (hasB l t || hasB m t) := by unfold hasB; rw [List.any_append]
theorem Nt1.skip (h : Nt1 mb pb Q W0 bs W) (x : Blk) (hx : x.kindOf ≠ 14) : Nt1 mb pb Q W0 (bs ++ [x]) W := by
  obtain ⟨n, hn1, hn2⟩ := h.mp
  have e : defN [x] = [] := by
    obtain ⟨k, lv, i, t, d, ti, a, li, ks⟩ := x
    have hx : k ≠ 14 := hx
    simp [defN, hx]
  exact { h with mp := ⟨n, by simp; omega, by rw [defN_snoc, e, List.append_nil]; exact hn2⟩ }
theorem Nt1.put (h : Nt1 mb pb Q W0 bs W) (x : Blk) (hx : x.kindOf = 14) (hp : pb ≠ mb) {n : Nat} (hn : n ≤ bs.length) (hg : W.grownBy W' (some mb)) (hb : BolAt W' mb (n + 1) (fun t => if t = x.infoOf then true else hasB (defN bs) t)) (hpq : pb < Q) : Nt1 mb pb Q W0 (bs ++ [x]) W' := by
  have hz := h.size
  have ne : ∀ b, b ≠ mb → some b ≠ some mb := fun b hb e => hb (Option.some.inj e)
  refine ⟨⟨n + 1, by simp; omega, hb.congr fun t => ?_⟩, (hg.block pb (by omega) (ne _ hp)).trans h.bx, hg.os.trans h.os, hg.tape.trans h.tape, hg.output.trans h.output, Nat.le_trans h.size hg.size, fun b h1 h2 => (hg.block b (by omega) (ne b h2)).trans (h.blk b h1 h2)⟩
  obtain ⟨k, lv, i, t', d, ti, a, li, ks⟩ := x
  have hx : k = 14 := hx
  have e : defN [Blk.mk k lv i t' d ti a li ks] = [i] := by simp [defN, hx]
  rw [defN_snoc, e, hasB_app]
  show (if t = i then true else hasB (defN bs) t) = _
  by_cases ht : t = i
  · rw [if_pos ht, ht]; simp [hasB]
  · rw [if_neg ht]
    have : hasB [i] t = false := by rw [hasB_no]; simp [ht]
    rw [this, Bool.or_false]
end
theorem noteG_snoc (defs : List ByteArray) : ∀ (l : List Inl) (k : Nat) (x : Inl) (out : List ByteArray), l[k]? = some x →
    noteG defs out (l.take (k + 1)) = (if x.kd = 12 ∧ hasB defs x.tx = true ∧ hasB (noteG defs out (l.take k)) x.tx = false then noteG defs out (l.take k) ++ [x.tx] else noteG defs out (l.take k))
  | [], _, _, _, h => by simp at h
  | y :: l, 0, x, out, h => by
    simp at h; subst h
    simp [noteG]
  | y :: l, k + 1, x, out, h => by
    rw [List.take_succ_cons, List.take_succ_cons, noteG, noteG]
    exact noteG_snoc defs l k x _ (by simpa using h)
end Go.Proofs.YtlbioncagkkkoaaGreatDoor

namespace Go.Proofs.YtlbioncagkkkoaaGreatDoor
set_option linter.unusedVariables false
set_option linter.unusedSimpArgs false

section
variable {P : Int → ByteArray → Prop}
end
theorem szL_app2 : ∀ (l m : List Inl), Inl.szL (l ++ m) = Inl.szL l + Inl.szL m
  | [], m => by rw [List.nil_append]; show _ = Inl.szL [] + _; rw [Inl.szL]; omega
  | x :: l, m => by rw [List.cons_append, Inl.szL, Inl.szL, szL_app2 l m]; omega
theorem szL_one (x : Inl) : Inl.szL [x] = x.sz := by rw [Inl.szL, Inl.szL]; omega
theorem sz_setTx (x : Inl) (t : ByteArray) : (x.setTx t).sz = x.sz := by
  obtain ⟨k, t0, d, ti, a, ar, ci, ks⟩ := x
  show Inl.sz (.mk k t d ti a ar ci ks) = _
  rw [Inl.sz, Inl.sz]
theorem addK_sz (q : Int) (out : List Inl) (x : Inl) : Inl.szL (addK q out x) ≤ Inl.szL out + x.sz := by
  unfold addK
  split
  · split
    · rename_i y hg
      split
      · have h1 : Inl.szL out = Inl.szL out.dropLast + y.sz := by
          conv => lhs; rw [last_split hg]
          rw [szL_app2, szL_one]
        rw [szL_app2, szL_one, sz_setTx, h1]; omega
      · rw [szL_app2, szL_one]; omega
    · rw [szL_app2, szL_one]; omega
  · rw [szL_app2, szL_one]; omega
theorem addM_sz (out : List Inl) (x : Inl) : Inl.szL (addM out x) ≤ Inl.szL out + x.sz := by
  rw [addM_addK]
  split
  · exact addK_sz 1 out x
  · omega
theorem foldK_sz (q : Int) : ∀ (l out : List Inl), Inl.szL (l.foldl (addK q) out) ≤ Inl.szL out + Inl.szL l
  | [], out => by rw [List.foldl_nil]; omega
  | x :: l, out => by
    have h1 := addK_sz q out x
    have h2 := foldK_sz q l (addK q out x)
    rw [List.foldl_cons, Inl.szL]; omega
mutual
theorem Inl.mergeX_szle : ∀ (x : Inl), x.mergeX.sz ≤ x.sz
  | .mk k t d ti a ar ci ks => by
    have := Inl.mergeA_szle ks []
    rw [Inl.mergeX, Inl.sz, Inl.sz]
    rw [show Inl.szL [] = 0 by rw [Inl.szL]] at this
    omega
theorem Inl.mergeA_szle : ∀ (l out : List Inl), Inl.szL (Inl.mergeA out l) ≤ Inl.szL out + Inl.szL l
  | [], out => by rw [Inl.mergeA]; omega
  | x :: l, out => by
    have h1 := Inl.mergeA_szle l (addM out x.mergeX)
    have h2 := addM_sz out x.mergeX
    have h3 := Inl.mergeX_szle x
    rw [Inl.mergeA, Inl.szL]; omega
end
theorem join_szle (l : List Inl) : Inl.szL (joinK 4 (Inl.mergeL l)) ≤ Inl.szL l := by
  have h1 := foldK_sz 4 (Inl.mergeL l) []
  have h2 := Inl.mergeA_szle l []
  rw [show Inl.szL [] = 0 by rw [Inl.szL]] at h1 h2
  unfold joinK
  show _ ≤ _
  unfold Inl.mergeL at h1 ⊢
  omega
mutual
theorem Inl.entX_szle : ∀ (x : Inl), Inl.szL x.entX ≤ x.sz
  | .mk k t d ti a ar ci ks => by
    have h0 : Inl.szL (joinK 4 (Inl.mergeL (Inl.entR ks))) ≤ Inl.szL ks := Nat.le_trans (join_szle _) (Inl.entR_szle ks)
    have ht : ∀ t, (txI t).sz = 1 := fun t => by unfold txI; rw [Inl.sz, Inl.szL]
    have hn : Inl.szL ([] : List Inl) = 0 := by rw [Inl.szL]
    rw [Inl.entX]
    split
    · rw [Inl.sz]; omega
    · split
      · rw [hn]; omega
      · split
        · rw [szL_one, ht, Inl.sz]; omega
        · split
          · rw [szL_one, ht, Inl.sz]; omega
          · split
            · rw [szL_one, Inl.sz, Inl.sz]; omega
            · split
              · split
                · rw [hn]; omega
                · rw [szL_one, Inl.sz, Inl.sz]; omega
              · rw [szL_one]; omega
theorem Inl.entR_szle : ∀ (l : List Inl), Inl.szL (Inl.entR l) ≤ Inl.szL l
  | [] => by rw [Inl.entR]; omega
  | x :: l => by
    have h1 := Inl.entX_szle x
    have h2 := Inl.entR_szle l
    rw [Inl.entR, szL_app2, Inl.szL]; omega
end
theorem entL_szle (l : List Inl) : Inl.szL (entL l) ≤ Inl.szL l := Nat.le_trans (join_szle _) (Inl.entR_szle l)
theorem tocL_from (l : List Nm) (a : Int) (e : En) (h : e ∈ tocL l a) : ∃ n ∈ l, n.kind = secS ∧ n.id = e.id ∧ n.val = e.tx ∧ e.line = entL n.line ∧ e.lv ≤ a ∧ e.lv = (levB n.val : Int) ∧ emptyS n.id = false := by
  unfold tocL at h
  obtain ⟨n, hn, rfl⟩ := List.mem_map.1 h
  obtain ⟨hn, hs⟩ := List.mem_filter.1 hn
  unfold shownB at hs
  simp only [Bool.and_eq_true, decide_eq_true_eq] at hs
  refine ⟨n, hn, hs.1.1, rfl, rfl, rfl, hs.2, rfl, ?_⟩
  have := hs.1.2
  simpa using this
end Go.Proofs.YtlbioncagkkkoaaGreatDoor

namespace Go.Proofs.YtlbioncagkkkoaaGreatDoor
set_option linter.unusedVariables false
set_option linter.unusedSimpArgs false

mutual
/-- The bytes of text, of destinations, and of breaks. -/
def Inl.mz : Inl → Nat
  | .mk k t d _ _ _ _ ks => t.size + d.size + (if k = 2 ∨ k = 3 then 1 else 0) + Inl.mzL ks
def Inl.mzL : List Inl → Nat
  | [] => 0
  | x :: l => x.mz + Inl.mzL l
end
theorem mzL_nil : Inl.mzL [] = 0 := by rw [Inl.mzL]
theorem mzL_app : ∀ (l m : List Inl), Inl.mzL (l ++ m) = Inl.mzL l + Inl.mzL m
  | [], m => by rw [List.nil_append, mzL_nil]; omega
  | x :: l, m => by rw [List.cons_append, Inl.mzL, Inl.mzL, mzL_app l m]; omega
theorem mzL_one (x : Inl) : Inl.mzL [x] = x.mz := by rw [Inl.mzL, mzL_nil]; omega
theorem tx_mz (x : Inl) : x.tx.size ≤ x.mz := by
  obtain ⟨k, t, d, ti, a, ar, ci, ks⟩ := x
  show t.size ≤ _
  rw [Inl.mz]; omega
theorem mz_setTx (y : Inl) (t : ByteArray) : (y.setTx (y.tx ++ t)).mz = y.mz + t.size := by
  obtain ⟨k, t0, d, ti, a, ar, ci, ks⟩ := y
  show Inl.mz (.mk k (t0 ++ t) d ti a ar ci ks) = _
  rw [Inl.mz, Inl.mz, ByteArray.size_append]; omega
theorem addK_mz (q : Int) (out : List Inl) (x : Inl) : Inl.mzL (addK q out x) ≤ Inl.mzL out + x.mz := by
  unfold addK
  split
  · split
    · rename_i y hg
      split
      · have h1 : Inl.mzL out = Inl.mzL out.dropLast + y.mz := by
          conv => lhs; rw [last_split hg]
          rw [mzL_app, mzL_one]
        have h2 := tx_mz x
        rw [mzL_app, mzL_one, mz_setTx, h1]; omega
      · rw [mzL_app, mzL_one]; omega
    · rw [mzL_app, mzL_one]; omega
  · rw [mzL_app, mzL_one]; omega
theorem addM_mz (out : List Inl) (x : Inl) : Inl.mzL (addM out x) ≤ Inl.mzL out + x.mz := by
  rw [addM_addK]
  split
  · exact addK_mz 1 out x
  · omega
theorem foldK_mz (q : Int) : ∀ (l out : List Inl), Inl.mzL (l.foldl (addK q) out) ≤ Inl.mzL out + Inl.mzL l
  | [], out => by rw [List.foldl_nil]; omega
  | x :: l, out => by
    have h1 := addK_mz q out x
    have h2 := foldK_mz q l (addK q out x)
    rw [List.foldl_cons, Inl.mzL]; omega
mutual
theorem Inl.mergeX_mz : ∀ (x : Inl), x.mergeX.mz ≤ x.mz
  | .mk k t d ti a ar ci ks => by
    have := Inl.mergeA_mz ks []
    rw [Inl.mergeX, Inl.mz, Inl.mz]
    rw [mzL_nil] at this
    omega
theorem Inl.mergeA_mz : ∀ (l out : List Inl), Inl.mzL (Inl.mergeA out l) ≤ Inl.mzL out + Inl.mzL l
  | [], out => by rw [Inl.mergeA]; omega
  | x :: l, out => by
    have h1 := Inl.mergeA_mz l (addM out x.mergeX)
    have h2 := addM_mz out x.mergeX
    have h3 := Inl.mergeX_mz x
    rw [Inl.mergeA, Inl.mzL]; omega
end
theorem merge_mz (l : List Inl) : Inl.mzL (Inl.mergeL l) ≤ Inl.mzL l := by
  have h2 := Inl.mergeA_mz l []
  rw [mzL_nil] at h2
  unfold Inl.mergeL; omega
theorem joinK_mz (q : Int) (l : List Inl) : Inl.mzL (joinK q l) ≤ Inl.mzL l := by
  have h1 := foldK_mz q l []
  rw [mzL_nil] at h1
  unfold joinK; omega
theorem join_mz (l : List Inl) : Inl.mzL (joinK 4 (Inl.mergeL l)) ≤ Inl.mzL l := Nat.le_trans (joinK_mz 4 _) (merge_mz l)
mutual
theorem Inl.entX_mz : ∀ (x : Inl), Inl.mzL x.entX ≤ x.mz
  | .mk k t d ti a ar ci ks => by
    have h0 : Inl.mzL (joinK 4 (Inl.mergeL (Inl.entR ks))) ≤ Inl.mzL ks := Nat.le_trans (join_mz _) (Inl.entR_mz ks)
    have ht : ∀ t, (txI t).mz = t.size := fun t => by
      unfold txI; rw [Inl.mz, mzL_nil, if_neg (by decide)]
      show t.size + 0 + 0 + 0 = t.size; omega
    rw [Inl.entX]
    split
    · rw [Inl.mz]; omega
    · split
      · rw [mzL_nil]; omega
      · split
        · rw [mzL_one, ht, Inl.mz]; omega
        · split
          · rename_i h4
            rw [mzL_one, ht, Inl.mz, if_pos h4]
            show 1 ≤ _; omega
          · split
            · rw [mzL_one, Inl.mz, Inl.mz]; omega
            · split
              · split
                · rw [mzL_nil]; omega
                · rw [mzL_one, Inl.mz, Inl.mz]; omega
              · rw [mzL_one]; omega
theorem Inl.entR_mz : ∀ (l : List Inl), Inl.mzL (Inl.entR l) ≤ Inl.mzL l
  | [] => by rw [Inl.entR]; omega
  | x :: l => by
    have h1 := Inl.entX_mz x
    have h2 := Inl.entR_mz l
    rw [Inl.entR, mzL_app, Inl.mzL]; omega
end
theorem entL_mz (l : List Inl) : Inl.mzL (entL l) ≤ Inl.mzL l := Nat.le_trans (join_mz _) (Inl.entR_mz l)
mutual
theorem Inl.mz_txB : ∀ (x : Inl), x.mz ≤ 100000 → x.txB
  | .mk k t d ti a ar ci ks, h => by
    rw [Inl.mz] at h
    rw [Inl.txB]
    exact ⟨by omega, Inl.mzL_txB ks (by omega)⟩
theorem Inl.mzL_txB : ∀ (l : List Inl), Inl.mzL l ≤ 100000 → Inl.txBL l
  | [], _ => by rw [Inl.txBL]; trivial
  | x :: l, h => by
    rw [Inl.mzL] at h
    rw [Inl.txBL]; exact ⟨Inl.mz_txB x (by omega), Inl.mzL_txB l (by omega)⟩
end
theorem mzL_mem : ∀ (l : List Inl) (x : Inl), x ∈ l → x.mz ≤ Inl.mzL l
  | y :: l, x, h => by
    rw [Inl.mzL]
    rcases List.mem_cons.1 h with rfl | h
    · omega
    · have := mzL_mem l x h; omega
theorem mzL_take (l : List Inl) (k : Nat) : Inl.mzL (l.take k) ≤ Inl.mzL l := by
  have := mzL_app (l.take k) (l.drop k)
  rw [List.take_append_drop] at this
  omega
end Go.Proofs.YtlbioncagkkkoaaGreatDoor

namespace Go.Proofs.YtlbioncagkkkoaaGreatDoor
open Go.RowKit
set_option linter.unusedVariables false
set_option linter.unusedSimpArgs false

theorem addK_not (q : Int) (out : List Inl) (x : Inl) (h : x.kd ≠ q) : addK q out x = out ++ [x] := by unfold addK; rw [if_neg h]
theorem addK_first (q : Int) (out : List Inl) (x : Inl) (h : ∀ y, out.getLast? = some y → y.kd ≠ q) : addK q out x = out ++ [x] := by
  unfold addK
  split
  · split
    · rename_i y hg
      rw [if_neg (h y hg)]
    · rfl
  · rfl
theorem addK_join (q : Int) (a : List Inl) (y x : Inl) (hx : x.kd = q) (hy : y.kd = q) : addK q (a ++ [y]) x = a ++ [y.setTx (y.tx ++ x.tx)] := by
  unfold addK
  rw [if_pos hx]
  have h : (a ++ [y]).getLast? = some y := by simp
  rw [h]
  simp only
  rw [if_pos hy, List.dropLast_concat]
def TdRel (ok : Nat → Prop) (w1 : World) (M : List Inl) (v vi : Value) (wr : World) : Prop :=
  ∃ (k : Nat) (rows : List (List Value)), k ≤ M.length ∧ vi = .int .i64 k ∧ ColO ok w1 (joinK 4 (M.take k)) v rows wr

set_option maxRecDepth 100000 in
set_option maxHeartbeats 8000000 in
theorem rTidy_any (l : List Inl) (ok : Nat → Prop) (v : Value) (w : World) (hn : Inl.szL l ≤ 1000000) (hz : Inl.mzL l ≤ 100000) (hrd : Rd ok w (inlsD l) [v]) (hB : ∀ b, ok b → b < w.heap.size) :
    Calls Tryz.prog 68 #[v] w (RmPostO ok w (joinK 4 (Inl.mergeL l))) := by
  obtain ⟨iI, hiI, hzI0, hzI1, hzI2⟩ := info_parts infoIn
  obtain ⟨a, cap, hv, -⟩ := Rd.sl_open hrd
  obtain rfl : v = .slice a l.length cap := by simpa using hv
  have MG := Lib.hid (rMergeO_any 1000000 l ok (.slice a l.length cap) w hn (Nat.le_refl _) hrd hB (Inl.mzL_txB l hz))
  obtain ⟨M, hM⟩ : ∃ M, M = Inl.mergeL l := ⟨_, rfl⟩
  have hMz : Inl.mzL M ≤ 100000 := by rw [hM]; exact Nat.le_trans (merge_mz l) hz
  have hMl : M.length ≤ 1000000 := by
    have := Inl.len_le M
    have h2 := Inl.mergeA_szle l []
    rw [show Inl.szL [] = 0 by rw [Inl.szL]] at h2
    rw [hM] at this ⊢
    unfold Inl.mergeL at this ⊢
    omega
  rw [← hM] at MG ⊢
  have HBO := Lib.hid hB
  clear hrd hv hM hn hz hB
  go_enter Tryz.func68, Tryz.ntmps68
  go_wp2_with fail
  (with_reducible refine MG.out.mono ?_)
  rintro e w1 ⟨v1, rfl, hr1, b1⟩
  obtain ⟨a1, c1, hv1, hs1⟩ := Rd.sl_open hr1.inside
  obtain rfl : v1 = .slice a1 M.length c1 := by simpa using hv1
  have hcap : M.length ≤ c1 := by simpa using hs1.le
  have hmx := hs1.max
  unfold maxLen at hmx
  have HS := Lib.hid hs1
  have HB1 := Lib.hid b1
  have hw1 := b1.size
  have R0 : Hid (TdRel (fun b => (ok b ∨ w.heap.size ≤ b) ∧ b < w1.heap.size) w1 M (.slice none 0 0) (.int .i64 0) w1) := ⟨0, [], Nat.zero_le _, rfl, ⟨nil_owns _ _ _ _, RdL.none, by simp, Below.refl _ _⟩⟩
  clear MG hr1 hv1 hs1 b1
  go_wp2
  go_loopw [3, 10] (fun v vi wr => TdRel (fun b => (ok b ∨ w.heap.size ≤ b) ∧ b < w1.heap.size) w1 M v vi wr) (fun _ i _ => M.length - (intOf i).toNat)
  case atStart => exact R0.out
  case round =>
    clear R0
    obtain ⟨k, rows, hk, rfl, hco⟩ := hrel
    obtain ⟨acc, hout⟩ : ∃ acc, acc = joinK 4 (M.take k) := ⟨_, rfl⟩
    have hol : acc.length ≤ k := by
      have := joinK_len 4 (M.take k)
      rw [List.length_take] at this
      rw [hout]; omega
    have haz : Inl.mzL acc ≤ 100000 := by rw [hout]; exact Nat.le_trans (joinK_mz 4 _) (Nat.le_trans (mzL_take M k) hMz)
    have HOUT := Lib.hid hout
    rw [← hout] at hco
    obtain ⟨av, cv, rfl⟩ := own_slice hco.own
    have HCO := Lib.hid hco
    have hbw := hco.bel.size
    clear hco hout
    by_cases hlt : k < M.length
    · obtain ⟨x, hx⟩ : ∃ x, M[k]? = some x := ⟨_, List.getElem?_eq_getElem hlt⟩
      have hxz := Nat.le_trans (mzL_mem M x (List.mem_of_getElem? hx)) hMz
      have hxt := Nat.le_trans (tx_mz x) hxz
      have HSN := Lib.hid (joinK_snoc 4 M k x hx)
      rw [← HOUT.out] at HSN
      obtain ⟨kd, t, d, ti, at_, ar, ci, ks⟩ := x
      change t.size ≤ 100000 at hxt
      obtain ⟨g, off, vc, vp, va, vi, vk, rfl, hok, hbl, hc, hR⟩ := inls_at (HS.out.up0 HCO.out.bel) hx
      obtain ⟨aa, na, ca, rfl⟩ := Rd.sl_form hR.args
      obtain ⟨ai, ni, cai, rfl⟩ := Rd.sl_form hR.cites
      obtain ⟨ac, nc, cc, rfl⟩ := Rd.sl_form hR.at_.cls
      obtain ⟨ap, np, cp, rfl⟩ := Rd.sl_form hR.at_.prs
      obtain ⟨ak, nk, ck, rfl⟩ := Rd.sl_form hR.kids
      obtain ⟨c0, c1, c2, c3, c4, c5, c6, c7, c8, c9⟩ := hc
      obtain ⟨w3, hw3⟩ : ∃ w3, w3 = wr.alloc (.cells #[.int .i64 kd, .string t, .string d, .string ti, .string at_.id, .slice ac nc cc, .slice ap np cp, .slice aa na ca, .slice ai ni cai, .slice ak nk ck] 47) := ⟨_, rfl⟩
      have P3 : PB wr.heap.size [.int .i64 kd, .string t, .string d, .string ti, .string at_.id, .slice ac nc cc, .slice ap np cp, .slice aa na ca, .slice ai ni cai, .slice ak nk ck] w3 := by rw [hw3]; exact heap_alloc_new wr _
      have b3 : Below wr.heap.size wr w3 := by rw [hw3]; exact (Below.refl _ _).alloc (Nat.le_refl _) _
      have HC3 := Lib.hid (HCO.out.grown (grown_below b3))
      have IN3 := Lib.hid (show InR (fun b => (ok b ∨ w.heap.size ≤ b) ∧ b < w1.heap.size) w3 at_ ar ci ks (.slice ac nc cc) (.slice ap np cp) (.slice aa na ca) (.slice ai ni cai) (.slice ak nk ck) from
        ⟨⟨hR.at_.cls.up0 b3, hR.at_.prs.up0 b3⟩, hR.args.up0 b3, hR.cites.up0 b3, hR.kids.up0 b3⟩)
      have hz3 := b3.size
      clear hx hR hok hbl b3 hxz
      go_upto_region 5 with (fail)
      rw [← hw3]
      clear hw3 c0 c1 c2 c3 c4 c5 c6 c7 c8 c9
      obtain ⟨e0, e1, e2, e3, e4, e5, e6, e7, e8, e9, ef⟩ := P3.all
      have HP3 := Lib.hid P3
      have hlp := P3.lt
      clear P3
      rcases List.eq_nil_or_concat acc with hnil | ⟨a0, y, hcat⟩
      · have HM : Hid (joinK 4 (M.take (k + 1)) = [] ++ [Inl.mk kd t d ti at_ ar ci ks]) := by
          show _ = _
          rw [HSN.out, hnil, addK_first 4 [] _ (fun y hy => by simp at hy)]
        subst hnil
        go_wp2_with (at_builtin; refine wpList_append_any _ rfl (.tmp 44) (.tmp 46) 38 rfl w1.heap.size 47 iI _ 10 192 Tryz.underlying38 hiI hzI0 hzI1 hzI2 rfl (by decide) (.slice av ([] : List Inl).length cv) ([] : List Inl).length rows.flatten rfl (HC3.out.own.alloc _) (w3.heap.size + 1) (some ⟨w3.heap.size, 0, none⟩) 1 1 [.int .i64 kd, .string t, .string d, .string ti, .string at_.id, .slice ac nc cc, .slice ap np cp, .slice aa na ca, .slice ai ni cai, .slice ak nk ck] rfl ?g1 ?g2 ?g3 ?g4 ?g5 ?_)
        case g1 => exact ⟨rfl, fun _ => ⟨_, rfl, by simp, new_cells w3 [.int .i64 kd, .string t, .string d, .string ti, .string at_.id, .slice ac nc cc, .slice ap np cp, .slice aa na ca, .slice ai ni cai, .slice ak nk ck] _⟩⟩
        case g2 => exact one_ten
        case g3 => unfold maxLen; omega
        case g4 => omega
        case g5 => simp; omega
        intro v' w7 hown' hgrow hat
        have P7 := Lib.hid (HC3.out.push (x := Inl.mk kd t d ti at_ ar ci ks) (S := wr.heap.size) (cs := [.int .i64 kd, .string t, .string d, .string ti, .string at_.id, .slice ac nc cc, .slice ap np cp, .slice aa na ca, .slice ai ni cai, .slice ak nk ck]) (fun g hg => (HCO.out.own.lt g hg).2) HCO.out.bel.size (fun b hb => hb.2) ((Inl.mk_ kd t d ti IN3.out).weaken (fun b hb => .inl hb)) rfl (by simpa using hown') hgrow hat)
        clear hown' hgrow hat
        go_wp2
        go_roundw
        case rel => exact ⟨k + 1, _, by omega, by go_num, by rw [HM.out]; exact P7.out⟩
        case measure => simp [intOf]; omega
      · obtain ⟨m, hm⟩ : ∃ m, m = a0.length := ⟨_, rfl⟩
        have hcat' : acc = a0 ++ [y] := by simpa using hcat
        have hlen : acc.length = m + 1 := by rw [hcat', hm]; simp
        have hym : acc[m]? = some y := by rw [hcat', hm]; simp
        have hyt : y.tx.size ≤ 100000 := Nat.le_trans (tx_mz y) (Nat.le_trans (mzL_mem acc y (by rw [hcat']; simp)) haz)
        obtain ⟨r, hr, hrd⟩ := HC3.out.red.get m y.d (by rw [List.getElem?_map, hym]; rfl)
        obtain ⟨ky, ty, dy, tiy, aty, ary, ciy, ksy⟩ := y
        change ty.size ≤ 100000 at hyt
        obtain ⟨vcy, vpy, vay, viy, vky, rfl, hRy⟩ := Inl.open_ hrd
        have hown := HC3.out.own
        rw [hlen] at hown hol
        rw [hlen]
        obtain ⟨g2, cap2, hv2, hcap2⟩ := own_form hown (by omega)
        obtain ⟨rfl, rfl⟩ : av = some ⟨g2, 0, none⟩ ∧ cap2 = cv := by
          simp at hv2; exact ⟨hv2.1, hv2.2.symm⟩
        have k0 : w3.cell? ⟨g2, m * 10, none⟩ = some (.int .i64 ky) := by
          have h1 := flat_get 10 rows HC3.out.len m 0 _ _ hr rfl
          have h2 := hown.cellAt (m * 10 + 0) (by omega)
          rw [h1] at h2
          exact h2
        have k1 : w3.cell? ⟨g2, m * 10 + 1, none⟩ = some (.string ty) := by
          have h1 := flat_get 10 rows HC3.out.len m 1 _ _ hr rfl
          have h2 := hown.cellAt (m * 10 + 1) (by omega)
          rw [h1] at h2
          exact h2
        have HK1 := Lib.hid k1
        have HOW := Lib.hid hown
        have HCAT := Lib.hid hcat'
        have HLEN := Lib.hid hlen
        have HMM := Lib.hid hm
        have HRY := Lib.hid hRy
        have HRR := Lib.hid hr
        clear hcat hcat' hym hr hrd hRy hown hv2 hlen hm k1
        have qn : (0 : Int) ≤ (m : Int) := by omega
        have hpos : decide ((0 : Int) ≤ (m : Int)) = true := decide_eq_true (by omega)
        by_cases hkd : kd = 4
        case neg =>
          have hke := beq_false_of_ne hkd
          have HM : Hid (joinK 4 (M.take (k + 1)) = acc ++ [Inl.mk kd t d ti at_ ar ci ks]) := by show _ = _; rw [HSN.out, addK_not 4 acc (Inl.mk kd t d ti at_ ar ci ks) hkd]
          clear hkd
          go_wp2_with (at_builtin; refine wpList_append_any _ rfl (.tmp 44) (.tmp 46) 38 rfl w1.heap.size 47 iI _ 10 192 Tryz.underlying38 hiI hzI0 hzI1 hzI2 rfl (by decide) (.slice (some ⟨g2, 0, none⟩) (m + 1) cap2) (m + 1) rows.flatten rfl (HOW.out.alloc _) (w3.heap.size + 1) (some ⟨w3.heap.size, 0, none⟩) 1 1 [.int .i64 kd, .string t, .string d, .string ti, .string at_.id, .slice ac nc cc, .slice ap np cp, .slice aa na ca, .slice ai ni cai, .slice ak nk ck] rfl ?g1 ?g2 ?g3 ?g4 ?g5 ?_)
          case g1 => exact ⟨rfl, fun _ => ⟨_, rfl, by simp, new_cells w3 [.int .i64 kd, .string t, .string d, .string ti, .string at_.id, .slice ac nc cc, .slice ap np cp, .slice aa na ca, .slice ai ni cai, .slice ak nk ck] _⟩⟩
          case g2 => exact one_ten
          case g3 => unfold maxLen; omega
          case g4 => omega
          case g5 => simp; omega
          intro v' w7 hown' hgrow hat
          have P7 := Lib.hid (HC3.out.push (x := Inl.mk kd t d ti at_ ar ci ks) (S := wr.heap.size) (cs := [.int .i64 kd, .string t, .string d, .string ti, .string at_.id, .slice ac nc cc, .slice ap np cp, .slice aa na ca, .slice ai ni cai, .slice ak nk ck]) (fun g hg => (HCO.out.own.lt g hg).2) HCO.out.bel.size (fun b hb => hb.2) ((Inl.mk_ kd t d ti IN3.out).weaken (fun b hb => .inl hb)) rfl (by rw [HLEN.out]; exact hown') hgrow hat)
          clear hown' hgrow hat
          go_wp2
          go_roundw
          case rel => exact ⟨k + 1, _, by omega, by go_num, by rw [HM.out]; exact P7.out⟩
          case measure => simp [intOf]; omega
        subst hkd
        by_cases hky : ky = 4
        case neg =>
          have hyk := beq_false_of_ne hky
          have HM : Hid (joinK 4 (M.take (k + 1)) = acc ++ [Inl.mk 4 t d ti at_ ar ci ks]) := by
            show _ = _
            rw [HSN.out, addK_first 4 acc _ (fun y hy => by rw [HCAT.out] at hy; simp at hy; rw [← hy]; exact hky)]
          clear hky
          go_wp2_with (at_builtin; refine wpList_append_any _ rfl (.tmp 44) (.tmp 46) 38 rfl w1.heap.size 47 iI _ 10 192 Tryz.underlying38 hiI hzI0 hzI1 hzI2 rfl (by decide) (.slice (some ⟨g2, 0, none⟩) (m + 1) cap2) (m + 1) rows.flatten rfl (HOW.out.alloc _) (w3.heap.size + 1) (some ⟨w3.heap.size, 0, none⟩) 1 1 [.int .i64 4, .string t, .string d, .string ti, .string at_.id, .slice ac nc cc, .slice ap np cp, .slice aa na ca, .slice ai ni cai, .slice ak nk ck] rfl ?g1 ?g2 ?g3 ?g4 ?g5 ?_)
          case g1 => exact ⟨rfl, fun _ => ⟨_, rfl, by simp, new_cells w3 [.int .i64 4, .string t, .string d, .string ti, .string at_.id, .slice ac nc cc, .slice ap np cp, .slice aa na ca, .slice ai ni cai, .slice ak nk ck] _⟩⟩
          case g2 => exact one_ten
          case g3 => unfold maxLen; omega
          case g4 => omega
          case g5 => simp; omega
          intro v' w7 hown' hgrow hat
          have P7 := Lib.hid (HC3.out.push (x := Inl.mk 4 t d ti at_ ar ci ks) (S := wr.heap.size) (cs := [.int .i64 4, .string t, .string d, .string ti, .string at_.id, .slice ac nc cc, .slice ap np cp, .slice aa na ca, .slice ai ni cai, .slice ak nk ck]) (fun g hg => (HCO.out.own.lt g hg).2) HCO.out.bel.size (fun b hb => hb.2) ((Inl.mk_ 4 t d ti IN3.out).weaken (fun b hb => .inl hb)) rfl (by rw [HLEN.out]; exact hown') hgrow hat)
          clear hown' hgrow hat
          go_wp2
          go_roundw
          case rel => exact ⟨k + 1, _, by omega, by go_num, by rw [HM.out]; exact P7.out⟩
          case measure => simp [intOf]; omega
        subst hky
        have k1 := HK1.out
        have fz : w3.frozen? ⟨g2, m * 10 + 1, none⟩ = false := by
          rcases HOW.out.2 with ⟨h1, _⟩ | ⟨g', cap', cur, h1, _, h2, _⟩
          · cases h1
          · injection h1 with h1 _ _
            injection h1 with h1
            injection h1 with h1 _ _
            subst h1
            simp [World.frozen?, h2]
        have hty : ty.size + t.size ≤ 9223372036854775807 := by omega
        go_upto_region 7 with (fail)
        have hcut : ∀ wc, wc = (w3.drew).setCell ⟨g2, m * 10 + 1, none⟩ (.string (ty ++ t)) → ∃ rows', ColO (fun b => (ok b ∨ w.heap.size ≤ b) ∧ b < w1.heap.size) w1 (joinK 4 (M.take (k + 1))) (.slice (some ⟨g2, 0, none⟩) (m + 1) cap2) rows' wc := by
          intro wc hcut
          have hm := HMM.out
          subst hm
          have hcat := HCAT.out
          subst hcat
          have hl1 : (a0 ++ [Inl.mk 4 ty dy tiy aty ary ciy ksy]).length = a0.length + 1 := by simp
          have HJ := Lib.hid (show ColO (fun b => (ok b ∨ w.heap.size ≤ b) ∧ b < w1.heap.size) w1 (a0 ++ [Inl.mk 4 (ty ++ t) dy tiy aty ary ciy ksy]) (.slice (some ⟨g2, 0, none⟩) (a0.length + 1) cap2) (rows.take a0.length ++ [[.int .i64 4, .string (ty ++ t), .string dy, .string tiy, .string aty.id, vcy, vpy, vay, viy, vky]]) wc by
            rw [hcut]
            have hc := HC3.out
            rw [hl1] at hc
            exact ColO.join (rows := rows) t hc HRR.out HRY.out)
          have HM : Hid (joinK 4 (M.take (k + 1)) = a0 ++ [Inl.mk 4 (ty ++ t) dy tiy aty ary ciy ksy]) := by
            show _ = _
            rw [HSN.out, addK_join 4 a0 _ (Inl.mk 4 t d ti at_ ar ci ks) rfl rfl]
            rfl
          exact ⟨_, by rw [HM.out]; exact HJ.out⟩
        have HCUT := Lib.hid hcut
        clear hcut
        go_region
        all_goals
          go_wp2
          go_roundw
          case rel =>
            obtain ⟨rows', h9⟩ := HCUT.out _ rfl
            exact ⟨k + 1, rows', by omega, by go_num, h9⟩
          case measure => simp [intOf]; omega
    · have hkl : k = M.length := by omega
      subst hkl
      rw [List.take_length] at HOUT
      have RED := HCO.out.red
      rw [HOUT.out] at RED
      have HPOST : Hid (RmPostO ok w (joinK 4 M) (.returned (.slice av acc.length cv)) wr) := by
        refine ⟨_, rfl, Rd.sl_own (rows := rows) (B := w1.heap.size) (e := 47) ?_ (RdL.keep (fun b hb _ => ⟨?_, rfl⟩) _ _ RED) HCO.out.len (fun g hg => .inr ?_), below_trans_size HB1.out HCO.out.bel⟩
        · rw [List.length_map, ← HOUT.out]; exact HCO.out.own
        · rcases hb.1 with h | h
          · exact h.1
          · exact .inr (by omega)
        · have := (HCO.out.own.lt g hg).1; omega
      clear RED
      go_wp2
      go_ret
      exact HPOST.out
end Go.Proofs.YtlbioncagkkkoaaGreatDoor
