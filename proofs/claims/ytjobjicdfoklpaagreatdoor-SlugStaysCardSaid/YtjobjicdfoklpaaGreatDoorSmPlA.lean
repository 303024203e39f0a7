/- tree.Each: what the function that it returns does with a loop's body. Plain part: what a small document's parts are bounded by. -/
import Derived.Test.YtjobjicdfoklpaaGreatDoorEach
import Derived.Laws.EntriesVeiled
import Derived.Test.YtjobjicdfoklpaaGreatDoorSmall
namespace Go.Proofs.YtjobjicdfoklpaaGreatDoor
open Go.RowKit Go.Shelf
set_option linter.unusedVariables false
set_option linter.unusedSimpArgs false

attribute [local go_sem] Oper.semAt_some

theorem grownDrew (W : World) : W.grownBy W.drew none := ⟨rfl, rfl, rfl, Nat.le_refl _, fun _ _ _ => rfl⟩

set_option maxRecDepth 100000 in
set_option maxHeartbeats 4000000 in
theorem each1_in (n l Bl B0 : Nat) (P : Blk → Prop) (bs : List Blk) (v : Value) (w0 : World) (Kp : World → World → Prop) (hK : KpOk B0 Kp) (J Jx : List (BW B0 w0 P) → World → Prop) (W : World)
    (hJ : AbidesFrom W.heap.size J)
    (hY : ∀ (m : Nat) (pre : List (BW B0 w0 P)) (x : BW B0 w0 P) (W1 : World), J pre W1 → pre.length < (Blk.eachL bs).length → YieldAt Fence.wide m Tryz.prog l #[x.1.enc] W1 fun e W' =>
      (e = .returned (.bool true) ∧ J (pre ++ [x]) W' ∧ Kp W1 W') ∨ (e = .returned (.bool false) ∧ Jx (pre ++ [x]) W'))
    (hPb : ∀ b ∈ Blk.eachL bs, P b) (hrd : Rd (· < B0) w0 (blksD bs) [v]) (hbel : Below B0 w0 W) (hB0 : B0 ≤ W.heap.size) (hBl : Box1 Bl v 23 W) (h0 : J [] W) :
    CallsIn Fence.wide n Tryz.prog 136 #[.func (.yield l) #[] #[], .pointer (some ⟨Bl, 0, none⟩)] W fun e W' => (∃ v, e = .returned v) ∧
      ((∃ xs, blksOf xs = Blk.eachL bs ∧ J xs W') ∨ (∃ pre, blksOf pre <+: Blk.eachL bs ∧ Jx pre W')) := by
  obtain ⟨va, vn, vc, rfl⟩ := Rd.sl_form hrd
  have hdd : ∀ k : Nat, (Fence.wide.depth.isSome = true → 1 ≤ k) := fun k h => by cases h
  have HC : Hid (∀ (m : Nat) (w2 : World), Below B0 w0 w2 → EB l W.heap.size (W.heap.size + 1) w2 → J [] w2 → _) := fun m w2 h1 h2 h3 =>
    each11_in l B0 W.heap.size (W.heap.size + 1) (Blk.eachL bs).length P w0 Kp hK J Jx (fun pre W1 h => hJ pre W1 W1.drew none h (grownDrew W1) (fun r e => by cases e)) hY (Blk.szL bs) m bs (.slice va vn vc) [] w2 (Nat.le_refl _) hPb hrd h1 h2 h3 (by simp)
  have HJ := Lib.hid hJ
  have HB := Lib.hid hBl
  have HBEL := Lib.hid hbel
  have H0 := Lib.hid h0
  obtain ⟨p, hp⟩ : ∃ p, p = W.heap.size := ⟨_, rfl⟩
  rw [← hp] at HC
  clear hK hY hrd hbel hBl h0 hJ
  refine callsIn_of_wp Tryz.func136 rfl trivial ?_ rfl
  simp only [Tryz.ntmps136, List.size_toArray, List.length_cons, List.length_nil, Nat.reduceAdd, Nat.reduceSub, Array.replicate_succ, Array.replicate_zero, List.push_toArray, List.append_toArray, List.nil_append, List.cons_append]
  gi_upto_region 2 with (fail)
  obtain ⟨wA, hwA⟩ : ∃ wA, wA = (W.alloc (.cells #[.func (.yield l) #[] #[]] 119)).alloc (.cells #[.nilFunc] 147) := ⟨_, rfl⟩
  have b0 : Box1 p (.func (.yield l) #[] #[]) 119 wA := by rw [hwA, hp]; exact (Box1.new W _ _).alloc _
  have b1 : Box1 (p + 1) .nilFunc 147 wA := by
    rw [hwA, hp]
    have := Box1.new (W.alloc (.cells #[.func (.yield l) #[] #[]] 119)) .nilFunc 147
    rwa [World.size_alloc] at this
  have gA : Below p W wA := by rw [hwA, hp]; exact ((Below.refl _ _).alloc (Nat.le_refl _) _).alloc (by simp) _
  rw [← hwA, ← hp]
  rw [← hp] at hB0
  have HP := Lib.hid hp
  clear hwA hp
  have c1 := b1.cell
  have f1 := b1.free
  gi_upto_region 3 with (fail)
  obtain ⟨wB, hwB⟩ : ∃ wB, wB = wA.setCell ⟨p + 1, 0, none⟩ (eachF p (p + 1)) := ⟨_, rfl⟩
  have d0 : Box1 p (.func (.yield l) #[] #[]) 119 wB := by rw [hwB]; exact b0.far (by omega) _
  have d1 : Box1 (p + 1) (eachF p (p + 1)) 147 wB := by rw [hwB]; exact b1.set _
  have gB : Below p W wB := by rw [hwB]; exact gA.setCell (p := ⟨p + 1, 0, none⟩) (by show p ≤ p + 1; omega) _
  have cl : wB.cell? ⟨Bl, 0, none⟩ = some (.slice va vn vc) := (HB.out.below (by have := HB.out.lt; rw [HP.out]; exact this) gB).cell
  have c2 := d1.cell
  have HD := Lib.hid (HC.out (n - 1) wB (HBEL.out.trans (gB.mono hB0)) ⟨d0, d1⟩ (HJ.out [] W wB none H0.out ⟨gB.os, gB.tape, gB.output, gB.size, fun k hk _ => gB.block k (by rw [HP.out]; exact hk)⟩ (fun r e => by cases e)))
  unfold eachF at hwB c2
  rw [← hwB]
  clear hwB b0 b1 gA c1 f1 d0 d1 gB
  gi_wp2_with (first
    | (refine ⟨trivial, hdd _, ?_⟩; refine HD.out.mono ?_; clear HD; rintro e W1 (⟨rfl, q, hq, hJ1, hb1, hE1⟩ | ⟨rfl, q, hq, hx1⟩))
    | (refine HD.out.mono ?_; clear HD; rintro e W1 (⟨rfl, q, hq, hJ1, hb1, hE1⟩ | ⟨rfl, q, hq, hx1⟩)))
  · go_end0
    exact ⟨⟨_, rfl⟩, .inl ⟨q, hq, by simpa using hJ1⟩⟩
  · go_end0
    exact ⟨⟨_, rfl⟩, .inr ⟨q, hq, by simpa using hx1⟩⟩

theorem each_stops (n Bl B0 : Nat) (P : Blk → Prop) (bs : List Blk) (v : Value) (w0 w : World) (Kp : World → World → Prop) (hK : KpOk B0 Kp) (hPb : ∀ b ∈ Blk.eachL bs, P b) (hrd : Rd (· < B0) w0 (blksD bs) [v]) (hbel : Below B0 w0 w) (hB0 : B0 ≤ w.heap.size) (hBl : Box1 Bl v 23 w) :
    SeqStopsK Fence.wide n Tryz.prog 136 #[.pointer (some ⟨Bl, 0, none⟩)] (fun x : BW B0 w0 P => #[x.1.enc]) Kp (fun xs => blksOf xs = Blk.eachL bs) (fun pre => blksOf pre <+: Blk.eachL bs) (Blk.eachL bs).length w := fun l J Jx W hW hJ hJx hY h0 =>
  each1_in n l Bl B0 P bs v w0 Kp hK J Jx W hJ (fun m pre x W1 hj hl => yieldAny rfl m (hY pre x W1 hj hl)) hPb hrd (hbel.trans (hW.mono hB0)) (Nat.le_trans hB0 hW.size) (hBl.below hBl.lt hW) h0

set_option maxHeartbeats 4000000 in
theorem each_any (va : Option Addr) (vn vc : Nat) (w : World) : Calls Tryz.prog 76 #[.slice va vn vc] w fun e w' => e = .returned (.func (.func 136) #[] #[.pointer (some ⟨w.heap.size, 0, none⟩)]) ∧ w' = w.alloc (.cells #[.slice va vn vc] 23) := by
  go_enter Tryz.func76, Tryz.ntmps76
  go_wp2
  go_ret
  exact ⟨rfl, rfl⟩
end Go.Proofs.YtjobjicdfoklpaaGreatDoor

namespace Go.Proofs.YtjobjicdfoklpaaGreatDoor
set_option linter.unusedVariables false
set_option linter.unusedSimpArgs false

theorem len_flat {α : Type} (f : α → List UInt8) (c : Nat) : ∀ (l : List α), (∀ x ∈ l, (f x).length ≤ c) → ((l.map f).flatten).length ≤ l.length * c
  | [], _ => by simp
  | x :: l, h => by
    have := len_flat f c l (fun y hy => h y (by simp [hy]))
    have h1 := h x (by simp)
    simp only [List.map_cons, List.flatten_cons, List.length_append, List.length_cons, Nat.add_mul]
    omega
mutual
theorem Inl.plain_sm : ∀ (x : Inl), x.small → x.plain.length ≤ 300 * x.sz
  | .mk k t d ti a ar ci ks, h => by
    unfold Inl.small at h
    obtain ⟨h1, h2, h3, h4, h5, h6, h7, h8, h9⟩ := h
    have hk := Inl.plainL_sm ks h9
    have e1 : t.data.toList.length = t.size := by rw [Array.length_toList]; rfl
    have e2 : d.data.toList.length = d.size := by rw [Array.length_toList]; rfl
    rw [Inl.plain, Inl.sz]
    split
    · omega
    · split
      · simp; omega
      · split
        · omega
        · split
          · omega
          · simp
theorem Inl.plainL_sm : ∀ (l : List Inl), Inl.smallL l → (Inl.plainL l).length ≤ 300 * Inl.szL l
  | [], _ => by rw [Inl.plainL]; simp
  | x :: l, h => by
    unfold Inl.smallL at h
    rw [Inl.plainL, Inl.szL, List.length_append]
    have := Inl.plain_sm x h.1
    have := Inl.plainL_sm l h.2
    omega
end
mutual
theorem Inl.bd_sm : ∀ (x : Inl), x.small → x.bd
  | .mk k t d ti a ar ci ks, h => by
    unfold Inl.small at h
    obtain ⟨h1, h2, h3, h4, h5, h6, h7, h8, h9⟩ := h
    unfold At.short at h4
    have hk := Inl.bdL_sm ks h9
    unfold Inl.bd
    exact ⟨by omega, by omega, by omega, by omega, hk⟩
theorem Inl.bdL_sm : ∀ (l : List Inl), Inl.smallL l → Inl.bdL l
  | [], _ => by unfold Inl.bdL; trivial
  | x :: l, h => by
    unfold Inl.smallL at h
    unfold Inl.bdL
    exact ⟨Inl.bd_sm x h.1, Inl.bdL_sm l h.2⟩
end
mutual
theorem Blk.bd_sm : ∀ (x : Blk), x.small → x.bd
  | .mk k lv i t d ti a li ks, h => by
    unfold Blk.small at h
    obtain ⟨h1, h2, h3, h4, h5, h6, h7, h8⟩ := h
    unfold At.short at h5
    have hk := Blk.bdL_sm ks h8
    unfold Blk.bd
    exact ⟨by omega, by omega, Inl.bdL_sm li h6, by omega, hk⟩
theorem Blk.bdL_sm : ∀ (l : List Blk), Blk.smallL l → Blk.bdL l
  | [], _ => by unfold Blk.bdL; trivial
  | x :: l, h => by
    unfold Blk.smallL at h
    unfold Blk.bdL
    exact ⟨Blk.bd_sm x h.1, Blk.bdL_sm l h.2⟩
end
mutual
theorem Blk.all_sz : ∀ (x : Blk), x.sz + x.inls.length = x.all
  | .mk k lv i t d ti a li ks => by
    have := Blk.allL_sz ks
    have h2 := Inl.deepL_len li
    rw [Blk.sz, Blk.inls, Blk.all, List.length_append, h2]; omega
theorem Blk.allL_sz : ∀ (l : List Blk), Blk.szL l + (Blk.inlsL l).length = Blk.allL l
  | [] => by rw [Blk.szL, Blk.inlsL, Blk.allL]; rfl
  | x :: l => by
    have := Blk.all_sz x
    have := Blk.allL_sz l
    rw [Blk.szL, Blk.inlsL, Blk.allL, List.length_append]; omega
end
mutual
theorem Blk.each_small : ∀ (x : Blk), x.small → ∀ b ∈ x.each, b.small
  | .mk k lv i t d ti a li ks, h, b, hb => by
    rw [Blk.each] at hb
    rcases List.mem_cons.1 hb with rfl | hb
    · exact h
    · unfold Blk.small at h
      exact Blk.eachL_small ks h.2.2.2.2.2.2.2 b hb
theorem Blk.eachL_small : ∀ (l : List Blk), Blk.smallL l → ∀ b ∈ Blk.eachL l, b.small
  | [], _, b, hb => by rw [Blk.eachL] at hb; simp at hb
  | x :: l, h, b, hb => by
    unfold Blk.smallL at h
    rw [Blk.eachL] at hb
    rcases List.mem_append.1 hb with hb | hb
    · exact Blk.each_small x h.1 b hb
    · exact Blk.eachL_small l h.2 b hb
end
mutual
theorem Inl.deep_small : ∀ (x : Inl), x.small → ∀ b ∈ x.deep, b.small
  | .mk k t d ti a ar ci ks, h, b, hb => by
    rw [Inl.deep] at hb
    rcases List.mem_cons.1 hb with rfl | hb
    · exact h
    · unfold Inl.small at h
      exact Inl.deepL_small ks h.2.2.2.2.2.2.2.2 b hb
theorem Inl.deepL_small : ∀ (l : List Inl), Inl.smallL l → ∀ b ∈ Inl.deepL l, b.small
  | [], _, b, hb => by rw [Inl.deepL] at hb; simp at hb
  | x :: l, h, b, hb => by
    unfold Inl.smallL at h
    rw [Inl.deepL] at hb
    rcases List.mem_append.1 hb with hb | hb
    · exact Inl.deep_small x h.1 b hb
    · exact Inl.deepL_small l h.2 b hb
end
mutual
theorem Blk.inls_small : ∀ (x : Blk), x.small → ∀ b ∈ x.inls, b.small
  | .mk k lv i t d ti a li ks, h, b, hb => by
    unfold Blk.small at h
    rw [Blk.inls] at hb
    rcases List.mem_append.1 hb with hb | hb
    · exact Inl.deepL_small li h.2.2.2.2.2.1 b hb
    · exact Blk.inlsL_small ks h.2.2.2.2.2.2.2 b hb
theorem Blk.inlsL_small : ∀ (l : List Blk), Blk.smallL l → ∀ b ∈ Blk.inlsL l, b.small
  | [], _, b, hb => by rw [Blk.inlsL] at hb; simp at hb
  | x :: l, h, b, hb => by
    unfold Blk.smallL at h
    rw [Blk.inlsL] at hb
    rcases List.mem_append.1 hb with hb | hb
    · exact Blk.inls_small x h.1 b hb
    · exact Blk.inlsL_small l h.2 b hb
end
end Go.Proofs.YtjobjicdfoklpaaGreatDoor
