/- Plain part: blocks with their tables of contents filled. tree.Each: what the function that it returns does with a loop's body. Plain part: what a small document's parts are bounded by. Plain part: what the entries of a well-formed document have. Plain part: how many bytes of text inlines give to an entry line. -/
import Derived.Test.YtlbioncagkkkoaaDoorKPlOf
import Derived.Test.YtlbioncagkkkoaaDoorKEach
import Derived.Laws.EntriesVeiled
import Derived.Test.YtlbioncagkkkoaaDoorKSmall
import Derived.Test.YtlbioncagkkkoaaDoorKTcE
namespace Go.Proofs.YtlbioncagkkkoaaDoor
set_option linter.unusedVariables false
set_option linter.unusedSimpArgs false

def tocS : ByteArray := ⟨#[116, 111, 99]⟩
def depS : ByteArray := ⟨#[100, 101, 112, 116, 104]⟩
mutual
/-- Blocks in which the tables of contents have the Kids that K gives for their attributes. -/
def Blk.wk (K : At → List Blk) : Blk → Blk
  | .mk k lv i t d ti a li ks => .mk k lv i t d ti a li (if k = 13 ∧ i = tocS then K a else Blk.wkL K ks)
def Blk.wkL (K : At → List Blk) : List Blk → List Blk
  | [] => []
  | x :: l => x.wk K :: Blk.wkL K l
end
/-- The first value of a key. -/
def getP (l : List Pr) (key : ByteArray) : Option ByteArray := (l.find? fun p => decide (p.key = key)).map (·.val)
/-- The depth that a value says. -/
def depV (o : Option ByteArray) : Int := match o with
  | some v => match v.data.toList with
    | [c] => if 49 ≤ c.toNat ∧ c.toNat ≤ 54 then (c.toNat : Int) - 48 else 3
    | _ => 3
  | none => 3
def depthOf (a : At) : Int := depV (getP a.prs depS)
def bareL (l : List Blk) : List Blk := Blk.wkL (fun _ => []) l
/-- The entries of a document without its tables of contents. -/
def allE (l : List Blk) : List En := tocL (numsL (bareL l)) 6
def uptoE (l : List En) (n : Int) : List En := l.filter fun e => decide (e.lv ≤ n)
def fillK (l : List Blk) (a : At) : List Blk := listR (uptoE (allE l) (depthOf a))
def fillL (l : List Blk) : List Blk := Blk.wkL (fillK l) l
theorem dep_bd (o : Option ByteArray) : 1 ≤ depV o ∧ depV o ≤ 6 := by
  unfold depV
  split
  · split
    · split <;> omega
    · omega
  · omega
theorem wkL_len (K : At → List Blk) : ∀ (l : List Blk), (Blk.wkL K l).length = l.length
  | [] => by rw [Blk.wkL]
  | x :: l => by rw [Blk.wkL, List.length_cons, List.length_cons, wkL_len K l]
theorem wkL_snoc (K : At → List Blk) : ∀ (l : List Blk) (k : Nat) (x : Blk), l[k]? = some x → Blk.wkL K (l.take (k + 1)) = Blk.wkL K (l.take k) ++ [x.wk K]
  | [], _, _, h => by simp at h
  | y :: l, 0, x, h => by
    simp at h; subst h
    simp [Blk.wkL]
  | y :: l, k + 1, x, h => by
    rw [List.take_succ_cons, List.take_succ_cons, Blk.wkL, Blk.wkL, wkL_snoc K l k x (by simpa using h), List.cons_append]
end Go.Proofs.YtlbioncagkkkoaaDoor

namespace Go.Proofs.YtlbioncagkkkoaaDoor
open Go.RowKit Go.Shelf
set_option linter.unusedVariables false
set_option linter.unusedSimpArgs false

attribute [local go_sem] Oper.semAt_some

theorem grownDrew (W : World) : W.grownBy W.drew none := ⟨rfl, rfl, rfl, Nat.le_refl _, fun _ _ _ => rfl⟩

set_option maxRecDepth 100000 in
set_option maxHeartbeats 4000000 in
theorem each1_in (n l Bl B0 : Nat) (P : Blk → Prop) (bs : List Blk) (v : Value) (w0 : World) (Kp : World → World → Prop) (hK : KpOk B0 Kp) (J Jx : List (BW B0 w0 P) → World → Prop) (W : World)
    (hJ : AbidesFrom W.heap.size J)
    (hY : ∀ (m : Nat) (pre : List (BW B0 w0 P)) (x : BW B0 w0 P) (W1 : World), J pre W1 → pre.length < (Blk.eachL bs).length → YieldAt Fence.wide m Tryd.prog l #[x.1.enc] W1 fun e W' =>
      (e = .returned (.bool true) ∧ J (pre ++ [x]) W' ∧ Kp W1 W') ∨ (e = .returned (.bool false) ∧ Jx (pre ++ [x]) W'))
    (hPb : ∀ b ∈ Blk.eachL bs, P b) (hrd : Rd (· < B0) w0 (blksD bs) [v]) (hbel : Below B0 w0 W) (hB0 : B0 ≤ W.heap.size) (hBl : Box1 Bl v 26 W) (h0 : J [] W) :
    CallsIn Fence.wide n Tryd.prog 67 #[.func (.yield l) #[] #[], .pointer (some ⟨Bl, 0, none⟩)] W fun e W' => (∃ v, e = .returned v) ∧
      ((∃ xs, blksOf xs = Blk.eachL bs ∧ J xs W') ∨ (∃ pre, blksOf pre <+: Blk.eachL bs ∧ Jx pre W')) := by
  obtain ⟨va, vn, vc, rfl⟩ := Rd.sl_form hrd
  have hdd : ∀ k : Nat, (Fence.wide.depth.isSome = true → 1 ≤ k) := fun k h => by cases h
  have HC : Hid (∀ (m : Nat) (w2 : World), Below B0 w0 w2 → EB l W.heap.size (W.heap.size + 1) w2 → J [] w2 → _) := fun m w2 h1 h2 h3 =>
    each11_in l B0 W.heap.size (W.heap.size + 1) (Blk.eachL bs).length P w0 Kp hK J Jx (fun pre W1 h => hJ pre W1 W1.drew none h (grownDrew W1) (fun r e => by cases e)) hY (Blk.szL bs) m bs (.slice va vn vc) [] w2 (Nat.le_refl _) hPb hrd h1 h2 h3 (by simp)
  have HJ := Lib.hid hJ
  have HB := Lib.hid hBl
  have HBEL := Lib.hid hbel
  have H0 := Lib.hid h0
  obtain ⟨p, hp⟩ : ∃ p, p = W.heap.size := ⟨_, rfl⟩
  rw [← hp] at HC
  clear hK hY hrd hbel hBl h0 hJ
  refine callsIn_of_wp Tryd.func67 rfl trivial ?_ rfl
  simp only [Tryd.ntmps67, List.size_toArray, List.length_cons, List.length_nil, Nat.reduceAdd, Nat.reduceSub, Array.replicate_succ, Array.replicate_zero, List.push_toArray, List.append_toArray, List.nil_append, List.cons_append]
  gi_upto_region 2 with (fail)
  obtain ⟨wA, hwA⟩ : ∃ wA, wA = (W.alloc (.cells #[.func (.yield l) #[] #[]] 93)).alloc (.cells #[.nilFunc] 112) := ⟨_, rfl⟩
  have b0 : Box1 p (.func (.yield l) #[] #[]) 93 wA := by rw [hwA, hp]; exact (Box1.new W _ _).alloc _
  have b1 : Box1 (p + 1) .nilFunc 112 wA := by
    rw [hwA, hp]
    have := Box1.new (W.alloc (.cells #[.func (.yield l) #[] #[]] 93)) .nilFunc 112
    rwa [World.size_alloc] at this
  have gA : Below p W wA := by rw [hwA, hp]; exact ((Below.refl _ _).alloc (Nat.le_refl _) _).alloc (by simp) _
  rw [← hwA, ← hp]
  rw [← hp] at hB0
  have HP := Lib.hid hp
  clear hwA hp
  have c1 := b1.cell
  have f1 := b1.free
  gi_upto_region 3 with (fail)
  obtain ⟨wB, hwB⟩ : ∃ wB, wB = wA.setCell ⟨p + 1, 0, none⟩ (eachF p (p + 1)) := ⟨_, rfl⟩
  have d0 : Box1 p (.func (.yield l) #[] #[]) 93 wB := by rw [hwB]; exact b0.far (by omega) _
  have d1 : Box1 (p + 1) (eachF p (p + 1)) 112 wB := by rw [hwB]; exact b1.set _
  have gB : Below p W wB := by rw [hwB]; exact gA.setCell (p := ⟨p + 1, 0, none⟩) (by show p ≤ p + 1; omega) _
  have cl : wB.cell? ⟨Bl, 0, none⟩ = some (.slice va vn vc) := (HB.out.below (by have := HB.out.lt; rw [HP.out]; exact this) gB).cell
  have c2 := d1.cell
  have HD := Lib.hid (HC.out (n - 1) wB (HBEL.out.trans (gB.mono hB0)) ⟨d0, d1⟩ (HJ.out [] W wB none H0.out ⟨gB.os, gB.tape, gB.output, gB.size, fun k hk _ => gB.block k (by rw [HP.out]; exact hk)⟩ (fun r e => by cases e)))
  unfold eachF at hwB c2
  rw [← hwB]
  clear hwB b0 b1 gA c1 f1 d0 d1 gB
  gi_wp2_with (first
    | (refine ⟨trivial, hdd _, ?_⟩; refine HD.out.mono ?_; clear HD; rintro e W1 (⟨rfl, q, hq, hJ1, hb1, hE1⟩ | ⟨rfl, q, hq, hx1⟩))
    | (refine HD.out.mono ?_; clear HD; rintro e W1 (⟨rfl, q, hq, hJ1, hb1, hE1⟩ | ⟨rfl, q, hq, hx1⟩)))
  · go_end0
    exact ⟨⟨_, rfl⟩, .inl ⟨q, hq, by simpa using hJ1⟩⟩
  · go_end0
    exact ⟨⟨_, rfl⟩, .inr ⟨q, hq, by simpa using hx1⟩⟩

theorem each_stops (n Bl B0 : Nat) (P : Blk → Prop) (bs : List Blk) (v : Value) (w0 w : World) (Kp : World → World → Prop) (hK : KpOk B0 Kp) (hPb : ∀ b ∈ Blk.eachL bs, P b) (hrd : Rd (· < B0) w0 (blksD bs) [v]) (hbel : Below B0 w0 w) (hB0 : B0 ≤ w.heap.size) (hBl : Box1 Bl v 26 w) :
    SeqStopsK Fence.wide n Tryd.prog 67 #[.pointer (some ⟨Bl, 0, none⟩)] (fun x : BW B0 w0 P => #[x.1.enc]) Kp (fun xs => blksOf xs = Blk.eachL bs) (fun pre => blksOf pre <+: Blk.eachL bs) (Blk.eachL bs).length w := fun l J Jx W hW hJ hJx hY h0 =>
  each1_in n l Bl B0 P bs v w0 Kp hK J Jx W hJ (fun m pre x W1 hj hl => yieldAny rfl m (hY pre x W1 hj hl)) hPb hrd (hbel.trans (hW.mono hB0)) (Nat.le_trans hB0 hW.size) (hBl.below hBl.lt hW) h0

set_option maxHeartbeats 4000000 in
theorem each_any (va : Option Addr) (vn vc : Nat) (w : World) : Calls Tryd.prog 59 #[.slice va vn vc] w fun e w' => e = .returned (.func (.func 67) #[] #[.pointer (some ⟨w.heap.size, 0, none⟩)]) ∧ w' = w.alloc (.cells #[.slice va vn vc] 26) := by
  go_enter Tryd.func59, Tryd.ntmps59
  go_wp2
  go_ret
  exact ⟨rfl, rfl⟩
end Go.Proofs.YtlbioncagkkkoaaDoor

namespace Go.Proofs.YtlbioncagkkkoaaDoor
set_option linter.unusedVariables false
set_option linter.unusedSimpArgs false

mutual
theorem Inl.bd_sm : ∀ (x : Inl), x.small → x.bd
  | .mk k t d ti a ar ci ks, h => by
    unfold Inl.small at h
    obtain ⟨h1, h2, h3, h4, h5, h6, h7, h8, h9⟩ := h
    unfold At.short at h4
    have hk := Inl.bdL_sm ks h9
    unfold Inl.bd
    exact ⟨by omega, by omega, by omega, by omega, hk⟩
theorem Inl.bdL_sm : ∀ (l : List Inl), Inl.smallL l → Inl.bdL l
  | [], _ => by unfold Inl.bdL; trivial
  | x :: l, h => by
    unfold Inl.smallL at h
    unfold Inl.bdL
    exact ⟨Inl.bd_sm x h.1, Inl.bdL_sm l h.2⟩
end
mutual
theorem Blk.bd_sm : ∀ (x : Blk), x.small → x.bd
  | .mk k lv i t d ti a li ks, h => by
    unfold Blk.small at h
    obtain ⟨h1, h2, h3, h4, h5, h6, h7, h8⟩ := h
    unfold At.short at h5
    have hk := Blk.bdL_sm ks h8
    unfold Blk.bd
    exact ⟨by omega, by omega, Inl.bdL_sm li h6, by omega, hk⟩
theorem Blk.bdL_sm : ∀ (l : List Blk), Blk.smallL l → Blk.bdL l
  | [], _ => by unfold Blk.bdL; trivial
  | x :: l, h => by
    unfold Blk.smallL at h
    unfold Blk.bdL
    exact ⟨Blk.bd_sm x h.1, Blk.bdL_sm l h.2⟩
end
end Go.Proofs.YtlbioncagkkkoaaDoor

namespace Go.Proofs.YtlbioncagkkkoaaDoor
set_option linter.unusedVariables false
set_option linter.unusedSimpArgs false

section
variable {P : Int → ByteArray → Prop}
end
theorem szL_app2 : ∀ (l m : List Inl), Inl.szL (l ++ m) = Inl.szL l + Inl.szL m
  | [], m => by rw [List.nil_append]; show _ = Inl.szL [] + _; rw [Inl.szL]; omega
  | x :: l, m => by rw [List.cons_append, Inl.szL, Inl.szL, szL_app2 l m]; omega
theorem szL_one (x : Inl) : Inl.szL [x] = x.sz := by rw [Inl.szL, Inl.szL]; omega
end Go.Proofs.YtlbioncagkkkoaaDoor

namespace Go.Proofs.YtlbioncagkkkoaaDoor
set_option linter.unusedVariables false
set_option linter.unusedSimpArgs false

end Go.Proofs.YtlbioncagkkkoaaDoor
