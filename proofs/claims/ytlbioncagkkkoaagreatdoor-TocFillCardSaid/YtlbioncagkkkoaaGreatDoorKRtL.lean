/- Contract of publisherref24.List. -/
import Derived.Test.YtlbioncagkkkoaaGreatDoorKRtS
import Derived.Test.YtlbioncagkkkoaaGreatDoorKTcK
import Derived.Deep.QuietTactic
import Derived.BigQuiet
import Derived.IntWalk
namespace Go.Proofs.YtlbioncagkkkoaaGreatDoor
open Go.RowKit
set_option linter.unusedVariables false
set_option linter.unusedSimpArgs false

theorem RdL.dropN {ok : Nat → Prop} {w : World} : ∀ (n : Nat) (l : List D) (rows : List (List Value)), RdL ok w l rows → RdL ok w (l.drop n) (rows.drop n)
  | 0, l, rows, h => h
  | n + 1, [], rows, h => by rw [h.nil_open]; simpa using RdL.none
  | n + 1, d :: l, rows, h => by
    obtain ⟨r, rs, rfl, h1, h2⟩ := h.cons_open
    simpa using RdL.dropN n l rs h2
theorem RdL.takeN {ok : Nat → Prop} {w : World} : ∀ (n : Nat) (l : List D) (rows : List (List Value)), RdL ok w l rows → RdL ok w (l.take n) (rows.take n)
  | 0, l, rows, h => by simpa using RdL.none
  | n + 1, [], rows, h => by rw [h.nil_open]; simpa using RdL.none
  | n + 1, d :: l, rows, h => by
    obtain ⟨r, rs, rfl, h1, h2⟩ := h.cons_open
    simpa using RdL.cons h1 (RdL.takeN n l rs h2)
theorem flat_drop (k : Nat) : ∀ (rows : List (List Value)) (i : Nat), (∀ r ∈ rows, r.length = k) → rows.flatten.drop (i * k) = (rows.drop i).flatten
  | rows, 0, _ => by simp
  | [], i + 1, _ => by simp
  | r :: rs, i + 1, h => by
    have h1 := h r (by simp)
    have h2 := flat_drop k rs i (fun x hx => h x (by simp [hx]))
    rw [List.flatten_cons, List.drop_succ_cons, ← h2, Nat.add_mul, Nat.one_mul, Nat.add_comm, ← List.drop_drop]
    congr 1
    rw [← h1, List.drop_left]
theorem flat_pre : ∀ (rows : List (List Value)) (n j : Nat) (u : Value), (rows.take n).flatten[j]? = some u → rows.flatten[j]? = some u := by
  intro rows n j u h
  have e : rows.flatten = (rows.take n).flatten ++ (rows.drop n).flatten := by rw [← List.flatten_append, List.take_append_drop]
  rw [e, List.getElem?_append_left (List.getElem?_eq_some_iff.1 h).1]
  exact h
/-- A part of a slice. -/
theorem Rd.sub {ok : Nat → Prop} {w : World} {k : Nat} {l : List D} {a : Option Addr} {cap : Nat} (h : Rd ok w (.sl k l) [.slice a l.length cap]) (i n : Nat) (hin : i + n ≤ l.length) :
    (n = 0 ∨ ∃ b off, a = some ⟨b, off, none⟩ ∧ ok b ∧ Rd ok w (.sl k ((l.drop i).take n)) [.slice (some ⟨b, off + i * k, none⟩) n (cap - i)]) := by
  rcases Nat.eq_zero_or_pos n with h0 | hp
  · exact .inl h0
  unfold Rd at h
  obtain ⟨a', cap', rows, h1, h2, h3, h4, h5, h6⟩ := h
  obtain ⟨rfl, rfl⟩ : a = a' ∧ cap = cap' := by
    have h9 := (List.cons.inj h1).1
    injection h9 with h9 _ h10
    exact ⟨h9, h10⟩
  rcases h6 with h6 | ⟨b, off, rfl, h8, hb, h9⟩
  · omega
  refine .inr ⟨b, off, rfl, h8, ?_⟩
  have hl : ((l.drop i).take n).length = n := by rw [List.length_take, List.length_drop]; omega
  unfold Rd
  refine ⟨_, _, (rows.drop i).take n, by rw [hl], by rw [hl]; omega, by omega, RdL.takeN n _ _ (RdL.dropN i _ _ h4), fun r hr => h5 r (List.drop_subset _ _ (List.take_subset _ _ hr)), .inr ⟨b, off + i * k, rfl, h8, hb, fun j u hu => ?_⟩⟩
  have h10 := flat_pre (rows.drop i) n j u hu
  rw [← flat_drop k rows i h5, List.getElem?_drop] at h10
  have h11 := h9 _ u h10
  rw [Nat.add_assoc]
  exact h11
theorem Rd.sub0 {ok : Nat → Prop} {w : World} {k : Nat} (a : Option Addr) {cap : Nat} (hc : cap ≤ maxLen) : Rd ok w (.sl k []) [.slice a 0 cap] := by
  unfold Rd
  exact ⟨a, cap, [], rfl, Nat.zero_le _, hc, RdL.none, by simp, .inl rfl⟩
theorem RowU.litO {T : TypeId} {k : Nat} {w : World} {ok : Nat → Prop} {d : D} {r : List Value} (hr : r.length = k) (hx : Rd ok w d r) : RowU T k (fun b => ok b ∧ b < w.heap.size) (w.heap.size + 1) (cutW w.heap.size (w.alloc (.cells r.toArray T))) [d] [r] (.slice (some ⟨w.heap.size, 0, none⟩) 1 1) (w.alloc (.cells r.toArray T)) := by
  have hs : (w.alloc (.cells r.toArray T)).heap.size = w.heap.size + 1 := World.size_alloc _ _
  have hz := cutW_size (w := w.alloc (.cells r.toArray T)) (n := w.heap.size) (by omega)
  refine ⟨?_, ?_, by simp [hr], by rw [hz]; exact cutW_below (by omega), ?_, by omega, by omega⟩
  · refine ⟨by simp [hr], .inr ⟨w.heap.size, 1, r.toArray, rfl, by omega, ?_, by simp, by unfold maxLen; omega, ?_, ?_⟩⟩
    · exact heap_alloc_new w _
    · simp [hr]
    · subst hr; simp
  · refine RdL.one (Rd.keep (fun b hb hlt => ⟨⟨.inl ⟨hb, hlt⟩, fun e => ?_, by omega⟩, Below.heap_alloc w _ b hlt⟩) _ _ hx)
    have e1 : w.heap.size = b := by simpa [Value.ownBlock] using e
    omega
  · intro g hg
    have e1 : w.heap.size = g := by simpa [Value.ownBlock] using hg
    omega
/-- A row whose elements read the blocks of q alone, none of them its own. -/
structure RowP (T : TypeId) (k : Nat) (q : Nat → Prop) (base : Nat) (ds : List D) (rows : List (List Value)) (v : Value) (w : World) : Prop where
  own : w.ownsRow base T k v ds.length rows.flatten
  red : RdL q w ds rows
  len : ∀ r ∈ rows, r.length = k
  ne : ∀ b, q b → v.ownBlock ≠ some b
/-- append of all elements of a slice, at a step of a region that draws its order. -/
theorem step_putsP {T : TypeId} {k : Nat} {q : Nat → Prop} {base : Nat} {ds es : List D} {rows : List (List Value)} {v : Value} {w : World} {n m : Nat} {ops : Array Oper} {o : Oper} {a : Act} {K : Act → World → Prop} {Q : Exit → Act → World → Prop} {E : Prop} (hgd : o.guard = none) (s x : Operand) (t : TypeId)
    (ho : o.op = .call { callee := .builtin .append, args := #[s, x], argTypes := #[t, t] })
    (i : TypeInfo) (z : Value) (bytes : Nat) (ht : Tryz.prog.underlying t = some (.slice T)) (hi : Tryz.prog.info? T = some i) (hz : i.zero = some z)
    (hsize : i.size = k) (hby : i.bytes = bytes) (hzs : z.cells.size = k) (hsz : 0 < k)
    (h : RowP T k q base ds rows v w) (vx : Value) (hx : Rd q w (.sl k es) [vx]) (h1 : ∀ (rs : List (List Value)) (ok' : Nat → Prop), RdL ok' w es rs → ∀ u ∈ rs.flatten, u.oneCell' = true) (hdn : ds.length = n) (hem : es.length = m) (hn : n + m ≤ 10000000) (hb200 : bytes ≤ 1000) (hbase : base ≤ w.heap.size)
    (hs : a.eval s = v) (hxe : a.eval x = vx)
    (hK : ∀ a' c' rows' w', RowP T k (fun b => q b ∧ b < w.heap.size) base (ds ++ es) rows' (.slice a' (n + m) c') w' → w.grownBy w' v.ownBlock → ((Value.slice a' (n + m) c').ownBlock = v.ownBlock ∨ (Value.slice a' (n + m) c').ownBlock = some w.heap.size) → K (a.put o.dst (.slice a' (n + m) c')) w') :
    if Region.wanted o (yielded ops a.tmps) = true then Oper.wp Tryz.prog o a w K Q else E := by
  subst hdn hem
  obtain ⟨A, c, rs, rfl, h2, h3, h4, h5, h6⟩ := Rd.readsG hx
  have hmul : (ds.length + es.length) * bytes ≤ 140737488355328 := Nat.le_trans (Nat.mul_le_mul hn hb200) (by omega)
  refine step_append_any _ hgd s x t ho base T i z k bytes ht hi hz hsize hby hzs hsz v ds.length rows.flatten hs h.own w.heap.size A es.length c rs.flatten hxe h6 (h1 rs _ h4) (by unfold maxLen; omega) hmul hbase ?_
  intro v' w' hown hg hat
  obtain ⟨a', c', rfl⟩ := own_slice hown
  refine hK a' c' (rows ++ rs) w' ?_ hg hat
  have hst : Stays q (fun b => q b ∧ b < w.heap.size) w w' := fun b hb hlt => ⟨⟨hb, hlt⟩, hg.block b hlt (fun e => h.ne b hb e.symm)⟩
  refine ⟨by rw [List.length_append, List.flatten_append]; exact hown, RdL.app (RdL.keep hst _ _ h.red) (RdL.keep hst _ _ h4), fun r hr => ?_, fun b hb e => ?_⟩
  · rcases List.mem_append.1 hr with hr | hr
    · exact h.len r hr
    · exact h5 r hr
  · rcases hat with e2 | e2
    · rw [e2] at e; exact h.ne b hb.1 e
    · rw [e2] at e; have := Option.some.inj e; omega
theorem RowP.below {T : TypeId} {k : Nat} {q : Nat → Prop} {base : Nat} {ds : List D} {rows : List (List Value)} {v : Value} {w w' : World} (h : RowP T k q base ds rows v w) (hb : Below w.heap.size w w') : RowP T k q base ds rows v w' :=
  ⟨own_below h.own hb, RdL.keep (fun b h1 h2 => ⟨h1, hb.block b h2⟩) _ _ h.red, h.len, h.ne⟩
/-- Behind the kids of an item. -/
def RlCut (ok : Nat → Prop) (x : En) (ks : List Blk) (me P S1 : Nat) (wC wx : World) : Prop :=
  ∃ a6 c6, CB 53 (P + 1 + 1) [.int .i64 9, .int .i64 0, .string ⟨#[]⟩, .string ⟨#[]⟩, .string ⟨#[]⟩, .string ⟨#[]⟩, .string ⟨#[]⟩, .slice none 0 0, .slice none 0 0, .slice none 0 0, .slice a6 (1 + me) c6] wx ∧
    Rd (fun b => ok b ∨ S1 ≤ b) wx (.sl 11 ([(paraB x).d] ++ ks.map Blk.d)) [.slice a6 (1 + me) c6] ∧ Below (P + 1) wC wx
/-- Does the entry at k lie over the level? -/
def ovAt (all : List En) (lv : Int) (k : Nat) : Bool := match all[k]? with
  | some y => decide (lv < y.lv)
  | none => false
theorem tw_more {α : Type} (p : α → Bool) : ∀ (l : List α) (m : Nat), m ≤ (l.takeWhile p).length → (∀ y, l[m]? = some y → p y = true → m + 1 ≤ (l.takeWhile p).length) ∧ ((∀ y, l[m]? = some y → p y = false) → m = (l.takeWhile p).length)
  | [], m, h => by
    simp at h; subst h
    exact ⟨fun y hy => by simp at hy, fun _ => rfl⟩
  | x :: l, 0, h => by
    refine ⟨fun y hy hp => ?_, fun hf => ?_⟩
    · simp at hy; subst hy
      rw [List.takeWhile_cons, if_pos hp]; simp
    · rw [List.takeWhile_cons, if_neg (by simp [hf x (by simp)])]; rfl
  | x :: l, m + 1, h => by
    by_cases hx : p x = true
    · rw [List.takeWhile_cons, if_pos hx, List.length_cons] at h ⊢
      have := tw_more p l m (by omega)
      refine ⟨fun y hy hp => ?_, fun hf => ?_⟩
      · have := this.1 y (by simpa using hy) hp; omega
      · have := this.2 (fun y hy => hf y (by simpa using hy)); omega
    · rw [List.takeWhile_cons, if_neg hx] at h; simp at h
theorem ov_step (all : List En) (x : En) (i k : Nat) (h1 : i + 1 ≤ k) (h2 : k - (i + 1) ≤ ((all.drop (i + 1)).takeWhile x.over).length) :
    (ovAt all x.lv k = true → k + 1 - (i + 1) ≤ ((all.drop (i + 1)).takeWhile x.over).length ∧ k < all.length) ∧ (ovAt all x.lv k = false → k - (i + 1) = ((all.drop (i + 1)).takeWhile x.over).length) := by
  have h3 := tw_more x.over (all.drop (i + 1)) (k - (i + 1)) h2
  have e : (all.drop (i + 1))[k - (i + 1)]? = all[k]? := by rw [List.getElem?_drop]; congr 1; omega
  rw [e] at h3
  unfold ovAt
  cases hk : all[k]? with
  | none => exact ⟨(fun h => by cases h), fun _ => h3.2 (fun y hy => by rw [hk] at hy; cases hy)⟩
  | some y =>
    have hlt := (List.getElem?_eq_some_iff.1 hk).1
    refine ⟨fun h => ⟨?_, hlt⟩, fun h => h3.2 (fun y' hy' => by rw [hk] at hy'; cases hy'; exact h)⟩
    have := h3.1 y hk h
    omega
/-- What the reference's list asks. -/
structure REnsOk (all : List En) : Prop where
  len : all.length ≤ 100000
  sh : ∀ x ∈ all, RShOk x
theorem REnsOk.part {all : List En} (h : REnsOk all) (i n : Nat) : REnsOk ((all.drop i).take n) :=
  ⟨by have := h.len; rw [List.length_take, List.length_drop]; omega, fun x hx => h.sh x (List.mem_of_mem_drop (List.mem_of_mem_take hx))⟩
theorem items_at (all : List En) (i : Nat) (x : En) (h : all[i]? = some x) : itemsR (all.drop i) = itemB x (listR ((all.drop (i + 1)).takeWhile x.over)) :: itemsR (all.drop (i + 1 + ((all.drop (i + 1)).takeWhile x.over).length)) := by
  rw [drop_at all i x h, itemsR_cons, dw_drop, List.drop_drop]
theorem tw_take {α : Type} (p : α → Bool) : ∀ (l : List α), l.take (l.takeWhile p).length = l.takeWhile p
  | [] => rfl
  | x :: l => by
    by_cases hp : p x = true
    · rw [List.takeWhile_cons, if_pos hp, List.length_cons, List.take_succ_cons, tw_take p l]
    · rw [List.takeWhile_cons, if_neg hp]; rfl
def rlC (v : Value) : List Value := [.int .i64 7, .int .i64 0, .string ⟨#[]⟩, .string ⟨#[]⟩, .string ⟨#[]⟩, .string ⟨#[]⟩, .string ⟨#[]⟩, .slice none 0 0, .slice none 0 0, .slice none 0 0, v]
/-- At the head of the outer loop. -/
def RlRel (ok : Nat → Prop) (all : List En) (w : World) (vi : Value) (wr : World) : Prop :=
  ∃ (i : Nat) (done : List Blk) (rows : List (List Value)) (v : Value) (w0 : World), i ≤ all.length ∧ vi = .int .i64 i ∧ done ++ itemsR (all.drop i) = itemsR all ∧ done.length ≤ i ∧ w0.heap.size = w.heap.size + 1 ∧
    RowU 53 11 ok wr.heap.size w0 (done.map Blk.d) rows v wr ∧ CB 53 w.heap.size (rlC v) wr ∧ Below w.heap.size w wr
def RlPost (ok : Nat → Prop) (w : World) (l : List Blk) (e : Ending) (w' : World) : Prop := ∃ v, e = .returned v ∧ Rd (fun b => ok b ∨ w.heap.size ≤ b) w' (blksD l) [v] ∧ Below w.heap.size w w'

/-- The cut of a slice of entries, in the regions' own spelling. -/
theorem run_cut_en (g off n cap i T : Nat) (h : i + 1 + T ≤ cap) (hm : cap ≤ 9223372036854775807) (W : World) :
    (Instr.slice 29 (.slice (some ⟨g, off, none⟩) n cap) (some (.int .i64 ((i : Int) + 1))) (some (.int .i64 ((i : Int) + 1 + (T : Int)))) none).run Tryz.prog W = .ok (.slice (if cap = i + 1 then some ⟨g, off, none⟩ else some ⟨g, off + (i + 1) * 5, none⟩) T (cap - (i + 1))) W := by
  have hu : Tryz.prog.underlying 29 = some (.slice (Tryz.prog.elem 29)) := by kernel_rfl
  have s2 : (0 : Int) ≤ (i : Int) + 1 := by omega
  have s3 : ((i : Int) + 1).toNat = i + 1 := by omega
  have s4 : (0 : Int) ≤ (i : Int) + 1 + (T : Int) := by omega
  have s5 : ((i : Int) + 1 + (T : Int)).toNat = i + 1 + T := by omega
  have s6 : (i : Int) + 1 ≤ (i : Int) + 1 + (T : Int) := by omega
  have s7 : (i : Int) + 1 + (T : Int) ≤ (cap : Int) := by omega
  have hs : ∀ W, (sizeOf (Tryz.prog.elem 29)).run Tryz.prog W = .ok 5 W := fun W => by kernel_rfl
  rw [run_slice_lh W _ _ _ _ hu .i64 .i64 _ _ s2 s6 s7, hs, s3, s5]
  show Result.ok (sliced _ _ _ _ _) W = _
  unfold sliced
  have e : (⟨g, off, none⟩ : Addr).add ((i + 1) * 5) = ⟨g, off + (i + 1) * 5, none⟩ := by unfold Addr.add; split <;> simp_all
  by_cases hc : cap = i + 1
  · rw [if_pos hc, if_pos hc, show i + 1 + T - (i + 1) = T by omega]
  · rw [if_neg hc, if_neg hc, show i + 1 + T - (i + 1) = T by omega, Option.map_some, e]

set_option maxRecDepth 100000 in
set_option maxHeartbeats 8000000 in
theorem rList24_any (n : Nat) : ∀ (all : List En) (v : Value) (ok : Nat → Prop) (w : World), all.length ≤ n → Rd ok w (ensD all) [v] → (∀ b, ok b → b < w.heap.size) → REnsOk all →
    Calls Tryz.prog 74 #[v] w (RlPost ok w (listR all)) := by
  induction n using Nat.strongRecOn with
  | _ n ih =>
    intro all v ok w hn hrd hB hok
    obtain ⟨iB, hiB, hzB0, hzB1, hzB2⟩ := info_parts infoBl
    obtain ⟨a, cap, hv, hs⟩ := Rd.sl_open hrd
    obtain rfl : v = .slice a all.length cap := by simpa using hv
    have hcap : all.length ≤ cap := by simpa using hs.le
    have hmx := hs.max
    unfold maxLen at hmx
    have hlen := hok.len
    have HS := Lib.hid hs
    have HRD := Lib.hid hrd
    have IH := Lib.hid ih
    have HB := Lib.hid hB
    have HOK := Lib.hid hok
    clear hs hv hrd ih hB hok
    by_cases h0 : all.length = 0
    · have hnil : all = [] := List.eq_nil_of_length_eq_zero h0
      have q0 : (((all.length : Nat) : Int) == 0) = true := by rw [beq_iff_eq]; omega
      have HN : Hid (listR all = []) := by show _ = _; rw [hnil]; unfold listR; rw [itemsR_nil]; rfl
      clear h0 hnil
      go_enter Tryz.func74, Tryz.ntmps74
      go_wp2
      go_ret
      exact ⟨_, rfl, by rw [HN.out]; exact Rd.nil_mk _ _ _, Below.refl _ _⟩
    have q0 : (((all.length : Nat) : Int) == 0) = false := by rw [beq_eq_false_iff_ne]; omega
    have HH0 := Lib.hid h0
    clear h0
    obtain ⟨wl, hwl⟩ : ∃ wl, wl = w.alloc (.cells #[.int .i64 7, .int .i64 0, .string ⟨#[]⟩, .string ⟨#[]⟩, .string ⟨#[]⟩, .string ⟨#[]⟩, .string ⟨#[]⟩, .slice none 0 0, .slice none 0 0, .slice none 0 0, .slice none 0 0] 53) := ⟨_, rfl⟩
    have zl : wl.heap.size = w.heap.size + 1 := by rw [hwl]; simp
    have R0 : Hid (RlRel ok all w (.int .i64 0) wl) := by
      refine ⟨0, [], [], .slice none 0 0, wl, Nat.zero_le _, rfl, by simp, Nat.le_refl _, zl, ?_, ?_, ?_⟩
      · exact RowU.nil _ _ _ _
      · rw [hwl]; exact CB.new _ _ _
      · rw [hwl]; exact (Below.refl _ _).alloc (Nat.le_refl _) _
    have HWL := Lib.hid hwl
    clear hwl zl
    go_enter Tryz.func74, Tryz.ntmps74
    go_upto_region 4 with (fail)
    rw [← HWL.out]
    clear HWL
    go_wp2
    go_loopw [4] (fun vi wr => RlRel ok all w vi wr) (fun i _ => all.length - (intOf i).toNat)
    case atStart => exact R0.out
    case round =>
      clear R0
      obtain ⟨i, done, rows, vk, w0, hi, rfl, hdone, hdl, hw0, hrow, hcb, hbel⟩ := hrel
      have HDONE := Lib.hid hdone
      have HW0 := Lib.hid hw0
      obtain ⟨ds, hds⟩ : ∃ ds, ds = done.map Blk.d := ⟨_, rfl⟩
      rw [← hds] at hrow
      obtain ⟨m, hm⟩ : ∃ m, m = ds.length := ⟨_, rfl⟩
      have hmi : m ≤ i := by rw [hm, hds, List.length_map]; exact hdl
      obtain ⟨av, cv, rfl, -, -⟩ := hrow.cap hm.symm
      have HDS := Lib.hid hds
      have HDN := Lib.hid hm.symm
      have HROW := Lib.hid hrow
      have HCB := Lib.hid hcb
      have HBEL := Lib.hid hbel
      have hlw := hcb.lt
      clear hdone hw0 hds hm hrow hcb
      by_cases hlt : i < all.length
      · obtain ⟨x, hx⟩ : ∃ x, all[i]? = some x := ⟨_, List.getElem?_eq_getElem hlt⟩
        obtain ⟨T, hT⟩ : ∃ T, T = ((all.drop (i + 1)).takeWhile x.over).length := ⟨_, rfl⟩
        have HT := Lib.hid hT
        have hTl : i + 1 + T ≤ all.length := by
          have := takeW_len x.over (all.drop (i + 1))
          rw [List.length_drop] at this
          omega
        have HX := Lib.hid hx
        have IN0 : Hid (∃ (k q : Nat), i + 1 ≤ k ∧ k - (i + 1) ≤ T ∧ (.int .i64 ((i : Int) + 1) : Value) = .int .i64 (k : Int) ∧ wr = wr.drewN q) := ⟨i + 1, 0, Nat.le_refl _, by omega, by go_num, rfl⟩
        have SL := Lib.hid (HS.out.up0 hbel)
        clear hT hx hbel
        go_wp2
        go_loopw [5] (fun vk wx => ∃ (k q : Nat), i + 1 ≤ k ∧ k - (i + 1) ≤ T ∧ vk = .int .i64 (k : Int) ∧ wx = wr.drewN q) (fun vk _ => all.length - (intOf vk).toNat)
        case atStart => exact IN0.out
        case round =>
          clear IN0
          obtain ⟨k, q, hk1, hkT, rfl, rfl⟩ := hrel
          have hk2 : k ≤ all.length := by omega
          have hov := ov_step all x i k hk1 (by rw [← HT.out]; exact hkT)
          rw [← HT.out] at hov
          obtain ⟨hov1, hov2⟩ := hov
          have HO1 := Lib.hid hov1
          have HO2 := Lib.hid hov2
          obtain ⟨g, off, vl, vr, ha, hgo, hgl, c0, c1, c2, c3, c4, hER⟩ := ens_at SL.out HX.out
          have hi0 : (0 : Int) ≤ (i : Int) := by omega
          have hi1 : (i : Int) < (all.length : Int) := by omega
          have hk0 : (0 : Int) ≤ (k : Int) := by omega
          obtain ⟨b, hb⟩ : ∃ b, b = ovAt all x.lv k := ⟨_, rfl⟩
          have HBB := Lib.hid hb
          have SLK : Hid (∀ y, all[k]? = some y → wr.cell? ⟨g, off + k * 5, none⟩ = some (.int .i64 y.lv)) := by
            intro y hy
            obtain ⟨g', off', vl', vr', ha', -, -, d0, -⟩ := ens_at SL.out hy
            rw [ha] at ha'
            injection ha' with ha'
            injection ha' with h1 h2 _
            subst h1 h2
            exact d0
          subst ha
          clear hov1 hov2 hb c1 c2 c3 c4 hER hgo hgl
          go_upto_region 7 with (fail)
          go_cut [33] (fun v wx => v = .bool b ∧ ∃ q', wx = wr.drewN q')
          case first =>
            by_cases hkl : k < all.length
            · obtain ⟨y, hy⟩ : ∃ y, all[k]? = some y := ⟨_, List.getElem?_eq_getElem hkl⟩
              have d0 := SLK.out y hy
              have hbd : decide (x.lv < y.lv) = b := by rw [HBB.out]; unfold ovAt; rw [hy]
              have hk3 : (k : Int) < (all.length : Int) := by omega
              have q1 : decide (k < all.length) = true := decide_eq_true hkl
              have q2 : decide ((k : Int) < (all.length : Int)) = true := decide_eq_true hk3
              generalize y.lv = yl at *
              generalize x.lv = xl at *
              clear hy
              cases b
              all_goals
                go_quiet (fail)
                go_wp2_with fail
                go_meet
                exact ⟨rfl, _, World.drewN_drewN _ _ _⟩
            · have hbf : b = false := by
                rw [HBB.out]; unfold ovAt
                rw [List.getElem?_eq_none (by omega)]
              have q1 : decide (k < all.length) = false := decide_eq_false hkl
              have q2 : decide ((k : Int) < (all.length : Int)) = false := decide_eq_false (by omega)
              subst hbf
              go_quiet (fail)
              go_wp2_with fail
              go_meet
              exact ⟨rfl, _, World.drewN_drewN _ _ _⟩
          case rest =>
            obtain ⟨rfl, q', rfl⟩ := hcut
            cases b with
            | true =>
              obtain ⟨h3, h4⟩ := HO1.out HBB.out.symm
              go_wp2
              go_roundw
              case rel => exact ⟨k + 1, q', by omega, h3, by go_num, rfl⟩
              case measure => simp [intOf]; omega
            | false =>
              obtain rfl : k = i + 1 + T := by have := HO2.out HBB.out.symm; omega
              obtain ⟨w1, hw1⟩ : ∃ w1, w1 = wr.drewN q' := ⟨_, rfl⟩
              have bD : Below wr.heap.size wr w1 := by rw [hw1]; exact below_dN (Below.refl _ _) q'
              have gD : wr.grownBy w1 none := by rw [hw1]; exact ⟨rfl, rfl, rfl, Nat.le_refl _, fun _ _ _ => rfl⟩
              have hz1 : w1.heap.size = wr.heap.size := by rw [hw1]; rfl
              rw [← hw1]
              clear hw1 c0 SLK HO1 HO2 HBB
              obtain ⟨g', off', vl', vr', ha', -, -, c0, c1, c2, c3, c4, hER⟩ := ens_at (SL.out.up0 bD) HX.out
              obtain ⟨rfl, rfl⟩ : g = g' ∧ off = off' := by
                injection ha' with ha'
                injection ha' with h1 h2 _
                exact ⟨h1, h2⟩
              obtain ⟨al, nl, cl, rfl⟩ := Rd.sl_form hER.line
              obtain ⟨ar, nr, cr, rfl⟩ := Rd.sl_form hER.refs
              have hbw := HBEL.out.size
              have SH := Lib.hid (rShown_any x (.slice al nl cl) (.slice ar nr cr) ok w1 hER (fun b hb => by have := HB.out b hb; omega) (HOK.out.sh x (List.mem_of_getElem? HX.out)))
              have RW1 := Lib.hid (HROW.out.grown gD)
              have CB1 := Lib.hid (cb_grown HCB.out gD (by simp))
              have B1 := Lib.hid (HBEL.out.trans (bD.mono hbw))
              have HR1 := Lib.hid (show Rd ok w1 (.sl 5 (all.map En.d)) [.slice (some ⟨g, off, none⟩) (all.map En.d).length cap] from by
                have h1 := (HRD.out.up0 HBEL.out).up0 bD
                rw [List.length_map]
                exact h1)
              clear ha' hER bD gD
              obtain ⟨xl, id, tx, line, refs⟩ := x
              dsimp only at c0 c1 c2 SH
              go_wp2_with fail
              (with_reducible refine SH.out.mono ?_)
              rintro e w2 ⟨vk2, rfl, hk2, b2⟩
              obtain ⟨ak, nk, ck, rfl⟩ := Rd.sl_form hk2
              clear SH c0 c1 c2 c3 c4
              have hz2 := b2.size
              obtain ⟨P, hP⟩ : ∃ P, P = w2.heap.size := ⟨_, rfl⟩
              obtain ⟨wA, hwA⟩ : ∃ wA, wA = w2.alloc (.cells #[.int .i64 9, .string ⟨#[]⟩, .string (hashB ++ id), .string ⟨#[]⟩, .string ⟨#[]⟩, .slice none 0 0, .slice none 0 0, .slice none 0 0, .slice none 0 0, .slice ak nk ck] 47) := ⟨_, rfl⟩
              obtain ⟨wB, hwB⟩ : ∃ wB, wB = wA.alloc (.cells #[.int .i64 1, .int .i64 0, .string ⟨#[]⟩, .string ⟨#[]⟩, .string ⟨#[]⟩, .string ⟨#[]⟩, .string ⟨#[]⟩, .slice none 0 0, .slice none 0 0, .slice (some ⟨P, 0, none⟩) 1 1, .slice none 0 0] 53) := ⟨_, rfl⟩
              obtain ⟨wC, hwC⟩ : ∃ wC, wC = wB.alloc (.cells #[.int .i64 9, .int .i64 0, .string ⟨#[]⟩, .string ⟨#[]⟩, .string ⟨#[]⟩, .string ⟨#[]⟩, .string ⟨#[]⟩, .slice none 0 0, .slice none 0 0, .slice none 0 0, .slice (some ⟨P + 1, 0, none⟩) 1 1] 53) := ⟨_, rfl⟩
              have zA : wA.heap.size = P + 1 := by rw [hwA, hP]; simp
              have zB : wB.heap.size = P + 2 := by rw [hwB]; simp [zA]
              have zC : wC.heap.size = P + 3 := by rw [hwC]; simp [zB]
              have L1 : RowU 47 10 (fun b => (ok b ∨ w1.heap.size ≤ b) ∧ b < w2.heap.size) (w2.heap.size + 1) (cutW w2.heap.size wA) [(shownI ⟨xl, id, tx, line, refs⟩).d] [[.int .i64 9, .string ⟨#[]⟩, .string (hashB ++ id), .string ⟨#[]⟩, .string ⟨#[]⟩, .slice none 0 0, .slice none 0 0, .slice none 0 0, .slice none 0 0, .slice ak nk ck]] (.slice (some ⟨w2.heap.size, 0, none⟩) 1 1) wA := by
                rw [hwA]
                exact RowU.litO (r := [.int .i64 9, .string ⟨#[]⟩, .string (hashB ++ id), .string ⟨#[]⟩, .string ⟨#[]⟩, .slice none 0 0, .slice none 0 0, .slice none 0 0, .slice none 0 0, .slice ak nk ck]) rfl (Inl.mk_ 9 ⟨#[]⟩ (hashB ++ id) ⟨#[]⟩ (a := at0) ⟨⟨Rd.nil_mk _ _ _, Rd.nil_mk _ _ _⟩, Rd.nil_mk _ _ _, Rd.nil_mk _ _ _, hk2⟩)
              have PAR : Rd (fun b => ok b ∨ w1.heap.size ≤ b) wA (paraB ⟨xl, id, tx, line, refs⟩).d [.int .i64 1, .int .i64 0, .string ⟨#[]⟩, .string ⟨#[]⟩, .string ⟨#[]⟩, .string ⟨#[]⟩, .string ⟨#[]⟩, .slice none 0 0, .slice none 0 0, .slice (some ⟨P, 0, none⟩) 1 1, .slice none 0 0] := by
                refine Blk.mk_ 1 0 ⟨#[]⟩ ⟨#[]⟩ ⟨#[]⟩ ⟨#[]⟩ (a := at0) (li := [shownI ⟨xl, id, tx, line, refs⟩]) (ks := []) ⟨⟨Rd.nil_mk _ _ _, Rd.nil_mk _ _ _⟩, ?_, Rd.nil_mk _ _ _⟩
                have h1 := L1.rd
                rw [cutW_size (by omega)] at h1
                rw [hP]
                exact h1.weaken (fun b hb => by
                  rcases hb with hb | hb
                  · exact hb.1
                  · exact .inr (by omega))
              have L2 : RowU 53 11 (fun b => (ok b ∨ w1.heap.size ≤ b) ∧ b < wA.heap.size) (wA.heap.size + 1) (cutW wA.heap.size wB) [(paraB ⟨xl, id, tx, line, refs⟩).d] [[.int .i64 1, .int .i64 0, .string ⟨#[]⟩, .string ⟨#[]⟩, .string ⟨#[]⟩, .string ⟨#[]⟩, .string ⟨#[]⟩, .slice none 0 0, .slice none 0 0, .slice (some ⟨P, 0, none⟩) 1 1, .slice none 0 0]] (.slice (some ⟨wA.heap.size, 0, none⟩) 1 1) wB := by
                rw [hwB]
                exact RowU.litO (r := [.int .i64 1, .int .i64 0, .string ⟨#[]⟩, .string ⟨#[]⟩, .string ⟨#[]⟩, .string ⟨#[]⟩, .string ⟨#[]⟩, .slice none 0 0, .slice none 0 0, .slice (some ⟨P, 0, none⟩) 1 1, .slice none 0 0]) rfl PAR
              have KC : CB 53 (P + 1 + 1) [.int .i64 9, .int .i64 0, .string ⟨#[]⟩, .string ⟨#[]⟩, .string ⟨#[]⟩, .string ⟨#[]⟩, .string ⟨#[]⟩, .slice none 0 0, .slice none 0 0, .slice none 0 0, .slice (some ⟨P + 1, 0, none⟩) 1 1] wC := by
                show CB _ (P + 2) _ _
                rw [hwC, ← zB]; exact CB.new _ _ _
              have bA : Below w2.heap.size w2 wC := by
                rw [hwC, hwB, hwA]
                exact (((Below.refl _ _).alloc (Nat.le_refl _) _).alloc (by simp) _).alloc (by simp; omega) _
              have RPC : Hid (RowP 53 11 (fun b => (ok b ∨ w1.heap.size ≤ b) ∧ b ≠ P + 1 ∧ b ≠ P + 2) (P + 1) [(paraB ⟨xl, id, tx, line, refs⟩).d] [[.int .i64 1, .int .i64 0, .string ⟨#[]⟩, .string ⟨#[]⟩, .string ⟨#[]⟩, .string ⟨#[]⟩, .string ⟨#[]⟩, .slice none 0 0, .slice none 0 0, .slice (some ⟨P, 0, none⟩) 1 1, .slice none 0 0]] (.slice (some ⟨P + 1, 0, none⟩) 1 1) wC.drew) := by
                have o := L2.own
                rw [cutW_size (by omega), zA] at o
                have o2 := o.alloc (.cells #[.int .i64 9, .int .i64 0, .string ⟨#[]⟩, .string ⟨#[]⟩, .string ⟨#[]⟩, .string ⟨#[]⟩, .string ⟨#[]⟩, .slice none 0 0, .slice none 0 0, .slice none 0 0, .slice (some ⟨P + 1, 0, none⟩) 1 1] 53)
                rw [← hwC] at o2
                refine ⟨o2.drew, RdL.one ?_, by simp, fun b hb e => hb.2.1 (by simpa [Value.ownBlock] using e.symm)⟩
                have hst : ∀ b, b < wA.heap.size → wC.heap[b]? = wA.heap[b]? := fun b hb => by
                  rw [hwC, Below.heap_alloc wB _ b (by omega), hwB]; exact Below.heap_alloc wA _ b hb
                exact Rd.keep (w := wA) (w' := wC.drew) (fun b hb hlt => ⟨⟨hb, by omega, by omega⟩, hst b hlt⟩) _ _ PAR
              have bC : Below w1.heap.size w1 wC.drew := (below_trans_size b2 bA).drew
              have RWC := Lib.hid (RW1.out.below bC)
              have CBC := Lib.hid (CB1.out.below bC)
              have BC := Lib.hid (below_trans_size B1.out bC)
              have HRC := Lib.hid (HR1.out.up0 bC)
              have HKC := Lib.hid KC
              have hPw : w1.heap.size ≤ P := by omega
              have HZC := Lib.hid zC
              obtain ⟨sub, hsub⟩ : ∃ sub, sub = (all.drop (i + 1)).take T := ⟨_, rfl⟩
              have hsubl : sub.length = T := by rw [hsub, List.length_take, List.length_drop]; omega
              have HSUB : Hid (sub = (all.drop (i + 1)).takeWhile (En.over ⟨xl, id, tx, line, refs⟩)) := by
                show _ = _
                rw [hsub, HT.out, tw_take]
              have HSL := Lib.hid hsubl
              have IHC : Hid (∀ v W, Rd ok W (ensD sub) [v] → wC.heap.size ≤ W.heap.size → Calls Tryz.prog 74 #[v] W (RlPost ok W (listR sub))) := fun v W h1 h2 =>
                IH.out sub.length (by omega) sub v ok W (Nat.le_refl _) h1 (fun b hb => by have := HB.out b hb; omega) (by rw [hsub]; exact HOK.out.part _ _)
              have SUBRD : Hid (T = 0 ∨ Rd ok wC.drew (ensD sub) [.slice (some ⟨g, off + (i + 1) * 5, none⟩) T (cap - (i + 1))]) := by
                have h1 := Rd.sub HRC.out (i + 1) T (by rw [List.length_map]; omega)
                rcases h1 with h1 | ⟨b', off', h1, -, h2⟩
                · exact .inl h1
                · right
                  injection h1 with h1
                  injection h1 with e1 e2 _
                  subst e1 e2
                  have e : ensD sub = .sl 5 (((all.map En.d).drop (i + 1)).take T) := by unfold ensD; rw [hsub, List.map_take, List.map_drop]
                  rw [e]; exact h2
              clear hk2 b2 L1 L2 PAR KC bA bC hsub hsubl zA zB zC
              go_upto_region 10 with (fail)
              rw [← hP, ← hwA, ← hwB, ← hwC]
              clear hwA hwB hwC
              have k10 := HKC.out.cell 10 _ rfl
              have kf := cb_free HKC.out
              have hkl := HKC.out.lt
              clear hP
              have s1 : IntKind.i64.wrap ((i : Int) + 1) = (i : Int) + 1 := IntWalk.i64_in _ (by omega)
              have s2 : (0 : Int) ≤ (i : Int) + 1 := by omega
              have s3 : ((i : Int) + 1).toNat = i + 1 := by omega
              have s4 : (0 : Int) ≤ (i : Int) + 1 + (T : Int) := by omega
              have s5 : ((i : Int) + 1 + (T : Int)).toNat = i + 1 + T := by omega
              have s6 : (i : Int) + 1 ≤ (i : Int) + 1 + (T : Int) := by omega
              have s7 : (i : Int) + 1 + (T : Int) ≤ (cap : Int) := by omega
              obtain ⟨me, hme⟩ : ∃ me, me = ((listR sub).map Blk.d).length := ⟨_, rfl⟩
              have hme1 : me ≤ 1 := by rw [hme, List.length_map]; exact bul_len _
              have HME := Lib.hid hme.symm
              have HL1 : Hid ([(paraB ⟨xl, id, tx, line, refs⟩).d].length = 1) := rfl
              have hBP : w.heap.size ≤ P := by omega
              have HB0 : Hid (∀ b, ok b → b < P) := fun b hb => by have := HB.out b hb; omega
              clear hme
              go_cut [] (fun wx => RlCut ok ⟨xl, id, tx, line, refs⟩ (listR sub) me P w1.heap.size wC wx)
              case first =>
                obtain ⟨A9, hA9⟩ : ∃ A9 : Option Addr, A9 = if cap = i + 1 then some ⟨g, off, none⟩ else some ⟨g, off + (i + 1) * 5, none⟩ := ⟨_, rfl⟩
                have hsl : ∀ W : World, (Instr.slice 29 (.slice (some ⟨g, off, none⟩) all.length cap) (some (.int .i64 ((i : Int) + 1))) (some (.int .i64 ((i : Int) + 1 + (T : Int)))) none).run Tryz.prog W = .ok (.slice A9 T (cap - (i + 1))) W := fun W => by
                  rw [hA9]; exact run_cut_en g off all.length cap i T (by omega) (by omega) W
                have CL : Hid (Calls Tryz.prog 74 #[.slice A9 T (cap - (i + 1))] wC.drew (RlPost ok wC.drew (listR sub))) := IHC.out _ _ (by
                  by_cases h0 : T = 0
                  · have e : sub = [] := List.eq_nil_of_length_eq_zero (HSL.out.trans h0)
                    rw [e, h0]
                    exact Rd.sub0 _ (by unfold maxLen; omega)
                  · rw [hA9, if_neg (by omega)]
                    exact SUBRD.out.resolve_left h0) (Nat.le_refl _)
                clear hA9 s2 s3 s4 s5 s6 s7
                go_region_law (first
                  | (go_simp; go_at_call 74; (with_reducible refine CL.out.mono ?_); rintro e w5 ⟨v5, rfl, hk5, b5⟩; obtain ⟨a5, c5, hv5, -⟩ := Rd.sl_open hk5; obtain rfl : v5 = .slice a5 me c5 := (by rw [HME.out] at hv5; simpa using hv5); have k10' : w5.cell? ⟨P + 1 + 1, 10, none⟩ = some (.slice (some ⟨P + 1, 0, none⟩) 1 1) := (b5.cell (p := ⟨P + 1 + 1, 10, none⟩) hkl).trans k10; have RP5 := Lib.hid (RPC.out.below b5); have HX5 := Lib.hid (show Rd (fun b => (ok b ∨ w1.heap.size ≤ b) ∧ b ≠ P + 1 ∧ b ≠ P + 2) w5 (.sl 11 ((listR sub).map Blk.d)) [.slice a5 me c5] from hk5.weaken (fun b hb => by rcases hb with hb | hb; (exact ⟨.inl hb, by have := HB0.out b hb; omega, by have := HB0.out b hb; omega⟩); (have h9 : wC.heap.size ≤ b := hb; rw [HZC.out] at h9; exact ⟨.inr (by omega), by omega, by omega⟩))); have HB5 := Lib.hid b5; have hz5 : P + 3 ≤ w5.heap.size := (by have h9 : wC.heap.size ≤ w5.heap.size := b5.size; rw [HZC.out] at h9; exact h9); have HK5 := Lib.hid (show CB _ (P + 1 + 1) _ w5 from CB.below (w := wC.drew) HKC.out b5); clear hk5 b5 hv5)
                  | (refine step_putsP rfl (.tmp 46) (.tmp 52) 23 rfl iB _ 192 Tryz.underlying23 hiB hzB0 hzB1 hzB2 rfl (by decide) RP5.out (.slice a5 me c5) HX5.out (fun rs ok' h => one_bls (listR sub) rs ok' _ h) HL1.out HME.out (by omega) (by decide) (by omega) rfl rfl ?_; intro a6 c6 rows6 w6 hrow6 hg6 hat6; have K6 := cb_grown HK5.out hg6 (fun e => by have h9 : P + 1 + 1 = P + 1 := Option.some.inj e; omega); have k10'' := K6.cell 10 _ rfl; have kf'' := cb_free K6; have HR6 := Lib.hid hrow6; have HG6 := Lib.hid hg6; have HA6 := Lib.hid hat6; have HK6 := Lib.hid K6; have hl6 := K6.lt; clear hrow6 hg6 hat6 K6))
                all_goals
                  go_wp2_with fail
                  go_meet
                  have hst : ∀ b, b ≠ P + 1 + 1 → (w6.setCell ⟨P + 1 + 1, 10, none⟩ (.slice a6 (1 + me) c6)).heap[b]? = w6.heap[b]? := fun b hb => Below.heap_setCell w6 ⟨P + 1 + 1, 10, none⟩ _ b hb
                  refine ⟨a6, c6, cb_set HK6.out 10 _, ?_, ?_⟩
                  · have ho := own_set HR6.out.own ⟨P + 1 + 1, 10, none⟩ (.slice a6 (1 + me) c6) (fun e => by
                      rcases HA6.out with h | h
                      · rw [h] at e; have h9 : P + 1 = P + 1 + 1 := Option.some.inj e
                        omega
                      · rw [h] at e; have h9 := Option.some.inj e; have h8 : w5.heap.size = P + 1 + 1 := h9; omega)
                    refine Rd.sl_own ho (RdL.keep (fun b hb hlt => ⟨hb.1.1, hst b (by have := hb.1.2.2; omega)⟩) _ _ HR6.out.red) HR6.out.len (fun g9 e => .inr ?_)
                    have := (HR6.out.own.lt g9 e).1
                    omega
                  · have h5 : Below (P + 1) wC w5 := ⟨HB5.out.os, HB5.out.tape, HB5.out.output, HB5.out.size, fun b hb => HB5.out.block b (by show b < wC.heap.size; rw [HZC.out]; omega)⟩
                    have hs6 := HG6.out.size
                    refine ⟨HG6.out.os.trans h5.os, HG6.out.tape.trans h5.tape, HG6.out.output.trans h5.output, by have := h5.size; simpa [World.setCell] using Nat.le_trans this hs6, fun b hb => ?_⟩
                    rw [hst b (by omega), HG6.out.block b (by omega) (fun e => by have h9 : b = P + 1 := Option.some.inj e; omega)]
                    exact h5.block b hb
              case rest =>
                obtain ⟨w7, hw7⟩ : ∃ w7, w7 = wc := ⟨_, rfl⟩
                rw [← hw7] at hcut ⊢
                clear hw7
                obtain ⟨a6, c6, hk7, hr7, hb7⟩ := hcut
                have hz7 := hb7.size
                rw [HZC.out] at hz7
                have hzD : wC.drew.heap.size ≤ w7.heap.size := by
                  show wC.heap.size ≤ _
                  rw [HZC.out]; exact hz7
                have R7 := Lib.hid (RWC.out.same (w' := w7) hzD ⟨hb7.os, hb7.tape, hb7.output⟩ (fun b hb => hb7.block b (by omega)))
                have C7_ : CB 53 w.heap.size (rlC (.slice av m cv)) w7 := (hb7.block w.heap.size (by omega)).trans CBC.out
                have B7 := Lib.hid (BC.out.trans (c := w7) ⟨hb7.os, hb7.tape, hb7.output, hzD, fun b hb => hb7.block b (by omega)⟩)
                obtain ⟨j0, j1, j2, j3, j4, j5, j6, j7, j8, j9, j10⟩ := cb_elev hk7
                have l10 := C7_.cell 10 _ rfl
                have lf := cb_free C7_
                have HC7 := Lib.hid C7_
                have IT : Rd (fun b => ok b ∨ w1.heap.size ≤ b) w7 (itemB ⟨xl, id, tx, line, refs⟩ (listR sub)).d [.int .i64 9, .int .i64 0, .string ⟨#[]⟩, .string ⟨#[]⟩, .string ⟨#[]⟩, .string ⟨#[]⟩, .string ⟨#[]⟩, .slice none 0 0, .slice none 0 0, .slice none 0 0, .slice a6 (1 + me) c6] :=
                  Blk.mk_ 9 0 ⟨#[]⟩ ⟨#[]⟩ ⟨#[]⟩ ⟨#[]⟩ (a := at0) (li := []) (ks := paraB ⟨xl, id, tx, line, refs⟩ :: listR sub) ⟨⟨Rd.nil_mk _ _ _, Rd.nil_mk _ _ _⟩, Rd.nil_mk _ _ _, hr7⟩
                have HIT := Lib.hid IT
                have HK7 := Lib.hid hk7
                have hlw7 := C7_.lt
                have HB7 := Lib.hid hb7
                clear hk7 hr7 hb7 C7_ IT k10 kf hkl
                have hz1' : wr.heap.size = w1.heap.size := hz1.symm
                go_wp2_with (at_builtin; refine wpList_put rfl _ _ 23 rfl iB _ 192 Tryz.underlying23 hiB hzB0 hzB1 hzB2 rfl (by decide) R7.out (fun b hb => by rw [HW0.out]; have := HB.out b hb; omega) (itemB ⟨xl, id, tx, line, refs⟩ (listR sub)).d [.int .i64 9, .int .i64 0, .string ⟨#[]⟩, .string ⟨#[]⟩, .string ⟨#[]⟩, .string ⟨#[]⟩, .string ⟨#[]⟩, .slice none 0 0, .slice none 0 0, .slice none 0 0, .slice a6 (1 + me) c6] (HIT.out.weaken (fun b hb => by rw [hz1']; exact hb)) rfl one_elev HDN.out (by omega) (by decide) rfl rfl ?_)
                intro a8 c8 w8 hrow8 hg8
                obtain ⟨w9, hw9⟩ : ∃ w9, w9 = w8.setCell ⟨w.heap.size, 10, none⟩ (.slice a8 (m + 1) c8) := ⟨_, rfl⟩
                have hz8 := hrow8.bel.size
                rw [HW0.out] at hz8
                have hno : (Value.slice av m cv).ownBlock ≠ some w.heap.size := fun e => by
                  have h9 := (R7.out.own.lt _ e).1
                  rw [HW0.out] at h9; omega
                have C8 : CB 53 w.heap.size (rlC (.slice av m cv)) w8 := cb_grown (cb_grown HC7.out (World.grownBy_alloc _ _ none) (by simp)) hg8 (fun e => hno e.symm)
                have g9 : w8.grownBy w9 (some w.heap.size) := by rw [hw9]; exact ⟨rfl, rfl, rfl, by simp [World.setCell], fun b hb hne => Below.heap_setCell w8 ⟨w.heap.size, 10, none⟩ _ b (fun e => hne (by rw [e]))⟩
                have z9 : w9.heap.size = w8.heap.size := by rw [hw9]; simp [World.setCell]
                have C9 : CB 53 w.heap.size (rlC (.slice a8 (m + 1) c8)) w9 := by rw [hw9]; exact cb_set C8 10 _
                obtain ⟨w0', hw0', R9⟩ := hrow8.hopG (p := w.heap.size) (by rw [HW0.out]; omega) (fun h => by have := HB.out _ h; omega) g9
                rw [← z9] at R9
                have B9 : Below w.heap.size w w9 := by
                  have h1 := R7.out.bel
                  have b8 : Below w.heap.size w w8 := ⟨hg8.os.trans B7.out.os, hg8.tape.trans B7.out.tape, hg8.output.trans B7.out.output, by have h3 := B7.out.size; have h4 := hg8.size; simp at h4; omega, fun b hb => by
                    rw [hg8.block b (by rw [World.size_alloc]; omega) (fun e => by have h9 := (R7.out.own.lt b e.symm).1; rw [HW0.out] at h9; omega), Below.heap_alloc w7 _ b (by omega)]
                    exact B7.out.block b hb⟩
                  rw [hw9]; exact b8.setCell (p := ⟨w.heap.size, 10, none⟩) (Nat.le_refl _) _
                have HREL : Hid (RlRel ok all w (.int .i64 ((i + 1 + T : Nat) : Int)) w9) := by
                  refine ⟨i + 1 + T, done ++ [itemB ⟨xl, id, tx, line, refs⟩ (listR sub)], rows ++ [[.int .i64 9, .int .i64 0, .string ⟨#[]⟩, .string ⟨#[]⟩, .string ⟨#[]⟩, .string ⟨#[]⟩, .string ⟨#[]⟩, .slice none 0 0, .slice none 0 0, .slice none 0 0, .slice a6 (1 + me) c6]], .slice a8 (m + 1) c8, w0', hTl, rfl, ?_, by rw [List.length_append, List.length_singleton]; omega, hw0'.trans HW0.out, ?_, C9, B9⟩
                  · rw [← HDONE.out, items_at all i _ HX.out, ← HT.out, ← HSUB.out, List.append_assoc]; rfl
                  · rw [List.map_append, List.map_singleton, ← HDS.out]; exact R9
                have l10' := C8.cell 10 _ rfl
                have lf' := cb_free C8
                have hl8 := C8.lt
                have HW9 := Lib.hid hw9
                clear hrow8 hg8 C8 g9 z9 C9 R9 B9 hno hw9 l10 lf j0 j1 j2 j3 j4 j5 j6 j7 j8 j9 j10
                go_wp2
                rw [← HW9.out]
                go_roundw
                case rel => exact HREL.out
                case measure => simp [intOf]; omega
      · have hil : i = all.length := by omega
        subst hil
        have hdone := HDONE.out
        rw [List.drop_length, itemsR_nil, List.append_nil] at hdone
        have hne : done.isEmpty = false := by
          rw [hdone]
          cases hall : all with
          | nil => rw [hall] at HH0; exact absurd rfl HH0.out
          | cons x l => rw [itemsR_cons]; rfl
        have HLR : Hid (listR all = [.mk 7 0 ⟨#[]⟩ ⟨#[]⟩ ⟨#[]⟩ ⟨#[]⟩ at0 [] done]) := by
          show _ = _
          unfold listR bulB
          rw [← hdone, hne]; rfl
        obtain ⟨e0, e1, e2, e3, e4, e5, e6, e7, e8, e9, e10⟩ := cb_elev HCB.out
        obtain ⟨w9, hw9⟩ : ∃ w9, w9 = wr.alloc (.cells #[.int .i64 7, .int .i64 0, .string ⟨#[]⟩, .string ⟨#[]⟩, .string ⟨#[]⟩, .string ⟨#[]⟩, .string ⟨#[]⟩, .slice none 0 0, .slice none 0 0, .slice none 0 0, .slice av m cv] 53) := ⟨_, rfl⟩
        have LR : RowU 53 11 (fun b => (ok b ∨ w0.heap.size ≤ b) ∧ b < wr.heap.size) (wr.heap.size + 1) (cutW wr.heap.size w9) [(Blk.mk 7 0 ⟨#[]⟩ ⟨#[]⟩ ⟨#[]⟩ ⟨#[]⟩ at0 [] done).d] [[.int .i64 7, .int .i64 0, .string ⟨#[]⟩, .string ⟨#[]⟩, .string ⟨#[]⟩, .string ⟨#[]⟩, .string ⟨#[]⟩, .slice none 0 0, .slice none 0 0, .slice none 0 0, .slice av m cv]] (.slice (some ⟨wr.heap.size, 0, none⟩) 1 1) w9 := by
          rw [hw9]
          exact RowU.litO (r := [.int .i64 7, .int .i64 0, .string ⟨#[]⟩, .string ⟨#[]⟩, .string ⟨#[]⟩, .string ⟨#[]⟩, .string ⟨#[]⟩, .slice none 0 0, .slice none 0 0, .slice none 0 0, .slice av m cv]) rfl (Blk.mk_ 7 0 ⟨#[]⟩ ⟨#[]⟩ ⟨#[]⟩ ⟨#[]⟩ (a := at0) (li := []) (ks := done) ⟨⟨Rd.nil_mk _ _ _, Rd.nil_mk _ _ _⟩, Rd.nil_mk _ _ _, by have h1 := HROW.out.rd; rw [HDS.out] at h1; exact h1⟩)
        have HEND : Hid (RlPost ok w (listR all) (.returned (.slice (some ⟨wr.heap.size, 0, none⟩) 1 1)) w9) := by
          refine ⟨_, rfl, ?_, by rw [hw9]; exact HBEL.out.alloc HBEL.out.size _⟩
          rw [HLR.out]
          have h1 := LR.rd
          have hsz : wr.heap.size ≤ w9.heap.size := by rw [hw9]; simp
          have hws := HBEL.out.size
          have hwz := HW0.out
          rw [cutW_size hsz] at h1
          exact h1.weaken (fun b hb => by
            rcases hb with hb | hb
            · rcases hb.1 with h2 | h2
              · exact .inl h2
              · exact .inr (by omega)
            · exact .inr (by omega))
        have HW9 := Lib.hid hw9
        clear LR hdone hne hw9 hbel
        go_wp2
        rw [← HW9.out]
        go_ret
        exact HEND.out
end Go.Proofs.YtlbioncagkkkoaaGreatDoor
