/- Arguments that came in, read as the document's data, with what the form's reach says of their sizes. -/
import Derived.Test.YtjolhiofllpejaaDoorDoc
import Derived.Deep.Slices
import Derived.ProofKit
import Derived.OpenShut
namespace Go.Proofs.YtjolhiofllpejaaDoor
open Go.RowKit Go.ChangeShapes Go.WideShapes Go.Deep
set_option linter.unusedVariables false

section
variable {H : Type} {enc : TypeId × Value → H} {w : World} {base : Nat} {spare : Nat → Bool} {held : Bool}

theorem RdL.of_each {ok : Nat → Prop} {α : Type} (F : α → D) (R : α → List Value) : ∀ (L : List α), (∀ i ∈ L, Rd ok w (F i) (R i)) → RdL ok w (L.map F) (L.map R)
  | [], _ => RdL.none
  | x :: L, h => RdL.cons (h x (by simp)) (RdL.of_each F R L (fun i hi => h i (by simp [hi])))

/-- What the form's reach says of a datum. -/
def Rch (P : Program) (t : TypeId) (d : DataW H) : Prop := (d.weights P t).all (· ≤ reachBytes) = true
theorem rch_all {P : Program} {e : TypeId} : ∀ {l : List (DataW H)}, (DataW.weightsAll P e l).all (· ≤ reachBytes) = true → ∀ d ∈ l, Rch P e d
  | [], _, d, hd => by cases hd
  | x :: l, h, d, hd => by
    rw [DataW.weightsAll, List.all_append, Bool.and_eq_true] at h
    rcases List.mem_cons.1 hd with rfl | hd
    · exact h.1
    · exact rch_all h.2 d hd
theorem rch_each {P : Program} : ∀ {ts : List TypeId} {l : List (DataW H)}, (DataW.weightsEach P ts l).all (· ≤ reachBytes) = true → ∀ (i : Nat) (t : TypeId) (d : DataW H), ts[i]? = some t → l[i]? = some d → Rch P t d
  | [], _, _, i, t, d, ht, _ => by simp at ht
  | _ :: _, [], _, i, t, d, _, hd => by simp at hd
  | t0 :: ts, d0 :: l, h, 0, t, d, ht, hd => by
    rw [DataW.weightsEach, List.all_append, Bool.and_eq_true] at h
    simp at ht hd
    subst ht hd
    exact h.1
  | t0 :: ts, d0 :: l, h, i + 1, t, d, ht, hd => by
    rw [DataW.weightsEach, List.all_append, Bool.and_eq_true] at h
    exact rch_each h.2 i t d (by simpa using ht) (by simpa using hd)
theorem rch_struct {P : Program} {t : TypeId} {fs : Array Field} {parts : List (DataW H)} (ht : P.underlying t = some (.struct fs)) (hw : Rch P t (.agg parts)) (i : Nat) (f : Field) (d : DataW H) (hf : fs[i]? = some f) (hd : parts[i]? = some d) : Rch P f.type d := by
  unfold Rch at hw
  rw [DataW.weights, ht] at hw
  exact rch_each hw i f.type d (by rw [List.getElem?_map, Array.getElem?_toList, hf]; rfl) hd
theorem rch_slice {P : Program} {t e : TypeId} {elems spare : List (DataW H)} (ht : P.underlying t = some (.slice e)) (hw : Rch P t (.slice elems spare)) : elems.length * P.bytesOf e ≤ reachBytes ∧ ∀ d ∈ elems, Rch P e d := by
  unfold Rch at hw
  rw [DataW.weights, ht] at hw
  simp only [List.all_cons, List.all_append, Bool.and_eq_true, decide_eq_true_eq] at hw
  refine ⟨Nat.le_trans (Nat.mul_le_mul_right _ (by omega)) hw.1, rch_all hw.2.1⟩
theorem rch_string {P : Program} {t : TypeId} {s : ByteArray} (hw : Rch P t (.lit (.string s.data.toList) : DataW H)) : s.size ≤ reachBytes := by
  unfold Rch at hw
  rw [DataW.weights] at hw
  simpa using hw
theorem len2 : ∀ {l : List Value}, l.length = 2 → ∃ c0 c1, l = [c0, c1]
  | [c0, c1], _ => ⟨_, _, rfl⟩
theorem len3 : ∀ {l : List Value}, l.length = 3 → ∃ c0 c1 c2, l = [c0, c1, c2]
  | [c0, c1, c2], _ => ⟨_, _, _, rfl⟩
theorem len4 : ∀ {l : List Value}, l.length = 4 → ∃ c0 c1 c2 c3, l = [c0, c1, c2, c3]
  | [c0, c1, c2, c3], _ => ⟨_, _, _, _, rfl⟩
theorem len10 : ∀ {l : List Value}, l.length = 10 → ∃ c0 c1 c2 c3 c4 c5 c6 c7 c8 c9, l = [c0, c1, c2, c3, c4, c5, c6, c7, c8, c9]
  | [c0, c1, c2, c3, c4, c5, c6, c7, c8, c9], _ => ⟨_, _, _, _, _, _, _, _, _, _, rfl⟩
theorem len11 : ∀ {l : List Value}, l.length = 11 → ∃ c0 c1 c2 c3 c4 c5 c6 c7 c8 c9 c10, l = [c0, c1, c2, c3, c4, c5, c6, c7, c8, c9, c10]
  | [c0, c1, c2, c3, c4, c5, c6, c7, c8, c9, c10], _ => ⟨_, _, _, _, _, _, _, _, _, _, _, rfl⟩
theorem rd_slice {P : Program} {α : Type} [Inhabited α] (f : α → D) (OK : α → Prop) {fuel : Nat} {t e : TypeId} {k : Nat} {cs : List Value} {x : DataW H × List MemPlace} (ht : P.underlying t = some (.slice e)) (hk : P.cellsOf e = k) (hk0 : 0 < k)
    (hel : ∀ n cs' y, n < fuel → DataW.trod enc P w base spare held n e cs' = some y → Rch P e y.1 → ∃ a : α, OK a ∧ Rd (· < w.heap.size) w (f a) cs')
    (h : DataW.trod enc P w base spare held fuel t cs = some x) (hw : Rch P t x.1) : ∃ l : List α, (∀ a ∈ l, OK a) ∧ l.length * P.bytesOf e ≤ reachBytes ∧ Rd (· < w.heap.size) w (.sl k (l.map f)) cs := by
  subst hk
  rcases DataW.trod_slice ht h with ⟨rfl, _⟩ | ⟨a, len, cap, elems, rest, n, rfl, rfl, hxx, hb, hl, hm, hlen, helm, _⟩
  · exact ⟨[], by simp, by simp, Rd.nil_mk _ _ _⟩
  rw [hxx] at hw
  obtain ⟨hwl, hwe⟩ := rch_slice ht hw
  rw [List.length_map] at hwl
  have key : ∀ i, i < len → ∃ p : α × List Value, OK p.1 ∧ Rd (· < w.heap.size) w (f p.1) p.2 ∧ p.2.length = P.cellsOf e ∧ ∀ j, j < P.cellsOf e → w.cell? ((a.add (i * P.cellsOf e)).add j) = p.2[j]? := by
    intro i hi
    have h1 := helm i hi
    rw [List.getElem?_eq_getElem (by omega)] at h1
    obtain ⟨cs', h2, h3⟩ := Option.bind_eq_some_iff.1 h1
    obtain ⟨_, h4, h5⟩ := World.cells?_some h2
    obtain ⟨y, hy1, hy2⟩ := hel n cs' _ (by omega) h3 (hwe _ (List.mem_map.2 ⟨_, List.getElem_mem _, rfl⟩))
    exact ⟨(y, cs'), hy1, hy2, h4, h5⟩
  obtain ⟨p, hp⟩ := choose_lt (α := α × List Value) key
  refine ⟨(List.range len).map fun i => (p i).1, ?_, by rw [List.length_map, List.length_range]; rw [hlen] at hwl; exact hwl, ?_⟩
  · intro y hy
    obtain ⟨i, hi, rfl⟩ := List.mem_map.1 hy
    exact (hp i (List.mem_range.1 hi)).1
  rw [List.map_map]
  have hL := RdL.of_each (ok := (· < w.heap.size)) (w := w) (f ∘ fun i => (p i).1) (fun i => (p i).2) (List.range len) (fun i hi => (hp i (List.mem_range.1 hi)).2.1)
  have hrl : ∀ r ∈ (List.range len).map (fun i => (p i).2), r.length = P.cellsOf e := by
    intro r hr
    obtain ⟨i, hi, rfl⟩ := List.mem_map.1 hr
    exact (hp i (List.mem_range.1 hi)).2.2.1
  have hlen2 : ((List.range len).map (f ∘ fun i => (p i).1)).length = len := by simp
  unfold Rd
  refine ⟨some a, cap, _, by rw [hlen2], by omega, hm, hL, hrl, ?_⟩
  rw [hlen2]
  rcases Nat.eq_zero_or_pos len with h0 | h0
  · exact .inl h0
  · obtain ⟨b, off, spot⟩ := a
    have c0 := (hp 0 h0).2.2.2 0 hk0
    have hl0 := (hp 0 h0).2.2.1
    rw [List.getElem?_eq_getElem (by omega)] at c0
    have hspot : spot = none := by simpa [Addr.add] using World.cell?_spot c0
    subst hspot
    have plain : ∀ (o j : Nat), ((⟨b, o, none⟩ : Addr).add j) = ⟨b, o + j, none⟩ := by intro o j; unfold Addr.add; split <;> simp_all
    rw [plain, plain] at c0
    refine .inr ⟨b, off, rfl, cell_lt c0, cell_lt c0, fun j u hu => ?_⟩
    have hj : j < len * P.cellsOf e := by
      have h1 := (List.getElem?_eq_some_iff.1 hu).1
      rw [flat_len (P.cellsOf e) _ hrl] at h1
      simpa using h1
    have hi : j / P.cellsOf e < len := Nat.div_lt_of_lt_mul (by rw [Nat.mul_comm]; exact hj)
    have hr : j % P.cellsOf e < P.cellsOf e := Nat.mod_lt _ hk0
    have ej : j / P.cellsOf e * P.cellsOf e + j % P.cellsOf e = j := by rw [Nat.mul_comm]; exact Nat.div_add_mod j _
    have c1 := (hp _ hi).2.2.2 _ hr
    have hlr := (hp _ hi).2.2.1
    rw [List.getElem?_eq_getElem (by omega), plain, plain, Nat.add_assoc, ej] at c1
    have hf := flat_get (P.cellsOf e) _ hrl (j / P.cellsOf e) (j % P.cellsOf e) (p (j / P.cellsOf e)).2 _ (by rw [List.getElem?_map, List.getElem?_range hi]; rfl) (List.getElem?_eq_getElem (by omega))
    rw [ej, hu] at hf
    rw [c1]
    exact hf.symm

instance : Inhabited Pr := ⟨⟨.empty, .empty⟩⟩
instance : Inhabited Ci := ⟨⟨.empty, .empty, .empty, false⟩⟩
instance : Inhabited At := ⟨⟨.empty, [], []⟩⟩
instance : Inhabited Inl := ⟨.mk 0 .empty .empty .empty default [] [] []⟩
instance : Inhabited Blk := ⟨.mk 0 0 .empty .empty .empty .empty default [] []⟩
def sOk (s : ByteArray) : Prop := s.size ≤ reachBytes
def iOk (n : Int) : Prop := -9223372036854775808 ≤ n ∧ n ≤ 9223372036854775807
def Pr.wf (p : Pr) : Prop := sOk p.key ∧ sOk p.val
def Ci.wf (p : Ci) : Prop := sOk p.key ∧ sOk p.pre ∧ sOk p.suf
def At.wf (a : At) : Prop := sOk a.id ∧ (∀ c ∈ a.cls, sOk c) ∧ a.cls.length ≤ reachBytes ∧ (∀ p ∈ a.prs, p.wf) ∧ a.prs.length ≤ reachBytes
mutual
def Inl.wf : Inl → Prop
  | .mk k t d ti a ar ci ks => iOk k ∧ sOk t ∧ sOk d ∧ sOk ti ∧ a.wf ∧ (∀ c ∈ ar, sOk c) ∧ ar.length ≤ reachBytes ∧ (∀ c ∈ ci, c.wf) ∧ ci.length ≤ reachBytes ∧ Inl.wfL ks ∧ ks.length ≤ reachBytes
def Inl.wfL : List Inl → Prop
  | [] => True
  | x :: l => x.wf ∧ Inl.wfL l
end
mutual
def Blk.wf : Blk → Prop
  | .mk k lv i t d ti a li ks => iOk k ∧ iOk lv ∧ sOk i ∧ sOk t ∧ sOk d ∧ sOk ti ∧ a.wf ∧ Inl.wfL li ∧ li.length ≤ reachBytes ∧ Blk.wfL ks ∧ ks.length ≤ reachBytes
def Blk.wfL : List Blk → Prop
  | [] => True
  | x :: l => x.wf ∧ Blk.wfL l
end
theorem Inl.wfL_of : ∀ (l : List Inl), (∀ x ∈ l, x.wf) → Inl.wfL l
  | [], _ => by unfold Inl.wfL; trivial
  | x :: l, h => by unfold Inl.wfL; exact ⟨h x (by simp), Inl.wfL_of l (fun y hy => h y (by simp [hy]))⟩
theorem Blk.wfL_of : ∀ (l : List Blk), (∀ x ∈ l, x.wf) → Blk.wfL l
  | [], _ => by unfold Blk.wfL; trivial
  | x :: l, h => by unfold Blk.wfL; exact ⟨h x (by simp), Blk.wfL_of l (fun y hy => h y (by simp [hy]))⟩
theorem iOk_of {n : Int} (h : (Lit.int .i64 n).wf = true) : iOk n := by
  have := bounds_i64 h
  exact this
section
variable {fuel : Nat} {cs : List Value} {x : DataW H × List MemPlace}
theorem cS : Tryd.prog.cellsOf 9 = 1 := by kernel_rfl
theorem cI : Tryd.prog.cellsOf 3 = 1 := by kernel_rfl
theorem cB : Tryd.prog.cellsOf 4 = 1 := by kernel_rfl
theorem cP : Tryd.prog.cellsOf 64 = 2 := by kernel_rfl
theorem cC : Tryd.prog.cellsOf 103 = 4 := by kernel_rfl
theorem cA : Tryd.prog.cellsOf 38 = 3 := by kernel_rfl
theorem cIn : Tryd.prog.cellsOf 42 = 10 := by kernel_rfl
theorem cBl : Tryd.prog.cellsOf 44 = 11 := by kernel_rfl
theorem cLS : Tryd.prog.cellsOf 25 = 1 := by kernel_rfl
theorem cLP : Tryd.prog.cellsOf 29 = 1 := by kernel_rfl
theorem cLC : Tryd.prog.cellsOf 39 = 1 := by kernel_rfl
theorem cLI : Tryd.prog.cellsOf 40 = 1 := by kernel_rfl
theorem cLB : Tryd.prog.cellsOf 30 = 1 := by kernel_rfl
theorem cD : Tryd.prog.cellsOf 32 = 2 := by kernel_rfl

theorem len_of {n k : Nat} (h : n * k ≤ reachBytes) (hk : 1 ≤ k) : n ≤ reachBytes := Nat.le_trans (Nat.le_mul_of_pos_right n hk) h
theorem yS : 1 ≤ Tryd.prog.bytesOf 9 := by decide +kernel
theorem yP : 1 ≤ Tryd.prog.bytesOf 64 := by decide +kernel
theorem yC : 1 ≤ Tryd.prog.bytesOf 103 := by decide +kernel
theorem yI : 1 ≤ Tryd.prog.bytesOf 42 := by decide +kernel
theorem yB : 1 ≤ Tryd.prog.bytesOf 44 := by decide +kernel
theorem rd_strs (h : DataW.trod enc Tryd.prog w base spare held fuel 25 cs = some x) (hw : Rch Tryd.prog 25 x.1) : ∃ l : List ByteArray, (∀ s ∈ l, sOk s) ∧ l.length ≤ reachBytes ∧ Rd (· < w.heap.size) w (strsD l) cs := by
  obtain ⟨l, h1, h2, h3⟩ := rd_slice D.str sOk Tryd.underlying25 cS (by decide) (fun n cs' y _ hy hyw => by
    obtain ⟨s, rfl, rfl, hs⟩ := DataW.trod_string Tryd.underlying9 hy
    exact ⟨s, rch_string hyw, Rd.str_mk _ _ _⟩) h hw
  exact ⟨l, h1, len_of h2 yS, h3⟩
theorem rd_pair (h : DataW.trod enc Tryd.prog w base spare held fuel 64 cs = some x) (hw : Rch Tryd.prog 64 x.1) : ∃ p : Pr, p.wf ∧ Rd (· < w.heap.size) w p.d cs := by
  obtain ⟨xs, n, rfl, hxx, hlen, hxl, hf⟩ := DataW.trod_struct Tryd.underlying64 h
  rw [hxx] at hw
  have hwf := fun i f d => rch_struct Tryd.underlying64 hw i f d
  rw [cP] at hlen
  obtain ⟨c0, c1, rfl⟩ := len2 hlen
  have f0 := hf 0 _ rfl
  have f1 := hf 1 _ rfl
  have hx2 : xs.length = 2 := by rw [hxl]; rfl
  rw [List.getElem?_eq_getElem (by omega)] at f0 f1
  simp only [cS, List.getElem_toArray, List.getElem_cons_zero, List.getElem_cons_succ, List.drop_zero, List.drop_succ_cons, List.take_succ_cons, List.take_zero] at f0 f1
  obtain ⟨s0, e0, x0, _⟩ := DataW.trod_string Tryd.underlying9 f0
  have h0 : s0.size ≤ reachBytes := rch_string (P := Tryd.prog) (t := 9) (by have h' := hwf 0 _ _ rfl (by rw [List.getElem?_map, List.getElem?_eq_getElem (by omega)]; rfl); rw [x0] at h'; exact h')
  obtain ⟨s1, e1, x1, _⟩ := DataW.trod_string Tryd.underlying9 f1
  have h1 : s1.size ≤ reachBytes := rch_string (P := Tryd.prog) (t := 9) (by have h' := hwf 1 _ _ rfl (by rw [List.getElem?_map, List.getElem?_eq_getElem (by omega)]; rfl); rw [x1] at h'; exact h')
  cases e0; cases e1
  exact ⟨⟨s0, s1⟩, ⟨h0, h1⟩, Pr.mk_ _ _ ⟨s0, s1⟩⟩
theorem rd_cited (h : DataW.trod enc Tryd.prog w base spare held fuel 103 cs = some x) (hw : Rch Tryd.prog 103 x.1) : ∃ p : Ci, p.wf ∧ Rd (· < w.heap.size) w p.d cs := by
  obtain ⟨xs, n, rfl, hxx, hlen, hxl, hf⟩ := DataW.trod_struct Tryd.underlying103 h
  rw [hxx] at hw
  have hwf := fun i f d => rch_struct Tryd.underlying103 hw i f d
  rw [cC] at hlen
  obtain ⟨c0, c1, c2, c3, rfl⟩ := len4 hlen
  have f0 := hf 0 _ rfl
  have f1 := hf 1 _ rfl
  have f2 := hf 2 _ rfl
  have f3 := hf 3 _ rfl
  have hx2 : xs.length = 4 := by rw [hxl]; rfl
  rw [List.getElem?_eq_getElem (by omega)] at f0 f1 f2 f3
  simp only [cS, cB, List.getElem_toArray, List.getElem_cons_zero, List.getElem_cons_succ, List.drop_zero, List.drop_succ_cons, List.take_succ_cons, List.take_zero] at f0 f1 f2 f3
  obtain ⟨s0, e0, x0, _⟩ := DataW.trod_string Tryd.underlying9 f0
  have h0 : s0.size ≤ reachBytes := rch_string (P := Tryd.prog) (t := 9) (by have h' := hwf 0 _ _ rfl (by rw [List.getElem?_map, List.getElem?_eq_getElem (by omega)]; rfl); rw [x0] at h'; exact h')
  obtain ⟨s1, e1, x1, _⟩ := DataW.trod_string Tryd.underlying9 f1
  have h1 : s1.size ≤ reachBytes := rch_string (P := Tryd.prog) (t := 9) (by have h' := hwf 1 _ _ rfl (by rw [List.getElem?_map, List.getElem?_eq_getElem (by omega)]; rfl); rw [x1] at h'; exact h')
  obtain ⟨s2, e2, x2, _⟩ := DataW.trod_string Tryd.underlying9 f2
  have h2 : s2.size ≤ reachBytes := rch_string (P := Tryd.prog) (t := 9) (by have h' := hwf 2 _ _ rfl (by rw [List.getElem?_map, List.getElem?_eq_getElem (by omega)]; rfl); rw [x2] at h'; exact h')
  obtain ⟨b, e3, _⟩ := DataW.trod_bool Tryd.underlying4 f3
  cases e0; cases e1; cases e2; cases e3
  exact ⟨⟨s0, s1, s2, b⟩, ⟨h0, h1, h2⟩, Ci.mk_ _ _ ⟨s0, s1, s2, b⟩⟩
theorem rd_pairs (h : DataW.trod enc Tryd.prog w base spare held fuel 29 cs = some x) (hw : Rch Tryd.prog 29 x.1) : ∃ l : List Pr, (∀ s ∈ l, s.wf) ∧ l.length ≤ reachBytes ∧ Rd (· < w.heap.size) w (prsD l) cs := by
  obtain ⟨l, h1, h2, h3⟩ := rd_slice Pr.d Pr.wf Tryd.underlying29 cP (by decide) (fun n cs' y _ hy hyw => rd_pair hy hyw) h hw
  exact ⟨l, h1, len_of h2 yP, h3⟩
theorem rd_cites (h : DataW.trod enc Tryd.prog w base spare held fuel 39 cs = some x) (hw : Rch Tryd.prog 39 x.1) : ∃ l : List Ci, (∀ s ∈ l, s.wf) ∧ l.length ≤ reachBytes ∧ Rd (· < w.heap.size) w (cisD l) cs := by
  obtain ⟨l, h1, h2, h3⟩ := rd_slice Ci.d Ci.wf Tryd.underlying39 cC (by decide) (fun n cs' y _ hy hyw => rd_cited hy hyw) h hw
  exact ⟨l, h1, len_of h2 yC, h3⟩
theorem rd_attr (h : DataW.trod enc Tryd.prog w base spare held fuel 38 cs = some x) (hw : Rch Tryd.prog 38 x.1) : ∃ (a : At) (vc vp : Value), a.wf ∧ cs = [.string a.id, vc, vp] ∧ AtR (· < w.heap.size) w a vc vp := by
  obtain ⟨xs, n, rfl, hxx, hlen, hxl, hf⟩ := DataW.trod_struct Tryd.underlying38 h
  rw [hxx] at hw
  have hwf := fun i f d => rch_struct Tryd.underlying38 hw i f d
  rw [cA] at hlen
  obtain ⟨c0, c1, c2, rfl⟩ := len3 hlen
  have f0 := hf 0 _ rfl
  have f1 := hf 1 _ rfl
  have f2 := hf 2 _ rfl
  have hx2 : xs.length = 3 := by rw [hxl]; rfl
  rw [List.getElem?_eq_getElem (by omega)] at f0 f1 f2
  simp only [cS, cLS, cLP, List.getElem_toArray, List.getElem_cons_zero, List.getElem_cons_succ, List.drop_zero, List.drop_succ_cons, List.take_succ_cons, List.take_zero] at f0 f1 f2
  obtain ⟨s0, e0, x0, _⟩ := DataW.trod_string Tryd.underlying9 f0
  have h0 : s0.size ≤ reachBytes := rch_string (P := Tryd.prog) (t := 9) (by have h' := hwf 0 _ _ rfl (by rw [List.getElem?_map, List.getElem?_eq_getElem (by omega)]; rfl); rw [x0] at h'; exact h')
  obtain ⟨cl, k1, k2, k3⟩ := rd_strs f1 (hwf 1 _ _ rfl (by rw [List.getElem?_map, List.getElem?_eq_getElem (by omega)]; rfl))
  obtain ⟨pr, m1, m2, m3⟩ := rd_pairs f2 (hwf 2 _ _ rfl (by rw [List.getElem?_map, List.getElem?_eq_getElem (by omega)]; rfl))
  cases e0
  exact ⟨⟨s0, cl, pr⟩, c1, c2, ⟨h0, k1, k2, m1, m2⟩, rfl, k3, m3⟩
theorem rd_inl : ∀ (fuel : Nat) (cs : List Value) (x : DataW H × List MemPlace), DataW.trod enc Tryd.prog w base spare held fuel 42 cs = some x → Rch Tryd.prog 42 x.1 → ∃ p : Inl, p.wf ∧ Rd (· < w.heap.size) w p.d cs := by
  intro fuel
  induction fuel using Nat.strongRecOn with
  | _ fuel ih =>
    intro cs x h hw
    obtain ⟨xs, n, rfl, hxx, hlen, hxl, hf⟩ := DataW.trod_struct Tryd.underlying42 h
    rw [hxx] at hw
    have hwf := fun i f d => rch_struct Tryd.underlying42 hw i f d
    rw [cIn] at hlen
    obtain ⟨c0, c1, c2, c3, c4, c5, c6, c7, c8, c9, rfl⟩ := len10 hlen
    have f0 := hf 0 _ rfl
    have f1 := hf 1 _ rfl
    have f2 := hf 2 _ rfl
    have f3 := hf 3 _ rfl
    have f4 := hf 4 _ rfl
    have f5 := hf 5 _ rfl
    have f6 := hf 6 _ rfl
    have f7 := hf 7 _ rfl
    have hx2 : xs.length = 8 := by rw [hxl]; rfl
    rw [List.getElem?_eq_getElem (by omega)] at f0 f1 f2 f3 f4 f5 f6 f7
    simp only [cI, cS, cA, cLS, cLC, cLI, List.getElem_toArray, List.getElem_cons_zero, List.getElem_cons_succ, List.drop_zero, List.drop_succ_cons, List.take_succ_cons, List.take_zero] at f0 f1 f2 f3 f4 f5 f6 f7
    obtain ⟨k, e0, _, h0⟩ := DataW.trod_int Tryd.underlying3 f0
    obtain ⟨s1, e1, x1, _⟩ := DataW.trod_string Tryd.underlying9 f1
    have h1 : s1.size ≤ reachBytes := rch_string (P := Tryd.prog) (t := 9) (by have h' := hwf 1 _ _ rfl (by rw [List.getElem?_map, List.getElem?_eq_getElem (by omega)]; rfl); rw [x1] at h'; exact h')
    obtain ⟨s2, e2, x2, _⟩ := DataW.trod_string Tryd.underlying9 f2
    have h2 : s2.size ≤ reachBytes := rch_string (P := Tryd.prog) (t := 9) (by have h' := hwf 2 _ _ rfl (by rw [List.getElem?_map, List.getElem?_eq_getElem (by omega)]; rfl); rw [x2] at h'; exact h')
    obtain ⟨s3, e3, x3, _⟩ := DataW.trod_string Tryd.underlying9 f3
    have h3 : s3.size ≤ reachBytes := rch_string (P := Tryd.prog) (t := 9) (by have h' := hwf 3 _ _ rfl (by rw [List.getElem?_map, List.getElem?_eq_getElem (by omega)]; rfl); rw [x3] at h'; exact h')
    obtain ⟨a, vc, vp, h4, e4, hA⟩ := rd_attr f4 (hwf 4 _ _ rfl (by rw [List.getElem?_map, List.getElem?_eq_getElem (by omega)]; rfl))
    obtain ⟨ar, k1, k2, k3⟩ := rd_strs f5 (hwf 5 _ _ rfl (by rw [List.getElem?_map, List.getElem?_eq_getElem (by omega)]; rfl))
    obtain ⟨ci, m1, m2, m3⟩ := rd_cites f6 (hwf 6 _ _ rfl (by rw [List.getElem?_map, List.getElem?_eq_getElem (by omega)]; rfl))
    obtain ⟨ks, n1, n2, n3⟩ := rd_slice Inl.d Inl.wf Tryd.underlying40 cIn (by decide) (fun m cs' y hm hy hyw => ih m (by omega) cs' y hy hyw) f7 (hwf 7 _ _ rfl (by rw [List.getElem?_map, List.getElem?_eq_getElem (by omega)]; rfl))
    cases e0; cases e1; cases e2; cases e3; cases e4
    exact ⟨.mk k s1 s2 s3 a ar ci ks, by unfold Inl.wf; exact ⟨iOk_of h0, h1, h2, h3, h4, k1, k2, m1, m2, Inl.wfL_of _ n1, len_of n2 yI⟩, Inl.mk_ _ _ _ _ ⟨hA, k3, m3, n3⟩⟩
theorem rd_inls (h : DataW.trod enc Tryd.prog w base spare held fuel 40 cs = some x) (hw : Rch Tryd.prog 40 x.1) : ∃ l : List Inl, Inl.wfL l ∧ l.length ≤ reachBytes ∧ Rd (· < w.heap.size) w (inlsD l) cs := by
  obtain ⟨ks, n1, n2, n3⟩ := rd_slice Inl.d Inl.wf Tryd.underlying40 cIn (by decide) (fun m cs' y hm hy hyw => rd_inl m cs' y hy hyw) h hw
  exact ⟨ks, Inl.wfL_of _ n1, len_of n2 yI, n3⟩
theorem rd_blk : ∀ (fuel : Nat) (cs : List Value) (x : DataW H × List MemPlace), DataW.trod enc Tryd.prog w base spare held fuel 44 cs = some x → Rch Tryd.prog 44 x.1 → ∃ p : Blk, p.wf ∧ Rd (· < w.heap.size) w p.d cs := by
  intro fuel
  induction fuel using Nat.strongRecOn with
  | _ fuel ih =>
    intro cs x h hw
    obtain ⟨xs, n, rfl, hxx, hlen, hxl, hf⟩ := DataW.trod_struct Tryd.underlying44 h
    rw [hxx] at hw
    have hwf := fun i f d => rch_struct Tryd.underlying44 hw i f d
    rw [cBl] at hlen
    obtain ⟨c0, c1, c2, c3, c4, c5, c6, c7, c8, c9, c10, rfl⟩ := len11 hlen
    have f0 := hf 0 _ rfl
    have f1 := hf 1 _ rfl
    have f2 := hf 2 _ rfl
    have f3 := hf 3 _ rfl
    have f4 := hf 4 _ rfl
    have f5 := hf 5 _ rfl
    have f6 := hf 6 _ rfl
    have f7 := hf 7 _ rfl
    have f8 := hf 8 _ rfl
    have hx2 : xs.length = 9 := by rw [hxl]; rfl
    rw [List.getElem?_eq_getElem (by omega)] at f0 f1 f2 f3 f4 f5 f6 f7 f8
    simp only [cI, cS, cA, cLI, cLB, List.getElem_toArray, List.getElem_cons_zero, List.getElem_cons_succ, List.drop_zero, List.drop_succ_cons, List.take_succ_cons, List.take_zero] at f0 f1 f2 f3 f4 f5 f6 f7 f8
    obtain ⟨k, e0, _, h0⟩ := DataW.trod_int Tryd.underlying3 f0
    obtain ⟨lv, e1, _, h1⟩ := DataW.trod_int Tryd.underlying3 f1
    obtain ⟨s2, e2, x2, _⟩ := DataW.trod_string Tryd.underlying9 f2
    have h2 : s2.size ≤ reachBytes := rch_string (P := Tryd.prog) (t := 9) (by have h' := hwf 2 _ _ rfl (by rw [List.getElem?_map, List.getElem?_eq_getElem (by omega)]; rfl); rw [x2] at h'; exact h')
    obtain ⟨s3, e3, x3, _⟩ := DataW.trod_string Tryd.underlying9 f3
    have h3 : s3.size ≤ reachBytes := rch_string (P := Tryd.prog) (t := 9) (by have h' := hwf 3 _ _ rfl (by rw [List.getElem?_map, List.getElem?_eq_getElem (by omega)]; rfl); rw [x3] at h'; exact h')
    obtain ⟨s4, e4, x4, _⟩ := DataW.trod_string Tryd.underlying9 f4
    have h4 : s4.size ≤ reachBytes := rch_string (P := Tryd.prog) (t := 9) (by have h' := hwf 4 _ _ rfl (by rw [List.getElem?_map, List.getElem?_eq_getElem (by omega)]; rfl); rw [x4] at h'; exact h')
    obtain ⟨s5, e5, x5, _⟩ := DataW.trod_string Tryd.underlying9 f5
    have h5 : s5.size ≤ reachBytes := rch_string (P := Tryd.prog) (t := 9) (by have h' := hwf 5 _ _ rfl (by rw [List.getElem?_map, List.getElem?_eq_getElem (by omega)]; rfl); rw [x5] at h'; exact h')
    obtain ⟨a, vc, vp, h6, e6, hA⟩ := rd_attr f6 (hwf 6 _ _ rfl (by rw [List.getElem?_map, List.getElem?_eq_getElem (by omega)]; rfl))
    obtain ⟨li, k1, k2, k3⟩ := rd_inls f7 (hwf 7 _ _ rfl (by rw [List.getElem?_map, List.getElem?_eq_getElem (by omega)]; rfl))
    obtain ⟨ks, n1, n2, n3⟩ := rd_slice Blk.d Blk.wf Tryd.underlying30 cBl (by decide) (fun m cs' y hm hy hyw => ih m (by omega) cs' y hy hyw) f8 (hwf 8 _ _ rfl (by rw [List.getElem?_map, List.getElem?_eq_getElem (by omega)]; rfl))
    cases e0; cases e1; cases e2; cases e3; cases e4; cases e5; cases e6
    exact ⟨.mk k lv s2 s3 s4 s5 a li ks, by unfold Blk.wf; exact ⟨iOk_of h0, iOk_of h1, h2, h3, h4, h5, h6, k1, k2, Blk.wfL_of _ n1, len_of n2 yB⟩, Blk.mk_ _ _ _ _ _ _ ⟨hA, k3, n3⟩⟩
theorem rd_blks (h : DataW.trod enc Tryd.prog w base spare held fuel 30 cs = some x) (hw : Rch Tryd.prog 30 x.1) : ∃ l : List Blk, Blk.wfL l ∧ l.length ≤ reachBytes ∧ Rd (· < w.heap.size) w (blksD l) cs := by
  obtain ⟨ks, n1, n2, n3⟩ := rd_slice Blk.d Blk.wf Tryd.underlying30 cBl (by decide) (fun m cs' y hm hy hyw => rd_blk m cs' y hy hyw) h hw
  exact ⟨ks, Blk.wfL_of _ n1, len_of n2 yB, n3⟩
theorem rd_doc (h : DataW.trod enc Tryd.prog w base spare held fuel 32 cs = some x) (hw : Rch Tryd.prog 32 x.1) : ∃ (me : List Pr) (l : List Blk) (vm vb : Value), (∀ p ∈ me, p.wf) ∧ me.length ≤ reachBytes ∧ Blk.wfL l ∧ l.length ≤ reachBytes ∧ cs = [vm, vb] ∧ Rd (· < w.heap.size) w (prsD me) [vm] ∧ Rd (· < w.heap.size) w (blksD l) [vb] := by
  obtain ⟨xs, n, rfl, hxx, hlen, hxl, hf⟩ := DataW.trod_struct Tryd.underlying32 h
  rw [hxx] at hw
  have hwf := fun i f d => rch_struct Tryd.underlying32 hw i f d
  rw [cD] at hlen
  obtain ⟨c0, c1, rfl⟩ := len2 hlen
  have f0 := hf 0 _ rfl
  have f1 := hf 1 _ rfl
  have hx2 : xs.length = 2 := by rw [hxl]; rfl
  rw [List.getElem?_eq_getElem (by omega)] at f0 f1
  simp only [cLP, cLB, List.getElem_toArray, List.getElem_cons_zero, List.getElem_cons_succ, List.drop_zero, List.drop_succ_cons, List.take_succ_cons, List.take_zero] at f0 f1
  obtain ⟨me, k1, k2, k3⟩ := rd_pairs f0 (hwf 0 _ _ rfl (by rw [List.getElem?_map, List.getElem?_eq_getElem (by omega)]; rfl))
  obtain ⟨l, n1, n2, n3⟩ := rd_blks f1 (hwf 1 _ _ rfl (by rw [List.getElem?_map, List.getElem?_eq_getElem (by omega)]; rfl))
  exact ⟨me, l, c0, c1, k1, k2, n1, n2, rfl, k3, n3⟩
end
end
end Go.Proofs.YtjolhiofllpejaaDoor
