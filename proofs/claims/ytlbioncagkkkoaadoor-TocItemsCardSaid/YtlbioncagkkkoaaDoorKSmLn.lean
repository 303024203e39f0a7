/- Words for numbers and entries in memory. Entries as an argument: they lie in memory. The contract of Small at a document with one block that has a line only (for layer 24). -/
import Derived.Test.YtlbioncagkkkoaaDoorKRowU
import Derived.Test.YtlbioncagkkkoaaDoorKPlMz
import Derived.Test.YtlbioncagkkkoaaDoorKPlNum
import Derived.Test.YtlbioncagkkkoaaDoorKSameBl
import Derived.Test.YtlbioncagkkkoaaDoorKChA
import Derived.Test.YtlbioncagkkkoaaDoorKSmall
namespace Go.Proofs.YtlbioncagkkkoaaDoor
open Go.RowKit
set_option linter.unusedVariables false
set_option linter.unusedSimpArgs false

theorem infoEn : (Tryd.prog.info? 40).map (fun i => (i.zero, i.size, i.bytes)) = some (some (.agg #[.int .i64 0, .string ByteArray.empty, .string ByteArray.empty, .slice none 0 0, .slice none 0 0]), 5, 88) := by kernel_rfl
theorem Nm.open_ {ok : Nat → Prop} {w : World} {x : Nm} {cs : List Value} (h : Rd ok w x.d cs) : ∃ vl, cs = [.string x.id, .string x.kind, .string x.val, vl] ∧ Rd ok w (inlsD x.line) [vl] := by
  unfold Nm.d at h
  obtain ⟨_, g0, rfl⟩ := h.st_open
  obtain ⟨_, _, rfl, h1, g1⟩ := g0.cons_open
  obtain ⟨_, _, rfl, h2, g2⟩ := g1.cons_open
  obtain ⟨_, _, rfl, h3, g3⟩ := g2.cons_open
  obtain ⟨_, _, rfl, h4, g4⟩ := g3.cons_open
  obtain ⟨vl, rfl, h4⟩ := Rd.sl_one h4
  obtain rfl := g4.nil_open
  obtain rfl := h1.str_open
  obtain rfl := h2.str_open
  obtain rfl := h3.str_open
  exact ⟨vl, rfl, h4⟩
theorem nms_at {ok : Nat → Prop} {w : World} {l : List Nm} {a : Option Addr} {cap : Nat} (h : SlAt ok w 4 (l.map Nm.d) a cap) {k : Nat} {x : Nm} (hk : l[k]? = some x) :
    ∃ b off vl, a = some ⟨b, off, none⟩ ∧ ok b ∧ b < w.heap.size ∧ w.cell? ⟨b, off + k * 4, none⟩ = some (.string x.id) ∧ w.cell? ⟨b, off + k * 4 + 1, none⟩ = some (.string x.kind) ∧ w.cell? ⟨b, off + k * 4 + 2, none⟩ = some (.string x.val) ∧ w.cell? ⟨b, off + k * 4 + 3, none⟩ = some vl ∧ Rd ok w (inlsD x.line) [vl] := by
  have hlt : k < l.length := (List.getElem?_eq_some_iff.1 hk).1
  obtain ⟨b, off, ha, hok, hb, hc⟩ := h.at_ (by simpa using Nat.lt_of_le_of_lt (Nat.zero_le _) hlt)
  obtain ⟨r, hr, hl, hcell⟩ := hc k _ (by rw [List.getElem?_map, hk]; rfl)
  obtain ⟨vl, rfl, hR⟩ := Nm.open_ hr
  exact ⟨b, off, vl, ha, hok, hb, hcell 0 _ rfl, hcell 1 _ rfl, hcell 2 _ rfl, hcell 3 _ rfl, hR⟩
structure EnR (ok : Nat → Prop) (w : World) (line : List Inl) (refs : List ByteArray) (vl vr : Value) : Prop where
  line : Rd ok w (inlsD line) [vl]
  refs : Rd ok w (strsD refs) [vr]
theorem En.open_ {ok : Nat → Prop} {w : World} {x : En} {cs : List Value} (h : Rd ok w x.d cs) : ∃ vl vr, cs = [.int .i64 x.lv, .string x.id, .string x.tx, vl, vr] ∧ EnR ok w x.line x.refs vl vr := by
  unfold En.d at h
  obtain ⟨_, g0, rfl⟩ := h.st_open
  obtain ⟨_, _, rfl, h1, g1⟩ := g0.cons_open
  obtain ⟨_, _, rfl, h2, g2⟩ := g1.cons_open
  obtain ⟨_, _, rfl, h3, g3⟩ := g2.cons_open
  obtain ⟨_, _, rfl, h4, g4⟩ := g3.cons_open
  obtain ⟨_, _, rfl, h5, g5⟩ := g4.cons_open
  obtain ⟨vl, rfl, h4⟩ := Rd.sl_one h4
  obtain ⟨vr, rfl, h5⟩ := Rd.sl_one h5
  obtain rfl := g5.nil_open
  obtain rfl := h1.int_open
  obtain rfl := h2.str_open
  obtain rfl := h3.str_open
  exact ⟨vl, vr, rfl, h4, h5⟩
theorem En.mk_ (x : En) {ok : Nat → Prop} {w : World} {vl vr : Value} (h : EnR ok w x.line x.refs vl vr) : Rd ok w x.d [.int .i64 x.lv, .string x.id, .string x.tx, vl, vr] :=
  Rd.st_mk (rows := [[.int .i64 x.lv], [.string x.id], [.string x.tx], [vl], [vr]]) (RdL.cons (Rd.int_mk _ _ _ _) (RdL.cons (Rd.str_mk _ _ _) (RdL.cons (Rd.str_mk _ _ _) (RdL.cons h.line (RdL.one h.refs)))))
theorem ens_at {ok : Nat → Prop} {w : World} {l : List En} {a : Option Addr} {cap : Nat} (h : SlAt ok w 5 (l.map En.d) a cap) {k : Nat} {x : En} (hk : l[k]? = some x) :
    ∃ b off vl vr, a = some ⟨b, off, none⟩ ∧ ok b ∧ b < w.heap.size ∧ w.cell? ⟨b, off + k * 5, none⟩ = some (.int .i64 x.lv) ∧ w.cell? ⟨b, off + k * 5 + 1, none⟩ = some (.string x.id) ∧ w.cell? ⟨b, off + k * 5 + 2, none⟩ = some (.string x.tx) ∧ w.cell? ⟨b, off + k * 5 + 3, none⟩ = some vl ∧ w.cell? ⟨b, off + k * 5 + 4, none⟩ = some vr ∧ EnR ok w x.line x.refs vl vr := by
  have hlt : k < l.length := (List.getElem?_eq_some_iff.1 hk).1
  obtain ⟨b, off, ha, hok, hb, hc⟩ := h.at_ (by simpa using Nat.lt_of_le_of_lt (Nat.zero_le _) hlt)
  obtain ⟨r, hr, hl, hcell⟩ := hc k _ (by rw [List.getElem?_map, hk]; rfl)
  obtain ⟨vl, vr, rfl, hR⟩ := En.open_ hr
  exact ⟨b, off, vl, vr, ha, hok, hb, hcell 0 _ rfl, hcell 1 _ rfl, hcell 2 _ rfl, hcell 3 _ rfl, hcell 4 _ rfl, hR⟩
theorem one_five {lv : Int} {id tx : ByteArray} {al ar : Option Addr} {nl nr cl cr : Nat} : ∀ u ∈ ([.int .i64 lv, .string id, .string tx, .slice al nl cl, .slice ar nr cr] : List Value), u.oneCell' = true := by
  intro u hu
  simp at hu
  rcases hu with rfl | rfl | rfl | rfl | rfl <;> rfl
end Go.Proofs.YtlbioncagkkkoaaDoor

namespace Go.Proofs.YtlbioncagkkkoaaDoor
open Go.ChangeShapes Go.WideShapes Go.RowKit
set_option linter.unusedVariables false
set_option linter.unusedSimpArgs false

def En.wf (e : En) : Prop := iOk e.lv ∧ sOk e.id ∧ sOk e.tx ∧ Inl.wfL e.line ∧ e.line.length ≤ reachBytes ∧ (∀ s ∈ e.refs, sOk s) ∧ e.refs.length ≤ reachBytes
theorem cEn : Tryd.prog.cellsOf 40 = 5 := by kernel_rfl
theorem yEn : 0 < Tryd.prog.bytesOf 40 := by
  rw [show Tryd.prog.bytesOf 40 = 88 by kernel_rfl]; decide
theorem len5 {α : Type} {l : List α} (h : l.length = 5) : ∃ a b c d e, l = [a, b, c, d, e] := by
  match l, h with
  | [a, b, c, d, e], _ => exact ⟨a, b, c, d, e, rfl⟩
instance : Inhabited En := ⟨⟨0, ⟨#[]⟩, ⟨#[]⟩, [], []⟩⟩
section
variable {H : Type} {enc : TypeId × Value → H} {w : World} {base : Nat} {spare : Nat → Bool} {held : Bool} {fuel : Nat} {cs : List Value} {x : DataW H × List MemPlace}
theorem rd_en (h : DataW.trod enc Tryd.prog w base spare held fuel 40 cs = some x) (hw : Rch Tryd.prog 40 x.1) : ∃ p : En, p.wf ∧ Rd (· < w.heap.size) w p.d cs := by
  obtain ⟨xs, n, rfl, hxx, hlen, hxl, hf⟩ := DataW.trod_struct Tryd.underlying40 h
  rw [hxx] at hw
  have hwf := fun i f d => rch_struct Tryd.underlying40 hw i f d
  rw [cEn] at hlen
  obtain ⟨c0, c1, c2, c3, c4, rfl⟩ := len5 hlen
  have f0 := hf 0 _ rfl
  have f1 := hf 1 _ rfl
  have f2 := hf 2 _ rfl
  have f3 := hf 3 _ rfl
  have f4 := hf 4 _ rfl
  have hx2 : xs.length = 5 := by rw [hxl]; rfl
  rw [List.getElem?_eq_getElem (by omega)] at f0 f1 f2 f3 f4
  simp only [cI, cS, cLS, cLI, List.getElem_toArray, List.getElem_cons_zero, List.getElem_cons_succ, List.drop_zero, List.drop_succ_cons, List.take_succ_cons, List.take_zero] at f0 f1 f2 f3 f4
  obtain ⟨k, e0, _, h0⟩ := DataW.trod_int Tryd.underlying3 f0
  obtain ⟨s1, e1, x1, _⟩ := DataW.trod_string Tryd.underlying9 f1
  have h1 : s1.size ≤ reachBytes := rch_string (P := Tryd.prog) (t := 9) (by have h' := hwf 1 _ _ rfl (by rw [List.getElem?_map, List.getElem?_eq_getElem (by omega)]; rfl); rw [x1] at h'; exact h')
  obtain ⟨s2, e2, x2, _⟩ := DataW.trod_string Tryd.underlying9 f2
  have h2 : s2.size ≤ reachBytes := rch_string (P := Tryd.prog) (t := 9) (by have h' := hwf 2 _ _ rfl (by rw [List.getElem?_map, List.getElem?_eq_getElem (by omega)]; rfl); rw [x2] at h'; exact h')
  obtain ⟨li, n1, n2, n3⟩ := rd_inls f3 (hwf 3 _ _ rfl (by rw [List.getElem?_map, List.getElem?_eq_getElem (by omega)]; rfl))
  obtain ⟨rf, k1, k2, k3⟩ := rd_strs f4 (hwf 4 _ _ rfl (by rw [List.getElem?_map, List.getElem?_eq_getElem (by omega)]; rfl))
  cases e0; cases e1; cases e2
  exact ⟨⟨k, s1, s2, li, rf⟩, ⟨iOk_of h0, h1, h2, n1, n2, k1, k2⟩, En.mk_ ⟨k, s1, s2, li, rf⟩ ⟨n3, k3⟩⟩
theorem rd_ens (h : DataW.trod enc Tryd.prog w base spare held fuel 22 cs = some x) (hw : Rch Tryd.prog 22 x.1) : ∃ l : List En, (∀ e ∈ l, e.wf) ∧ l.length ≤ reachBytes ∧ Rd (· < w.heap.size) w (ensD l) cs := by
  obtain ⟨l, h1, h2, h3⟩ := rd_slice En.d En.wf Tryd.underlying22 cEn (by decide) (fun n cs' y _ hy hyw => rd_en hy hyw) h hw
  exact ⟨l, h1, len_of h2 yEn, h3⟩
end
end Go.Proofs.YtlbioncagkkkoaaDoor

namespace Go.Proofs.YtlbioncagkkkoaaDoor
open Go.RowKit
set_option linter.unusedVariables false
set_option linter.unusedSimpArgs false

theorem at0_rd (ok : Nat → Prop) (w : World) : AtR ok w at0 (.slice none 0 0) (.slice none 0 0) := ⟨Rd.nil_mk _ _ _, Rd.nil_mk _ _ _⟩
theorem Rd.sl_of {ok : Nat → Prop} {w : World} {k : Nat} {l : List D} {rows : List (List Value)} {b cap : Nat} (hl : l.length ≤ cap) (hm : cap ≤ maxLen) (h : RdL ok w l rows) (hk : ∀ r ∈ rows, r.length = k) (hok : ok b) (hb : b < w.heap.size)
    (hc : ∀ j u, rows.flatten[j]? = some u → w.cell? ⟨b, j, none⟩ = some u) : Rd ok w (.sl k l) [.slice (some ⟨b, 0, none⟩) l.length cap] := by
  unfold Rd
  exact ⟨_, cap, rows, rfl, hl, hm, h, hk, .inr ⟨b, 0, rfl, hok, hb, fun j u hu => by rw [Nat.zero_add]; exact hc j u hu⟩⟩
def lRow (v : Value) : List Value := [.int .i64 0, .int .i64 0, .string ⟨#[]⟩, .string ⟨#[]⟩, .string ⟨#[]⟩, .string ⟨#[]⟩, .string ⟨#[]⟩, .slice none 0 0, .slice none 0 0, v, .slice none 0 0]
def lBlk (l : List Inl) : Blk := .mk 0 0 ⟨#[]⟩ ⟨#[]⟩ ⟨#[]⟩ ⟨#[]⟩ at0 l []
theorem small_line (l : List Inl) (v : Value) (w : World) (h : Rd (· < w.heap.size) w (inlsD l) [v]) (hwl : Inl.wfL l) (hll : l.length ≤ reachBytes) :
    Calls Tryd.prog 12 #[.agg #[.slice none 0 0, .slice (some ⟨w.heap.size, 0, none⟩) 1 1]] (w.alloc (.cells (lRow v).toArray 35))
      fun e w' => ∃ b, e = .returned (.bool b) ∧ (b = true → Inl.smallL l ∧ Inl.szL l ≤ 120) ∧ Below w.heap.size w w' := by
  obtain ⟨w0, hw0⟩ : ∃ w0, w0 = w.alloc (.cells (lRow v).toArray 35) := ⟨_, rfl⟩
  have b0 : Below w.heap.size w w0 := by rw [hw0]; exact (Below.refl _ _).alloc (Nat.le_refl _) _
  have k : CB 35 w.heap.size (lRow v) w0 := by rw [hw0]; exact CB.new _ _ _
  have rd : Rd (· < w0.heap.size) w0 (blksD [lBlk l]) [.slice (some ⟨w.heap.size, 0, none⟩) 1 1] :=
    Rd.sl_of (l := [lBlk l].map Blk.d) (rows := [lRow v]) (by simp) (by unfold maxLen; decide) (RdL.one (Blk.mk_ 0 0 ⟨#[]⟩ ⟨#[]⟩ ⟨#[]⟩ ⟨#[]⟩ ⟨at0_rd _ _, h.up b0, Rd.nil_mk _ _ _⟩)) (by simp [lRow]) k.lt k.lt (fun j u hu => k.cell j u (by simpa using hu))
  have wf : Blk.wfL [lBlk l] := by
    have s0 : sOk (⟨#[]⟩ : ByteArray) := by unfold sOk; decide
    have i0 : iOk 0 := by unfold iOk; decide
    unfold Blk.wfL Blk.wfL lBlk Blk.wf Blk.wfL
    exact ⟨⟨i0, i0, s0, s0, s0, s0, ⟨s0, by simp [at0], by simp [at0], by simp [at0], by simp [at0]⟩, hwl, hll, trivial, by simp⟩, trivial⟩
  rw [← hw0]
  refine (small_any [] [lBlk l] _ _ w0 (Rd.nil_mk _ _ _) rd (by simp) wf).mono ?_
  rintro e w' ⟨b, he, hb, hbl⟩
  refine ⟨b, he, fun ht => ?_, below_trans_size b0 hbl⟩
  have hd := (hb ht).blks
  unfold Blk.smallL lBlk Blk.small at hd
  exact ⟨hd.1.2.2.2.2.2.1, hd.1.2.2.2.2.2.2.1⟩
end Go.Proofs.YtlbioncagkkkoaaDoor
