/- The law's own list of the words of lines. -/
import Derived.Test.YtgjhfjplalcnbaaDoorPlKeep4
import Derived.Test.YtgjhfjplalcnbaaDoorWords
namespace Go.Proofs.YtgjhfjplalcnbaaDoor
open Go.RowKit
set_option linter.unusedVariables false

def JRel (w wr : World) (cl : List ByteArray) (v vi : Value) : Prop :=
  ∃ k : Nat, k ≤ cl.length ∧ vi = .int .i64 k ∧ wr.ownsRow w.heap.size 9 1 v ((cl.take k).flatMap words38).length (((cl.take k).flatMap words38).map Value.string) ∧ Below w.heap.size w wr

theorem flat_snoc (cl : List ByteArray) (k : Nat) (x : ByteArray) (h : cl[k]? = some x) : (cl.take (k + 1)).flatMap words38 = (cl.take k).flatMap words38 ++ words38 x := by
  rw [List.take_add_one, h, List.flatMap_append]; simp
theorem flat_len (cl : List ByteArray) (S : Nat) (h : ∀ x ∈ cl, x.size ≤ S) : (cl.flatMap words38).length ≤ cl.length * (S + 1) := by
  induction cl with
  | nil => simp
  | cons x t ih =>
    have h1 := words_len x
    have h2 := h x List.mem_cons_self
    have h3 := ih (fun y hy => h y (List.mem_cons_of_mem _ hy))
    rw [List.flatMap_cons, List.length_append, List.length_cons, Nat.succ_mul]
    omega

set_option maxRecDepth 100000 in
set_option maxHeartbeats 1000000 in
theorem lawJoined_any (w : World) (b off cap : Nat) (cl : List ByteArray) (hn : cl.length ≤ 1000) (hc : cl.length ≤ cap) (hcells : ∀ j x, cl[j]? = some x → w.cell? ⟨b, off + j, none⟩ = some (.string x))
    (hsz : ∀ x ∈ cl, x.size ≤ 400) (hpos : ∀ x ∈ cl, 0 < (words38 x).length) :
    Calls Tryd.prog 17 #[.slice (some ⟨b, off, none⟩) cl.length cap] w fun e w' => ∃ v, e = .returned v ∧ w'.ownsRow w.heap.size 9 1 v (cl.flatMap words38).length ((cl.flatMap words38).map Value.string) ∧ Below w.heap.size w w' := by
  obtain ⟨iS, hiS, hzS0, hzS1, hzS2⟩ := info_parts infoS
  have HC := Lib.hid hcells
  have HS := Lib.hid hsz
  have HP := Lib.hid hpos
  clear hcells hsz hpos
  go_enter Tryd.func17, Tryd.ntmps17
  go_wp2
  go_loopw [3, 4] (fun v vi wr => JRel w wr cl v vi) (fun _ i _ => cl.length - (intOf i).toNat)
  case atStart => exact ⟨0, Nat.zero_le _, rfl, ⟨rfl, .inl ⟨rfl, rfl⟩⟩, Below.refl _ _⟩
  case round =>
    obtain ⟨k, hk, rfl, hown, hbel⟩ := hrel
    have HO := Lib.hid hown
    clear hown
    by_cases hlt : k < cl.length
    · obtain ⟨x, hx⟩ : ∃ x, cl[k]? = some x := ⟨_, List.getElem?_eq_getElem hlt⟩
      have hbl : b < w.heap.size := cell_lt (HC.out k x hx)
      have c0 : wr.cell? ⟨b, off + k, none⟩ = some (.string x) := by rw [hbel.cell (p := ⟨b, off + k, none⟩) hbl]; exact HC.out k x hx
      have hxs := HS.out x (List.mem_of_getElem? hx)
      have hxp := HP.out x (List.mem_of_getElem? hx)
      have hwl := words_len x
      have hfl := flat_len (cl.take k) 400 (fun y hy => HS.out y (List.mem_of_mem_take hy))
      have hfl2 : (cl.take k).length ≤ k := List.length_take_le _ _
      have hfb : ((cl.take k).flatMap words38).length ≤ 401000 := Nat.le_trans hfl (by have := Nat.mul_le_mul_right (400 + 1) (show (cl.take k).length ≤ 1000 by omega); omega)
      have hsn := Lib.hid (flat_snoc cl k x hx)
      have W := Lib.hid (fun w => rwords_any x w (by omega))
      generalize words38 x = ws at *
      generalize (cl.take k).flatMap words38 = acc at *
      generalize hac : (cl.take (k + 1)).flatMap words38 = acc' at *
      have HAC := Lib.hid hac
      clear hx hac hfl hfl2
      go_wp2_with fail
      refine (W.out _).mono ?_
      rintro e w1 ⟨v1, rfl, hw1, hb1⟩
      have hown1 := own_below HO.out hb1
      have hbel1 := below_trans_size hbel hb1
      have hsz1 := hbel1.size
      obtain ⟨gg, cg, rfl, hcg⟩ := own_form hw1 hxp
      have hcs := hw1.cells rfl
      have HCS := Lib.hid hcs
      have hl1 := hw1.1
      clear hcs hw1 W
      go_wp2_with (at_builtin; refine wpList_append_own _ rfl _ _ 23 rfl w.heap.size 9 iS (.string ByteArray.empty) 1 16 Tryd.underlying23 hiS hzS0 hzS1 hzS2 rfl (by decide) _ _ _ rfl hown1 ⟨gg, 0, none⟩ ws.length cg (ws.map Value.string) rfl ?c0 ?c1 ?c2 ?c3 ?c4 ?c5 ?_)
      case c0 => simp
      case c1 => exact HCS.out
      case c2 => intro u hu; simp at hu; obtain ⟨y, _, rfl⟩ := hu; rfl
      case c3 => unfold maxLen; omega
      case c4 => omega
      case c5 => omega
      intro v' w3 hown' hgrow _
      have hbel3 : Below w.heap.size w w3 := hbel1.grown hgrow hsz1 (fun j hj => (hown1.lt j hj).1)
      have HO3 := Lib.hid hown'
      clear hown' hgrow hown1
      go_wp2
      go_roundw
      case rel => exact ⟨k + 1, by omega, by go_num, by rw [HAC.out, hsn.out]; simpa using HO3.out, hbel3⟩
      case measure => simp [intOf]; omega
    · have hkl : k = cl.length := by omega
      have hO := HO.out
      rw [hkl, List.take_length] at hO
      have HO2 := Lib.hid hO
      clear hO HO hkl
      go_wp2
      go_ret
      exact ⟨_, rfl, HO2.out, hbel⟩
end Go.Proofs.YtgjhfjplalcnbaaDoor
