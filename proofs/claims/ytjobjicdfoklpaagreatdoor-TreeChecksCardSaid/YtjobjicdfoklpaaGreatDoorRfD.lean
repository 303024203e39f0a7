/- Contracts of publisherref03.hasText, hasKey, Check. -/
import Derived.Test.YtjobjicdfoklpaaGreatDoorRfC
import Derived.Test.YtjobjicdfoklpaaGreatDoorRfC
import Derived.Test.YtjobjicdfoklpaaGreatDoorBd
import Derived.Test.YtjobjicdfoklpaaGreatDoorWeight
import Derived.BigQuiet
import Derived.Deep.QuietTactic
import Derived.Deep.DeepCutAuto
namespace Go.Proofs.YtjobjicdfoklpaaGreatDoor
open Go.RowKit
set_option linter.unusedVariables false
set_option linter.unusedSimpArgs false

set_option maxRecDepth 100000 in
set_option maxHeartbeats 1000000 in
theorem rHasText_any (l : List ByteArray) (x : ByteArray) (v : Value) (w : World) (hs : Sees w 1 v l.length (l.map Value.string)) :
    Calls Tryz.prog 218 #[v, .string x] w fun e w' => e = .returned (.bool (hasB l x)) ∧ w = w' := by
  obtain ⟨-, a, cap, rfl, hcap, hmx, hcs⟩ := hs
  have HCS := Lib.hid hcs
  have HZ : Hid (hasB (l.take 0) x = false) := rfl
  clear hcs
  unfold maxLen at hmx
  go_enter Tryz.func218, Tryz.ntmps218
  go_wp2
  go_loop [5] (fun vi => ∃ k : Nat, k ≤ l.length ∧ vi = .int .i64 k ∧ hasB (l.take k) x = false) (fun i => l.length - (intOf i).toNat)
  case atStart => exact ⟨0, Nat.zero_le _, rfl, HZ.out⟩
  case round =>
    obtain ⟨k, hk, rfl, hany⟩ := hrel
    have HA := Lib.hid hany
    clear hany
    by_cases hlt : k < l.length
    · obtain ⟨y, hy⟩ : ∃ y, l[k]? = some y := ⟨_, List.getElem?_eq_getElem hlt⟩
      rcases HCS.out with h0 | ⟨b, off, rfl, hc⟩
      · omega
      have c0 : w.cell? ⟨b, off + k, none⟩ = some (.string y) := hc k _ (by simp [hy])
      have hsn := hasB_snoc l k y x hy
      rw [HA.out] at hsn
      have HSN := Lib.hid hsn
      have HT := Lib.hid (hasB_take l (k + 1) x)
      clear hy hc hsn
      by_cases hyx : y = x
      · subst hyx
        go_wp2
        go_ret
        exact ⟨by rw [HT.out (by rw [HSN.out]; simp)]; rfl, rfl⟩
      · have e1 := str_ne hyx
        go_wp2
        go_round
        case rel => exact ⟨k + 1, by omega, by go_num, by rw [HSN.out]; simp [hyx]⟩
        case measure => simp [intOf]; omega
    · have hkl : k = l.length := by omega
      have hA := HA.out
      rw [hkl, List.take_length] at hA
      have HA2 := Lib.hid hA
      clear hA HA hkl
      go_wp2
      go_ret
      exact ⟨by rw [HA2.out]; rfl, rfl⟩

set_option maxRecDepth 100000 in
set_option maxHeartbeats 1000000 in
theorem rHasKey_any (l : List Pr) (x : ByteArray) (b off n cap : Nat) (w : World) (hn : n ≤ l.length) (hcap : n ≤ cap) (hmx : cap ≤ maxLen) (hc : ∀ k p, l[k]? = some p → w.cell? ⟨b, off + k * 2, none⟩ = some (.string p.key)) :
    Calls Tryz.prog 220 #[.slice (some ⟨b, off, none⟩) n cap, .string x] w fun e w' => e = .returned (.bool (hasB ((l.take n).map Pr.key) x)) ∧ w = w' := by
  have HCS := Lib.hid hc
  obtain ⟨K, hK⟩ : ∃ K, K = (l.take n).map Pr.key := ⟨_, rfl⟩
  rw [← hK]
  have hkn : K.length = n := by rw [hK]; simp; omega
  have HKI : Hid (∀ k, k < n → ∃ p, l[k]? = some p ∧ K[k]? = some p.key) := by
    intro k hk
    obtain ⟨p, hp⟩ : ∃ p, l[k]? = some p := ⟨_, List.getElem?_eq_getElem (by omega)⟩
    refine ⟨p, hp, ?_⟩
    rw [hK, List.getElem?_map, List.getElem?_take, if_pos hk, hp]; rfl
  have HZ : Hid (hasB (K.take 0) x = false) := rfl
  clear hc hK
  unfold maxLen at hmx
  go_enter Tryz.func220, Tryz.ntmps220
  go_wp2
  go_loop [5] (fun vi => ∃ k : Nat, k ≤ n ∧ vi = .int .i64 k ∧ hasB (K.take k) x = false) (fun i => n - (intOf i).toNat)
  case atStart => exact ⟨0, Nat.zero_le _, rfl, HZ.out⟩
  case round =>
    obtain ⟨k, hk, rfl, hany⟩ := hrel
    have HA := Lib.hid hany
    clear hany
    by_cases hlt : k < n
    · obtain ⟨p, hp, hy⟩ := HKI.out k hlt
      have c0 := HCS.out k p hp
      obtain ⟨y, val⟩ := p
      dsimp only at c0 hy
      have hsn := hasB_snoc K k y x hy
      rw [HA.out] at hsn
      have HSN := Lib.hid hsn
      have HT := Lib.hid (hasB_take K (k + 1) x)
      clear hy hp hsn
      by_cases hyx : y = x
      · subst hyx
        go_wp2
        go_ret
        exact ⟨by rw [HT.out (by rw [HSN.out]; simp)]; rfl, rfl⟩
      · have e1 := str_ne hyx
        go_wp2
        go_round
        case rel => exact ⟨k + 1, by omega, by go_num, by rw [HSN.out]; simp [hyx]⟩
        case measure => simp [intOf]; omega
    · have hkl : k = K.length := by omega
      have hA := HA.out
      rw [hkl, List.take_length] at hA
      have HA2 := Lib.hid hA
      clear hA HA hkl
      go_wp2
      go_ret
      exact ⟨by rw [HA2.out]; rfl, rfl⟩

def CkR1 (T : TypeId) (p : Nat) (cs : List Value) (w : World) (l : List ByteArray) (E : Nat) (vi : Value) (wr : World) : Prop :=
  ∃ k : Nat, k ≤ l.length ∧ vi = .int .i64 k ∧ CB T p cs wr ∧ Below w.heap.size w wr ∧ clsErr (l.take k) (l.drop k) = E
def CkR2 (T : TypeId) (p : Nat) (cs : List Value) (w : World) (l : List Pr) (E : Nat) (vi : Value) (wr : World) : Prop :=
  ∃ k : Nat, k ≤ l.length ∧ vi = .int .i64 k ∧ CB T p cs wr ∧ Below w.heap.size w wr ∧ prsErr ((l.take k).map Pr.key) (l.drop k) = E
theorem ret_i64m {a b : Nat} (h : a = b) : Ending.returned (.int .i64 (a : Int)) = .returned (.int .i64 (b : Int)) := by rw [h]
theorem CB.dN {T : TypeId} {p : Nat} {cs : List Value} {w : World} (h : CB T p cs w) (q : Nat) : CB T p cs (w.drewN q) := h

set_option maxRecDepth 100000 in
set_option maxHeartbeats 4000000 in
theorem rCheck3_any (a : At) (ac ap : Option Addr) (cc cp : Nat) (w : World) (h : AtR (· < w.heap.size) w a (.slice ac a.cls.length cc) (.slice ap a.prs.length cp)) (hs : a.short) :
    Calls Tryz.prog 186 #[.agg #[.string a.id, .slice ac a.cls.length cc, .slice ap a.prs.length cp]] w (RetB (.int .i64 (a.err : Nat)) w) := by
  obtain ⟨sc, sp, si, sca, spa⟩ := hs
  obtain ⟨id, cls, prs⟩ := a
  dsimp only at sc sp si sca spa h ⊢
  obtain ⟨a1, c1, hv1, hs1⟩ := Rd.sl_open h.cls
  obtain ⟨rfl, rfl⟩ : a1 = ac ∧ c1 = cc := by simp at hv1; exact ⟨hv1.1.symm, hv1.2.symm⟩
  obtain ⟨a2, c2, hv2, hs2⟩ := Rd.sl_open h.prs
  obtain ⟨rfl, rfl⟩ : a2 = ap ∧ c2 = cp := by simp at hv2; exact ⟨hv2.1.symm, hv2.2.symm⟩
  have l1 : cls.length ≤ c1 := by simpa using hs1.le
  have l2 : prs.length ≤ c2 := by simpa using hs2.le
  have m1 := hs1.max
  have m2 := hs2.max
  have H1 := Lib.hid hs1
  have H2 := Lib.hid hs2
  have SC := Lib.hid sca
  have SP := Lib.hid spa
  have NI := Lib.hid (fun w => rName_any id w (by omega))
  have HE : Hid (At.err ⟨id, cls, prs⟩ = if emptyS id = false ∧ nameOk id = false then 6 else if clsErr [] cls ≠ 0 then clsErr [] cls else if prsErr [] prs ≠ 0 then prsErr [] prs else if 32 < cls.length ∨ 32 < prs.length then 3 else 0) := rfl
  obtain ⟨V, hV⟩ : ∃ V, V = At.err ⟨id, cls, prs⟩ := ⟨_, rfl⟩
  rw [← hV] at HE ⊢
  have hie := emp_eq id
  obtain ⟨w1, hw1⟩ : ∃ w1, w1 = w.alloc (.cells #[.string id, .slice a1 cls.length c1, .slice a2 prs.length c2] 44) := ⟨_, rfl⟩
  have k1 : CB 44 w.heap.size [.string id, .slice a1 cls.length c1, .slice a2 prs.length c2] w1 := by rw [hw1]; exact CB.new _ _ _
  have b1 : Below w.heap.size w w1 := by rw [hw1]; exact (Below.refl _ _).alloc (Nat.le_refl _) _
  have p0 := k1.cell 0 _ rfl
  have p1 := k1.cell 1 _ rfl
  have K1 := Lib.hid k1
  have B1 := Lib.hid b1
  have R0 : Hid (CkR1 44 w.heap.size [.string id, .slice a1 cls.length c1, .slice a2 prs.length c2] w cls (clsErr [] cls) (.int .i64 0) w1) := ⟨0, Nat.zero_le _, rfl, k1, b1, rfl⟩
  have HM1 := Lib.hid m1
  have HM2 := Lib.hid m2
  unfold maxLen at m1 m2
  clear hV sca spa hs1 hs2 hv1 hv2 h k1 b1
  go_enter Tryz.func186, Tryz.ntmps186
  go_upto_region 1 with (fail)
  rw [← hw1]
  clear hw1
  go_cut [13] (fun s wx => s = .bool (!emptyS id && !nameOk id) ∧ w1 = wx)
  case first =>
    clear R0 HE
    cases he : emptyS id with
    | true =>
      rw [he] at hie
      have HEE := Lib.hid he
      clear he NI
      go_wp2_with fail
      go_meet
      exact ⟨by rw [HEE.out]; rfl, rfl⟩
    | false =>
      rw [he] at hie
      have HEE := Lib.hid he
      clear he
      cases hn : nameOk id
      all_goals
        rw [hn] at NI
        have HNN := Lib.hid hn
        clear hn
        go_wp2_with fail
        refine (NI.out _).mono ?_
        rintro e w2 ⟨rfl, rfl⟩
        go_wp2_with fail
        go_meet
        exact ⟨by rw [HEE.out, HNN.out]; rfl, rfl⟩
  case rest =>
    obtain ⟨rfl, rfl⟩ := hcut
    clear NI
    cases hbad : (!emptyS id && !nameOk id) with
    | true =>
      have HV : Hid (V = 6) := by
        show V = 6
        rw [HE.out, if_pos (by simpa using hbad)]
      clear hbad R0
      go_wp2
      go_ret
      exact ⟨by rw [HV.out]; rfl, B1.out⟩
    | false =>
      have HE2 : Hid (V = if clsErr [] cls ≠ 0 then clsErr [] cls else if prsErr [] prs ≠ 0 then prsErr [] prs else if 32 < cls.length ∨ 32 < prs.length then 3 else 0) := by
        show V = _
        rw [HE.out, if_neg (fun h => by rw [h.1, h.2] at hbad; cases hbad)]
      clear hbad HE hie
      obtain ⟨E1, hE1⟩ : ∃ E1, E1 = clsErr [] cls := ⟨_, rfl⟩
      obtain ⟨E2, hE2⟩ : ∃ E2, E2 = prsErr [] prs := ⟨_, rfl⟩
      rw [← hE1] at HE2 R0
      rw [← hE2] at HE2
      have HE2d := Lib.hid hE2
      clear hE1 hE2 p0 p1
      go_wp2
      go_loopw [3] (fun i wr => CkR1 44 w.heap.size [.string id, .slice a1 cls.length c1, .slice a2 prs.length c2] w cls E1 i wr) (fun i _ => cls.length - (intOf i).toNat)
      case atStart => exact R0.out
      case round =>
        clear R0
        obtain ⟨k, hk, rfl, hcb, hbl, herr⟩ := hrel
        have HCB := Lib.hid hcb
        have HBL := Lib.hid hbl
        have p1 := hcb.cell 1 _ rfl
        by_cases hlt : k < cls.length
        · obtain ⟨x, hx⟩ : ∃ x, cls[k]? = some x := ⟨_, List.getElem?_eq_getElem hlt⟩
          obtain ⟨b, off, ha, -, -, c0⟩ := strs_at H1.out hx
          have c0 : wr.cell? ⟨b, off + k, none⟩ = some (.string x) := by rw [hbl.cell (p := ⟨b, off + k, none⟩) (cell_lt c0)]; exact c0
          have hsee : Sees wr 1 (.slice a1 k c1) (cls.take k).length ((cls.take k).map Value.string) := by
            have hkl : (cls.take k).length = k := by simp; omega
            rw [hkl]
            refine ⟨by simp; omega, _, _, rfl, by omega, HM1.out, .inr ⟨b, off, ha, fun j u hu => ?_⟩⟩
            rw [List.getElem?_map, List.getElem?_take] at hu
            split at hu
            · rename_i hjk
              obtain ⟨y, hy⟩ : ∃ y, cls[j]? = some y := ⟨_, List.getElem?_eq_getElem (by omega)⟩
              rw [hy] at hu
              obtain ⟨b', off', ha', -, -, c0'⟩ := strs_at H1.out hy
              rw [ha] at ha'
              simp at ha'
              obtain ⟨rfl, rfl⟩ := ha'
              have c2' : wr.cell? ⟨b, off + j, none⟩ = some (.string y) := by rw [hbl.cell (p := ⟨b, off + j, none⟩) (cell_lt c0')]; exact c0'
              simp at hu
              subst hu
              exact c2'
            · cases hu
          have hxs := SC.out x (List.mem_of_getElem? hx)
          have CN := Lib.hid (fun w => rName_any x w (by omega))
          have HTX : Hid (∀ m, Calls Tryz.prog 218 #[.slice a1 k c1, .string x] (wr.drewN m) fun e w' => e = .returned (.bool (hasB (cls.take k) x)) ∧ w' = wr.drewN m) := fun m => (rHasText_any (cls.take k) x _ (wr.drewN m) hsee).mono fun _ _ h => ⟨h.1, h.2.symm⟩
          subst ha
          have HERR : Hid (clsErr (cls.take k) (x :: cls.drop (k + 1)) = E1) := by show _ = _; rw [← drop_cons cls k x hx]; exact herr
          have HTK : Hid (cls.take (k + 1) = cls.take k ++ [x]) := by show _ = _; rw [List.take_add_one, hx]; rfl
          clear herr hx hsee hcb hbl
          cases hn : nameOk x with
          | false =>
            rw [hn] at CN
            have HV : Hid (V = 6) := by
              show V = 6
              have := HERR.out
              rw [clsErr, if_pos hn] at this
              rw [HE2.out, ← this]; rfl
            clear hn
            go_wp2_with fail
            refine (CN.out _).mono ?_
            rintro e w3 ⟨rfl, rfl⟩
            go_wp2
            go_ret
            exact ⟨by rw [HV.out]; rfl, HBL.out⟩
          | true =>
            rw [hn] at CN
            cases hb : hasB (cls.take k) x with
            | true =>
              rw [hb] at HTX
              have HV : Hid (V = 7) := by
                show V = 7
                have := HERR.out
                rw [clsErr, if_neg (by rw [hn]; decide), if_pos hb] at this
                rw [HE2.out, ← this]; rfl
              clear hn hb
              go_wp2_with fail
              refine (CN.out _).mono ?_
              rintro e w3 ⟨rfl, rfl⟩
              go_upto_region 8 with (fail)
              go_quiet ((go_at_call 218; with_reducible exact Calls.quiet_of_same (HTX.out _)))
              go_wp2
              go_ret
              exact ⟨by rw [HV.out]; rfl, below_dN HBL.out _⟩
            | false =>
              rw [hb] at HTX
              have HN2 : Hid (clsErr (cls.take (k + 1)) (cls.drop (k + 1)) = E1) := by
                show _ = _
                have := HERR.out
                rw [clsErr, if_neg (by rw [hn]; decide), if_neg (by rw [hb]; decide)] at this
                rw [HTK.out]; exact this
              clear hn hb
              go_wp2_with fail
              refine (CN.out _).mono ?_
              rintro e w3 ⟨rfl, rfl⟩
              go_upto_region 8 with (fail)
              go_quiet ((go_at_call 218; with_reducible exact Calls.quiet_of_same (HTX.out _)))
              go_wp2
              go_roundw
              case rel => exact ⟨k + 1, by omega, by go_num, HCB.out.dN _, below_dN HBL.out _, HN2.out⟩
              case measure => simp [intOf]; omega
        · obtain rfl : k = cls.length := by omega
          have HE10 : Hid (E1 = 0) := by
            show E1 = 0
            rw [List.drop_length, clsErr] at herr; exact herr.symm
          have R2 : Hid (CkR2 44 w.heap.size [.string id, .slice a1 cls.length c1, .slice a2 prs.length c2] w prs E2 (.int .i64 0) wr) := ⟨0, Nat.zero_le _, rfl, hcb, hbl, HE2d.out.symm⟩
          clear herr hcb hbl HCB HBL hk hlt
          go_wp2
          go_loopw [4] (fun i wr => CkR2 44 w.heap.size [.string id, .slice a1 cls.length c1, .slice a2 prs.length c2] w prs E2 i wr) (fun i _ => prs.length - (intOf i).toNat)
          case atStart => exact R2.out
          case round =>
            clear R2 p1
            obtain ⟨k, hk, rfl, hcb, hbl, herr⟩ := hrel
            have HCB := Lib.hid hcb
            have HBL := Lib.hid hbl
            have p2 := hcb.cell 2 _ rfl
            by_cases hlt : k < prs.length
            · obtain ⟨x, hx⟩ : ∃ x, prs[k]? = some x := ⟨_, List.getElem?_eq_getElem hlt⟩
              obtain ⟨b, off, ha, -, -, c0, c1'⟩ := prs_at H2.out hx
              have hkeys : ∀ j p, prs[j]? = some p → wr.cell? ⟨b, off + j * 2, none⟩ = some (.string p.key) := by
                intro j y hy
                obtain ⟨b', off', ha', -, -, c0', -⟩ := prs_at H2.out hy
                rw [ha] at ha'
                simp at ha'
                obtain ⟨rfl, rfl⟩ := ha'
                rw [hbl.cell (p := ⟨b, off + j * 2, none⟩) (cell_lt c0')]; exact c0'
              have c0 : wr.cell? ⟨b, off + k * 2, none⟩ = some (.string x.key) := hkeys k x hx
              have c1' : wr.cell? ⟨b, off + k * 2 + 1, none⟩ = some (.string x.val) := by rw [hbl.cell (p := ⟨b, off + k * 2 + 1, none⟩) (cell_lt c1')]; exact c1'
              have hxs := SP.out x (List.mem_of_getElem? hx)
              have HX := Lib.hid hx
              have HERR : Hid (prsErr ((prs.take k).map Pr.key) (x :: prs.drop (k + 1)) = E2) := by show _ = _; rw [← drop_cons prs k x hx]; exact herr
              have HKEY := Lib.hid hkeys
              obtain ⟨key, val⟩ := x
              dsimp only at c0 c1' hxs
              have CN := Lib.hid (fun w => rName_any key w (by omega))
              have CV := Lib.hid (rLine3_any val wr (by omega))
              have HTK : Hid ((prs.take (k + 1)).map Pr.key = (prs.take k).map Pr.key ++ [key]) := by show _ = _; rw [List.take_add_one, HX.out]; simp
              subst ha
              clear herr hx hcb hbl hkeys
              cases hn : nameOk key with
              | false =>
                rw [hn] at CN
                have HV : Hid (V = 6) := by
                  show V = 6
                  have := HERR.out
                  rw [prsErr, if_pos hn] at this
                  rw [HE2.out, HE10.out, ← this]; rfl
                clear hn
                go_wp2_with fail
                refine (CN.out _).mono ?_
                rintro e w3 ⟨rfl, rfl⟩
                go_wp2
                go_ret
                exact ⟨by rw [HV.out]; rfl, HBL.out⟩
              | true =>
                rw [hn] at CN
                cases hln : lineS val with
                | false =>
                  rw [hln] at CV
                  have HV : Hid (V = 17) := by
                    show V = 17
                    have := HERR.out
                    rw [prsErr, if_neg (by rw [hn]; decide), if_pos hln] at this
                    rw [HE2.out, HE10.out, ← this]; rfl
                  clear hn hln
                  go_wp2_with fail
                  refine (CN.out _).mono ?_
                  rintro e w3 ⟨rfl, rfl⟩
                  go_wp2_with fail
                  refine CV.out.mono ?_
                  rintro e w4 ⟨rfl, b4⟩
                  have B4 := Lib.hid (below_trans_size HBL.out b4)
                  go_wp2
                  go_ret
                  exact ⟨by rw [HV.out]; rfl, B4.out⟩
                | true =>
                  rw [hln] at CV
                  have HKX : Hid (∀ w4, Below wr.heap.size wr w4 → ∀ m, Calls Tryz.prog 220 #[.slice (some ⟨b, off, none⟩) k c2, .string key] (w4.drewN m) fun e w' => e = .returned (.bool (hasB ((prs.take k).map Pr.key) key)) ∧ w' = w4.drewN m) := fun w4 h4 m =>
                    (rHasKey_any prs key b off k c2 (w4.drewN m) (by omega) (by omega) HM2.out (fun j p hp => by
                      have := HKEY.out j p hp
                      show w4.cell? _ = _
                      rw [h4.cell (p := ⟨b, off + j * 2, none⟩) (cell_lt this)]; exact this)).mono fun _ _ h => ⟨h.1, h.2.symm⟩
                  cases hb : hasB ((prs.take k).map Pr.key) key with
                  | true =>
                    rw [hb] at HKX
                    have HV : Hid (V = 7) := by
                      show V = 7
                      have := HERR.out
                      rw [prsErr, if_neg (by rw [hn]; decide), if_neg (by rw [hln]; decide), if_pos hb] at this
                      rw [HE2.out, HE10.out, ← this]; rfl
                    clear hn hln hb
                    go_wp2_with fail
                    refine (CN.out _).mono ?_
                    rintro e w3 ⟨rfl, rfl⟩
                    go_wp2_with fail
                    refine CV.out.mono ?_
                    rintro e w4 ⟨rfl, b4⟩
                    have B4 := Lib.hid (below_trans_size HBL.out b4)
                    have HKM := Lib.hid (HKX.out w4 b4)
                    have p2 := (HCB.out.below b4).cell 2 _ rfl
                    have c0 : w4.cell? ⟨b, off + k * 2, none⟩ = some (.string key) := by rw [b4.cell (p := ⟨b, off + k * 2, none⟩) (cell_lt c0)]; exact c0
                    clear b4 HKX c1'
                    go_upto_region 17 with (fail)
                    go_quiet ((go_at_call 220; with_reducible exact Calls.quiet_of_same (HKM.out _)))
                    go_wp2
                    go_ret
                    exact ⟨by rw [HV.out]; rfl, below_dN B4.out _⟩
                  | false =>
                    rw [hb] at HKX
                    have HN2 : Hid (prsErr ((prs.take (k + 1)).map Pr.key) (prs.drop (k + 1)) = E2) := by
                      show _ = _
                      have := HERR.out
                      rw [prsErr, if_neg (by rw [hn]; decide), if_neg (by rw [hln]; decide), if_neg (by rw [hb]; decide)] at this
                      rw [HTK.out]; exact this
                    clear hn hln hb
                    go_wp2_with fail
                    refine (CN.out _).mono ?_
                    rintro e w3 ⟨rfl, rfl⟩
                    go_wp2_with fail
                    refine CV.out.mono ?_
                    rintro e w4 ⟨rfl, b4⟩
                    have B4 := Lib.hid (below_trans_size HBL.out b4)
                    have HKM := Lib.hid (HKX.out w4 b4)
                    have HC4 := Lib.hid (HCB.out.below b4)
                    have p2 := HC4.out.cell 2 _ rfl
                    have c0 : w4.cell? ⟨b, off + k * 2, none⟩ = some (.string key) := by rw [b4.cell (p := ⟨b, off + k * 2, none⟩) (cell_lt c0)]; exact c0
                    clear b4 HKX c1'
                    go_upto_region 17 with (fail)
                    go_quiet ((go_at_call 220; with_reducible exact Calls.quiet_of_same (HKM.out _)))
                    go_wp2
                    go_roundw
                    case rel => exact ⟨k + 1, by omega, by go_num, HC4.out.dN _, below_dN B4.out _, HN2.out⟩
                    case measure => simp [intOf]; omega
            · obtain rfl : k = prs.length := by omega
              have HV : Hid (V = if 32 < cls.length ∨ 32 < prs.length then 3 else 0) := by
                show V = _
                rw [List.drop_length, prsErr] at herr
                rw [HE2.out, HE10.out, ← herr]; rfl
              have p1 := hcb.cell 1 _ rfl
              clear herr hcb hbl hk hlt
              by_cases h1 : 32 < cls.length
              · have q1 : decide ((32 : Int) < (cls.length : Int)) = true := by simp; omega
                go_wp2
                go_ret
                exact ⟨by rw [HV.out, if_pos (.inl h1)]; rfl, HBL.out⟩
              · have q1 : decide ((32 : Int) < (cls.length : Int)) = false := by simp; omega
                by_cases h2 : 32 < prs.length
                · have q2 : decide ((32 : Int) < (prs.length : Int)) = true := by simp; omega
                  go_wp2
                  go_ret
                  exact ⟨by rw [HV.out, if_pos (.inr h2)]; rfl, HBL.out⟩
                · have q2 : decide ((32 : Int) < (prs.length : Int)) = false := by simp; omega
                  go_wp2
                  go_ret
                  exact ⟨by rw [HV.out, if_neg (by omega)]; rfl, HBL.out⟩
end Go.Proofs.YtjobjicdfoklpaaGreatDoor
