/- Contracts of publisherref21.Has, Number, All. -/
import Derived.Test.YtjolhiofllpejaaDoorRSlugOf
import Derived.Test.YtjolhiofllpejaaDoorPlAll
namespace Go.Proofs.YtjolhiofllpejaaDoor
open Go.RowKit
set_option linter.unusedVariables false

theorem infoS : (Tryd.prog.info? 9).map (fun i => (i.zero, i.size, i.bytes)) = some (some (.string ByteArray.empty), 1, 16) := by kernel_rfl
theorem str_ne {x y : ByteArray} (h : y ≠ x) : (y.toList == x.toList) = false := by
  rw [beq_eq_false_iff_ne]
  intro e
  apply h
  apply ByteArray.ext
  apply Array.toList_inj.1
  rw [← Lib.toList_data, ← Lib.toList_data, e]
theorem hasB_snoc (l : List ByteArray) (k : Nat) (y x : ByteArray) (h : l[k]? = some y) : hasB (l.take (k + 1)) x = (hasB (l.take k) x || decide (y = x)) := by
  unfold hasB; rw [List.take_add_one, h]; simp
theorem hasB_take (l : List ByteArray) (k : Nat) (x : ByteArray) (h : hasB (l.take k) x = true) : hasB l x = true := by
  rw [hasB_iff] at *; exact List.mem_of_mem_take h

set_option maxRecDepth 100000 in
set_option maxHeartbeats 1000000 in
theorem rHas_any (l : List ByteArray) (x : ByteArray) (v : Value) (w : World) (hs : Sees w 1 v l.length (l.map Value.string)) :
    Calls Tryd.prog 19 #[v, .string x] w fun e w' => e = .returned (.bool (hasB l x)) ∧ w = w' := by
  obtain ⟨-, a, cap, rfl, hcap, hmx, hcs⟩ := hs
  have HCS := Lib.hid hcs
  have HZ : Hid (hasB (l.take 0) x = false) := rfl
  clear hcs
  unfold maxLen at hmx
  go_enter Tryd.func19, Tryd.ntmps19
  go_wp2
  go_loop [5] (fun vi => ∃ k : Nat, k ≤ l.length ∧ vi = .int .i64 k ∧ hasB (l.take k) x = false) (fun i => l.length - (intOf i).toNat)
  case atStart => exact ⟨0, Nat.zero_le _, rfl, HZ.out⟩
  case round =>
    obtain ⟨k, hk, rfl, hany⟩ := hrel
    have HA := Lib.hid hany
    clear hany
    by_cases hlt : k < l.length
    · obtain ⟨y, hy⟩ : ∃ y, l[k]? = some y := ⟨_, List.getElem?_eq_getElem hlt⟩
      rcases HCS.out with h0 | ⟨b, off, rfl, hc⟩
      · omega
      have c0 : w.cell? ⟨b, off + k, none⟩ = some (.string y) := hc k _ (by simp [hy])
      have hsn := hasB_snoc l k y x hy
      rw [HA.out] at hsn
      have HSN := Lib.hid hsn
      have HT := Lib.hid (hasB_take l (k + 1) x)
      clear hy hc hsn
      by_cases hyx : y = x
      · subst hyx
        go_wp2
        go_ret
        exact ⟨by rw [HT.out (by rw [HSN.out]; simp)]; rfl, rfl⟩
      · have e1 := str_ne hyx
        go_wp2
        go_round
        case rel => exact ⟨k + 1, by omega, by go_num, by rw [HSN.out]; simp [hyx]⟩
        case measure => simp [intOf]; omega
    · have hkl : k = l.length := by omega
      have hA := HA.out
      rw [hkl, List.take_length] at hA
      have HA2 := Lib.hid hA
      clear hA HA hkl
      go_wp2
      go_ret
      exact ⟨by rw [HA2.out]; rfl, rfl⟩

theorem one_string (w : World) (c : Nat) (hc : c < 256) :
    (convert 46 9 (.slice (some ⟨w.heap.size, 0, none⟩) 1 1)).run Tryd.prog (w.alloc (.cells #[.int .u8 (c : Int)] 5)) = .ok (.string ⟨#[UInt8.ofNat c]⟩) (w.alloc (.cells #[.int .u8 (c : Int)] 5)) := by
  refine run_convert_bytes_back _ 46 9 5 ⟨w.heap.size, 0, none⟩ 1 [UInt8.ofNat c] Tryd.underlying46 Tryd.underlying5 Tryd.underlying9 (fun j hj => ?_)
  refine new_one w _ _ j _ ?_
  match j, hj with
  | 0, _ => simp [Nat.mod_eq_of_lt hc]

theorem dec_len (n : Nat) : (Lib.decDigits n).length ≤ n + 1 := by
  induction n using Nat.strongRecOn with
  | _ n ih =>
    rw [Lib.decDigits]
    split
    · simp
    · have := ih (n / 10) (by omega)
      simp; omega

set_option maxRecDepth 100000 in
set_option maxHeartbeats 1000000 in
theorem rNumber_any (n : Nat) : ∀ (w : World), n ≤ 1000000 →
    Calls Tryd.prog 32 #[.int .i64 (n : Int)] w fun e w' => e = .returned (.string ⟨(Lib.decDigits n).toArray⟩) ∧ Below w.heap.size w w' := by
  induction n using Nat.strongRecOn with
  | _ n ih =>
    intro w hn
    by_cases h10 : n < 10
    · have hcv := one_string w (48 + n) (by omega)
      have e : Lib.decDigits n = [UInt8.ofNat (48 + n)] := Lib.decDigits_one h10
      rw [e]
      have ec : ((48 + n : Nat) : Int) = 48 + (n : Int) := by omega
      rw [ec] at hcv
      clear e ih ec
      go_enter Tryd.func32, Tryd.ntmps32
      go_wp2_with fail
      go_ret
      refine ⟨?_, (Below.refl _ w).alloc (Nat.le_refl _) _⟩
      rw [show UInt8.ofNat (48 + n) = 48 + UInt8.ofNat n from by simp]
      rfl
    · have e : Lib.decDigits n = Lib.decDigits (n / 10) ++ Lib.decDigits (n % 10) := by
        rw [Lib.decDigits, dif_neg h10, Lib.decDigits_one (show n % 10 < 10 by omega)]
      have HE := Lib.hid e
      have I1 := Lib.hid (fun w => ih (n / 10) (by omega) w (by omega))
      have I2 := Lib.hid (fun w => ih (n % 10) (by omega) w (by omega))
      have l1 := dec_len (n / 10)
      have l2 := dec_len (n % 10)
      clear ih e
      go_enter Tryd.func32, Tryd.ntmps32
      go_wp2_with fail
      refine (I1.out _).mono ?_
      rintro e w1 ⟨rfl, b1⟩
      go_wp2_with fail
      refine (I2.out _).mono ?_
      rintro e w2 ⟨rfl, b2⟩
      go_wp2_with fail
      go_ret
      refine ⟨?_, below_trans_size b1 b2⟩
      rw [HE.out]
      show Ending.returned (Value.string (⟨(Lib.decDigits (n / 10)).toArray⟩ ++ ⟨(Lib.decDigits (n % 10)).toArray⟩)) = _
      congr 2

theorem cutL54_len (a : List UInt8) : (cutL54 a).length ≤ 54 := by
  unfold cutL54
  split
  · split
    · rw [List.length_dropLast, List.length_take]; omega
    · rw [List.length_take]; omega
  · omega
theorem slugS_size (s : ByteArray) : (slugS s).size ≤ 54 := by
  have e : (slugS s).size = (slugL s).length := by simp [slugS, ByteArray.size]
  rw [e]
  unfold slugL anchorL
  split
  · decide
  · exact cutL54_len _
theorem numB_size (base : ByteArray) (n : Nat) : (numB base n).size ≤ base.size + n + 2 := by
  have := dec_len n
  have e : (numB base n).size = base.size + 1 + (Lib.decDigits n).length := by
    rw [Lib.size_eq, numB_list, Lib.size_eq]; simp; omega
  omega
theorem cand_size (base : ByteArray) (n : Nat) : (cand base n).size ≤ base.size + n + 2 := by
  unfold cand; split
  · omega
  · exact numB_size base n

/-- What is used when the k-th anchor is looked for. -/
def useT (bs T : List ByteArray) (k : Nat) : List ByteArray := (outTo bs T k).reverse ++ T
theorem use_has (bs T : List ByteArray) (k : Nat) (x : ByteArray) : (hasB T x || hasB (outTo bs T k) x) = hasB (useT bs T k) x := by
  rw [Bool.eq_iff_iff, Bool.or_eq_true, hasB_iff, hasB_iff, hasB_iff]
  unfold useT
  simp only [List.mem_append, List.mem_reverse]
  exact Or.comm

def RaRel (w wr : World) (bs used : List ByteArray) (v vi : Value) : Prop :=
  ∃ k : Nat, k ≤ bs.length ∧ vi = .int .i64 k ∧ wr.ownsRow w.heap.size 9 1 v (outTo bs used k).length ((outTo bs used k).map Value.string) ∧ Below w.heap.size w wr
def RbRel (w wo wr : World) (base : ByteArray) (r : Nat) (vb vn : Value) : Prop :=
  ∃ m : Nat, m ≤ r ∧ vb = .string (cand base m) ∧ vn = .int .i64 ((m : Int) + 1) ∧ Below wo.heap.size wo wr

set_option maxRecDepth 100000 in
set_option maxHeartbeats 2000000 in
theorem rAll_any (l used : List ByteArray) (v1 v2 : Value) (w : World) (h1 : Sees w 1 v1 l.length (l.map Value.string)) (h2 : Sees w 1 v2 used.length (used.map Value.string)) (hl : l.length ≤ 100000) (hu : used.length ≤ 100000) (hsz : ∀ x ∈ l, x.size ≤ 100000000) :
    Calls Tryd.prog 13 #[v1, v2] w fun e w' => ∃ v, e = .returned v ∧ w'.ownsRow w.heap.size 9 1 v (allA l used).length ((allA l used).map Value.string) ∧ Below w.heap.size w w' := by
  obtain ⟨i0, hi, hz0, hz1, hz2⟩ := info_parts infoS
  have H2 := Lib.hid h2
  have HSZ := Lib.hid hsz
  obtain ⟨-, a, cap, rfl, hcap, hmx, hcs⟩ := h1
  obtain ⟨bs, hbs⟩ : ∃ bs, bs = l.map slugS := ⟨_, rfl⟩
  have HBS := Lib.hid hbs
  have hbl : bs.length = l.length := by rw [hbs]; simp
  have HR : Hid (allA l used = outTo bs used bs.length) := by rw [outTo_all, hbs]; rfl
  have HCS := Lib.hid hcs
  have HBL := Lib.hid hbl
  clear hcs hbs hsz h2 hbl
  generalize allA l used = R at *
  unfold maxLen at hmx
  go_enter Tryd.func13, Tryd.ntmps13
  go_wp2
  go_loopw [5, 6] (fun v vi wr => RaRel w wr bs used v vi) (fun _ i _ => l.length - (intOf i).toNat)
  case atStart => exact ⟨0, Nat.zero_le _, rfl, ⟨rfl, .inl ⟨rfl, rfl⟩⟩, Below.refl _ _⟩
  case round =>
    obtain ⟨k, hk, rfl, hown, hbel⟩ := hrel
    rw [HBL.out] at hk
    have HO := Lib.hid hown
    clear hown
    by_cases hlt : k < l.length
    · obtain ⟨x, hx⟩ : ∃ x, l[k]? = some x := ⟨_, List.getElem?_eq_getElem hlt⟩
      rcases HCS.out with h0 | ⟨b, off, rfl, hc⟩
      · omega
      have k0 := hc k (.string x) (by simp [hx])
      have c0 : wr.cell? ⟨b, off + k, none⟩ = some (.string x) := by rw [hbel.cell (p := ⟨b, off + k, none⟩) (cell_lt k0)]; exact k0
      have RO := Lib.hid (fun w => rOf_any x w (HSZ.out x (List.mem_of_getElem? hx)))
      have hbk : bs[k]? = some (slugS x) := by rw [HBS.out]; simp [hx]
      have HOS := Lib.hid (outTo_succ bs used k (slugS x) hbk)
      have hss := slugS_size x
      have hol : (outTo bs used k).length = k := outTo_len bs used k (by rw [HBL.out]; omega)
      have HOL := Lib.hid hol
      have HUH := Lib.hid (use_has bs used k)
      have hix := (idx_spec (useT bs used k) (slugS x)).2.2
      have htl : (useT bs used k).length = k + used.length := by unfold useT; simp [hol]
      have HIL := Lib.hid (idx_lt (useT bs used k) (slugS x))
      have HNX : Hid (nextA ((outTo bs used k).reverse ++ used) (slugS x) = cand (slugS x) (idx (useT bs used k) (slugS x))) := rfl
      rw [htl] at hix
      have HCA := Lib.hid (cand_size (slugS x))
      clear hx k0 hc hbk hol htl
      generalize hT : useT bs used k = T at *
      generalize hB : slugS x = base at *
      generalize hr : idx T base = r at *
      clear hT hB hr
      go_wp2_with fail
      refine (RO.out _).mono ?_
      rintro e w1 ⟨rfl, b1⟩
      have HO1 := Lib.hid (own_below HO.out b1)
      have hbel1 := below_trans_size hbel b1
      have H21 := Lib.hid (H2.out.below hbel1)
      clear RO b1 HO c0
      go_wp2
      go_loopw [8, 9] (fun vb vn wr2 => RbRel w w1 wr2 base r vb vn) (fun _ n _ => r + 2 - (intOf n).toNat)
      case atStart => exact ⟨0, Nat.zero_le _, rfl, rfl, Below.refl _ _⟩
      case round =>
        obtain ⟨m, hm, rfl, rfl, hb2⟩ := hrel
        have hO2 := own_below HO1.out hb2
        have hsz2 := hb2.size
        have hszw := hbel1.size
        have RH1 := Lib.hid (rHas_any used (cand base m) v2 _ (H21.out.below hb2))
        have RH2 := Lib.hid (rHas_any (outTo bs used k) (cand base m) _ _ (Sees.of_own hO2))
        have HO2 := Lib.hid hO2
        have hch := HUH.out (cand base m)
        have hcz := HCA.out m
        have hil := HIL.out m hm
        clear hO2
        by_cases hmr : m < r
        · rw [(hasB_iff _ _).2 (hil.2 hmr)] at hch
          have RN := Lib.hid (fun w => rNumber_any (m + 1) w (by omega))
          rw [show (((m + 1 : Nat)) : Int) = (m : Int) + 1 from by omega] at RN
          have HN : Hid (cand base (m + 1) = numB base (m + 1)) := by
            show cand base (m + 1) = _
            unfold cand; rw [if_neg (by omega)]
          have hdl := dec_len (m + 1)
          clear hil
          cases hu1 : hasB used (cand base m) with
          | false =>
            rw [hu1] at RH1 hch
            rw [show hasB (outTo bs used k) (cand base m) = true by simpa using hch] at RH2
            clear hch hu1
            generalize cand base m = cb at *
            go_wp2_with fail
            refine RH1.out.mono ?_
            rintro e w3 ⟨rfl, rfl⟩
            go_wp2_with fail
            refine RH2.out.mono ?_
            rintro e w3 ⟨rfl, rfl⟩
            go_wp2_with fail
            refine (RN.out _).mono ?_
            rintro e w4 ⟨rfl, b4⟩
            have B4 := Lib.hid (below_trans_size hb2 b4)
            clear b4
            go_wp2
            go_roundw
            case rel => exact ⟨m + 1, by omega, by rw [HN.out]; exact rfl, by go_num, B4.out⟩
            case measure => simp [intOf]; omega
          | true =>
            rw [hu1] at RH1
            clear hch hu1 RH2
            generalize cand base m = cb at *
            go_wp2_with fail
            refine RH1.out.mono ?_
            rintro e w3 ⟨rfl, rfl⟩
            go_wp2_with fail
            refine (RN.out _).mono ?_
            rintro e w4 ⟨rfl, b4⟩
            have B4 := Lib.hid (below_trans_size hb2 b4)
            clear b4
            go_wp2
            go_roundw
            case rel => exact ⟨m + 1, by omega, by rw [HN.out]; exact rfl, by go_num, B4.out⟩
            case measure => simp [intOf]; omega
        · have hmr : m = r := by omega
          have hno : hasB T (cand base m) = false := by
            rw [hasB_no]; intro h; exact absurd (hil.1 h) (by omega)
          rw [hno] at hch
          obtain ⟨u1, u2⟩ : hasB used (cand base m) = false ∧ hasB (outTo bs used k) (cand base m) = false := by simpa using hch
          rw [u1] at RH1
          rw [u2] at RH2
          have HNX2 : Hid (nextA ((outTo bs used k).reverse ++ used) base = cand base m) := by rw [hmr]; exact HNX.out
          clear hch u1 u2 hil hno hmr HNX
          generalize cand base m = cb at *
          go_wp2_with fail
          refine RH1.out.mono ?_
          rintro e w3 ⟨rfl, rfl⟩
          go_wp2_with fail
          refine RH2.out.mono ?_
          rintro e w3 ⟨rfl, rfl⟩
          clear RH1 RH2
          have hol : (outTo bs used k).length ≤ 100000 := by rw [HOL.out]; omega
          go_wp2_with (at_builtin; refine wpList_append_own _ rfl _ _ 25 rfl w.heap.size 9 i0 (.string ByteArray.empty) 1 16 Tryd.underlying25 hi hz0 hz1 hz2 rfl (by decide) _ _ _ rfl (HO2.out.alloc _) ⟨_, 0, none⟩ 1 1 [.string cb] rfl rfl ?c1 ?c2 ?c3 ?c4 ?c5 ?_)
          case c1 => exact new_one _ _ _
          case c2 => intro u hu; simp at hu; subst hu; rfl
          case c3 => unfold maxLen; omega
          case c4 => omega
          case c5 => simp; omega
          intro v' w3 hown' hgrow _
          have hbelA := below_trans_size hbel1 hb2
          have b3 : Below w.heap.size w w3 := below_app hbelA hbelA.size HO2.out hgrow
          have HO3 := Lib.hid hown'
          clear hown' hgrow hbelA
          go_wp2
          go_roundw
          case rel =>
            refine ⟨k + 1, by rw [HBL.out]; omega, by go_num, ?_, b3⟩
            rw [HOS.out, HNX2.out, List.length_append, List.map_append]
            exact HO3.out
          case measure => simp [intOf]; omega
    · have hkl : k = bs.length := by rw [HBL.out]; omega
      have hO := HO.out
      rw [hkl, ← HR.out] at hO
      have HO2 := Lib.hid hO
      clear hO HO hkl
      go_wp2
      go_ret
      exact ⟨_, rfl, HO2.out, hbel⟩
end Go.Proofs.YtjolhiofllpejaaDoor
