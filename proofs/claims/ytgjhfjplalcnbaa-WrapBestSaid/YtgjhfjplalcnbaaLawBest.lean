/- Proved: publisherlaw38.WrapBest returns true at every list of widths, every space and width, and every list of ends, and the arguments read as before. No condition. -/
import Derived.Test.YtgjhfjplalcnbaaRows
import Derived.Test.YtgjhfjplalcnbaaAwake
import Derived.Test.YtgjhfjplalcnbaaBreakAll
import Derived.Test.YtgjhfjplalcnbaaCost
import Derived.Test.YtgjhfjplalcnbaaLawBreaks
import Derived.Deep.Grids
namespace Go.Proofs.Ytgjhfjplalcnbaa.LawBest
open Go.ChangeShapes Go.WideShapes Go.ChangeAt Go.RowKit
set_option linter.unusedVariables false

theorem infoB : (Try.prog.info? 4).map (fun i => (i.zero, i.size, i.bytes)) = some (some (.bool false), 1, 1) := by kernel_rfl

/-- Which words end a line, after i first words have been read. -/
def onOf (F : List Int) (i k : Nat) : Bool := decide (((k + 1 : Nat) : Int) ∈ F.take i)
def bcells (f : Nat → Bool) (N : Nat) : List Bool := (List.range N).map f
theorem bcells_len (f : Nat → Bool) (N : Nat) : (bcells f N).length = N := by simp [bcells]
theorem bcells_get (f : Nat → Bool) (N k : Nat) (h : k < N) : (bcells f N)[k]? = some (f k) := by simp [bcells, h]
theorem made_b (N : Nat) (F : List Int) : (madeCells #[Value.bool false] N).toList = (bcells (onOf F 0) N).map Value.bool := by
  apply List.ext_getElem?
  intro i
  by_cases hi : i < N
  · simp [madeCells, bcells, hi, Nat.mod_one, onOf]
  · rw [List.getElem?_eq_none (by simp [madeCells]; omega), List.getElem?_eq_none (by simp [bcells_len]; omega)]
theorem bcells_set (F : List Int) (i N m : Nat) (hm : 0 < m) (hmN : m ≤ N) (hF : F[i]? = some (m : Int)) : ((bcells (onOf F i) N).map Value.bool).set (m - 1) (.bool true) = (bcells (onOf F (i + 1)) N).map Value.bool := by
  have ht : F.take (i + 1) = F.take i ++ [(m : Int)] := by rw [List.take_add_one, hF]; rfl
  apply List.ext_getElem?
  intro k
  by_cases hk : k < N
  · rw [List.getElem?_set]
    by_cases e : m - 1 = k
    · have : ((k + 1 : Nat) : Int) = (m : Int) := by omega
      rw [if_pos e, if_pos (by simp [bcells_len]; omega), List.getElem?_map, bcells_get _ _ _ hk]
      simp only [Option.map_some, onOf, ht, this]
      simp
    · have : ((k + 1 : Nat) : Int) ≠ (m : Int) := by omega
      rw [if_neg e, List.getElem?_map, List.getElem?_map, bcells_get _ _ _ hk, bcells_get _ _ _ hk]
      simp only [onOf, ht, List.mem_append, List.mem_singleton, this, or_false]
  · rw [List.getElem?_eq_none (by simp [bcells_len]; omega), List.getElem?_eq_none (by simp [bcells_len]; omega)]
theorem onOf_zero (F : List Int) (hF : F[0]? = some 0) : onOf F 1 = onOf F 0 := by
  have ht : F.take 1 = [0] := by rw [List.take_add_one, hF]; rfl
  funext k
  unfold onOf
  rw [ht]
  simp
  omega

/-- At the head of each round of the loop over the first words. -/
def ERel (w0 wr : World) (F : List Int) (N g : Nat) (vi : Value) : Prop :=
  ∃ i : Nat, i ≤ F.length ∧ vi = .int .i64 i ∧ wr.ownsRow w0.heap.size 4 1 (.slice (some ⟨g, 0, none⟩) N N) N ((bcells (onOf F i) N).map Value.bool) ∧ Below w0.heap.size w0 wr

set_option maxRecDepth 100000 in
set_option maxHeartbeats 1000000 in
theorem walk (a : Option Addr) (cap : Nat) (ws : List Int) (sp wd : Int) (ve : Value) (es : List Bool) (w : World) (hs : Sees w 1 (.slice a ws.length cap) ws.length (IntsOf ws)) (hm : ws.length ≤ maxLen) (he : Sees w 1 ve es.length (es.map Value.bool)) :
    Calls Try.prog 5 #[.slice a ws.length cap, .int .i64 sp, .int .i64 wd, ve] w fun e w' => e = .returned (.bool true) ∧ Below w.heap.size w w' := by
  unfold maxLen at hm
  obtain ⟨iB, hiB, hzB0, hzB1, hzB2⟩ := info_parts infoB
  by_cases h : 60 < ws.length
  · have e1 : decide ((60 : Int) < (ws.length : Int)) = true := by simp; omega
    clear hs he
    go_enter Try.func5, Try.ntmps5
    go_wp2_with fail
    refine (awake_any _).mono ?_
    rintro e w1 ⟨rfl, hb⟩
    go_wp2
    go_ret
    exact ⟨rfl, hb⟩
  · have e1 : decide ((60 : Int) < (ws.length : Int)) = false := by simp; omega
    have HS := Lib.hid hs
    have HE := Lib.hid he
    clear hs he
    go_enter Try.func5, Try.ntmps5
    go_wp2_with fail
    refine (break_all _ _ ws sp wd HS.out (by omega)).mono ?_
    rintro e w1 (⟨hok, v, rfl, hown, b1⟩ | ⟨hno, rfl, b1⟩)
    · have hTab := tab_ok ws sp wd ws.length hok.wd.2 hok.sp.1 (fun x hx => (hok.ws x hx).1) ws.length (Nat.le_refl _)
      have hnx : ∀ j, j < ws.length → (j : Int) < (brT ws sp wd j).nx := fun j hj => (hTab.nx j (by omega) hj).1
      have hge := firsts_ge ws.length (brT ws sp wd) hnx ws.length 0
      have hso := firsts_sorted ws.length (brT ws sp wd) hnx ws.length 0
      have hfl := firsts_len ws.length (brT ws sp wd) ws.length 0
      have hf0 : 0 < ws.length → (brFirst ws sp wd)[0]? = some 0 := fun h0 => by
        unfold brFirst
        obtain ⟨m, hm⟩ : ∃ m, ws.length = m + 1 := ⟨ws.length - 1, by omega⟩
        have := firsts_on ws.length (brT ws sp wd) m 0 h0
        rw [← hm] at this
        rw [this]; rfl
      have hoc := own_cost ws sp wd hok.sp.1 hok.wd.2 (fun x hx => (hok.ws x hx).1)
      have hlc := low_cost ws sp wd hok.sp.1 (fun x hx => (hok.ws x hx).1)
      have HGE : Hid (∀ x, x ∈ brFirst ws sp wd → (0 : Int) ≤ x ∧ x < ws.length) := fun x hx => by have := hge x hx; omega
      have HSO : Hid (∀ k x y, (brFirst ws sp wd)[k]? = some x → (brFirst ws sp wd)[k + 1]? = some y → x < y) := hso
      have HF0 := Lib.hid hf0
      have HOC := Lib.hid hoc
      have HLC := Lib.hid hlc
      have hFl : (brFirst ws sp wd).length ≤ ws.length := hfl
      have hCE : ws.length = 0 → brCost ws sp wd = 0 := fun h0 => by
        obtain rfl := List.length_eq_zero_iff.1 h0; rfl
      have HCE := Lib.hid hCE
      clear hTab hnx hge hso hfl hf0 hoc hlc hCE
      generalize brFirst ws sp wd = F at *
      generalize brCost ws sp wd = C at *
      have sF := Sees.of_own hown
      have s1 := HS.out.below b1
      have se1 := HE.out.below b1
      have HOK := Lib.hid hok
      have S1 := Lib.hid s1
      have SE := Lib.hid se1
      clear hown hok s1 se1 HS HE
      obtain ⟨-, aF, capF, rfl, pF1, pF2, pF3⟩ := sF
      unfold maxLen at pF2
      rcases Nat.eq_zero_or_pos ws.length with hn0 | hn0
      · have hF0 : F.length = 0 := by omega
        have hC := HCE.out hn0
        subst hC
        rw [hF0, hn0] at *
        have hmk : ∀ w : World, (Instr.makeSlice 32 (.int .i64 0) (.int .i64 0)).run Try.prog w = .ok (.slice (some ⟨w.heap.size, 0, none⟩) 0 0) (w.alloc (.cells #[] 4)) := fun _ => by kernel_rfl
        clear pF3
        go_wp2
        refine wp_loop_rounds 1 ?_
        rw [rounds_succ]
        go_wp2_with fail
        refine (cost_empty _ _ _ _ _ _).mono ?_
        rintro e w2 ⟨rfl, rfl⟩
        go_wp2_with fail
        refine (cost_empty _ _ _ _ _ _).mono ?_
        rintro e w2 ⟨rfl, rfl⟩
        go_wp2_with fail
        refine (awake_any _).mono ?_
        rintro e w3 ⟨rfl, b3⟩
        go_wp2
        go_ret
        exact ⟨rfl, below_trans_size (b1.alloc b1.size _) b3⟩
      · have hF0 := HF0.out hn0
        have hFp : 0 < F.length := by
          have := (List.getElem?_eq_some_iff.1 hF0).1
          omega
        rcases pF3 with pF3 | ⟨bF, oF, rfl, pF3⟩
        · omega
        have HF := Lib.hid hF0
        have hbF := cell_lt (pF3 0 _ (by simp [hF0]; rfl))
        have HPF := Lib.hid pF3
        have hsz1 := b1.size
        clear hF0 HF0 pF3
        go_wp2_with (at_make; refine wpList_make_full _ rfl _ _ 32 rfl w1.heap.size 4 iB _ 1 Try.underlying32 hiB hzB0 hzB1 .i64 .i64 _ _ ws.length rfl rfl rfl rfl ?m3 ?m4 ?m5 ?_)
        case m3 => rw [hzB2]; omega
        case m4 => unfold maxLen; omega
        case m5 => exact Nat.le_refl _
        intro w2 hown2 hgr2
        have hb2 : Below w1.heap.size w1 w2 := (Below.refl _ _).grown hgr2 (Nat.le_refl _) (by simp)
        rw [made_b ws.length F] at hown2
        have HO2 := Lib.hid hown2
        clear hown2 hgr2
        go_wp2
        go_loopw [13] (fun vi wr => ERel w1 wr F ws.length w1.heap.size vi) (fun i _ => F.length - (intOf i).toNat)
        case atStart => exact ⟨0, Nat.zero_le _, rfl, HO2.out, hb2⟩
        case round =>
          obtain ⟨i, hi, rfl, hown3, hbel3⟩ := hrel
          have HO3 := Lib.hid hown3
          clear hown3
          by_cases hil : i < F.length
          · obtain ⟨x, hx⟩ : ∃ x, F[i]? = some x := ⟨_, List.getElem?_eq_getElem hil⟩
            obtain ⟨x0, x1⟩ := HGE.out x (List.mem_of_getElem? hx)
            obtain ⟨m, rfl⟩ : ∃ m : Nat, x = (m : Int) := ⟨x.toNat, by omega⟩
            have ci : wr.cell? ⟨bF, oF + i, none⟩ = some (.int .i64 m) := by
              rw [hbel3.cell (p := ⟨bF, oF + i, none⟩) hbF]; exact HPF.out i _ (by simp [hx])
            have i1 : (i : Int) < (F.length : Int) := by omega
            have n1 : decide ((m : Int) < 0) = false := by simp
            have n2 : decide ((ws.length : Int) ≤ (m : Int)) = false := by simp; omega
            have n3 : decide (ws.length ≤ m) = false := by simp; omega
            by_cases hi0 : i = 0
            · have hm0 : m = 0 := by
                have := HF.out
                rw [hi0, this] at hx
                simp at hx; omega
              have e1 : decide ((0 : Int) < (i : Int)) = false := by simp; omega
              have e2 : ((i : Int) == 0) = true := by simp; omega
              have e3 : ((m : Int) != 0) = false := by simp; omega
              have e4 : decide (0 < i) = false := by simp; omega
              have e5 : (i == 0) = true := by simp; omega
              have e6 : (m != 0) = false := by simp; omega
              have HI := Lib.hid hi0
              have HM := Lib.hid hm0
              clear hi0 hm0 hx
              go_wp2_with fail
              go_quiet (fail)
              go_wp2
              go_roundw
              case rel =>
                refine ⟨i + 1, by omega, by go_num, ?_, below_dN hbel3 _⟩
                have := HO3.out
                rw [HI.out, ← onOf_zero F HF.out] at this
                rw [HI.out]
                exact this
              case measure => simp [intOf]; omega
            · obtain ⟨y, hy⟩ : ∃ y, F[i - 1]? = some y := ⟨_, List.getElem?_eq_getElem (by omega)⟩
              have hyx := HSO.out (i - 1) y m hy (by rw [show i - 1 + 1 = i from by omega]; exact hx)
              obtain ⟨y0, y1⟩ := HGE.out y (List.mem_of_getElem? hy)
              have cp : wr.cell? ⟨bF, oF + (i - 1), none⟩ = some (.int .i64 y) := by
                rw [hbel3.cell (p := ⟨bF, oF + (i - 1), none⟩) hbF]; exact HPF.out (i - 1) _ (by simp [hy])
              have e1 : decide ((0 : Int) < (i : Int)) = true := by simp; omega
              have e2 : ((i : Int) == 0) = false := by simp; omega
              have e3 : decide ((m : Int) ≤ y) = false := by simp; omega
              have e4 : decide (0 < i) = true := by simp; omega
              have e5 : (i == 0) = false := by simp; omega
              have e6 : 0 < i := by omega
              have j1 : (0 : Int) ≤ (i : Int) - 1 := by omega
              have j2 : (i : Int) - 1 < (F.length : Int) := by omega
              have j3 : ((i : Int) - 1).toNat = i - 1 := by omega
              have j4 : IntKind.i64.wrap ((i : Int) - 1) = (i : Int) - 1 := IntWalk.i64_in _ (by omega)
              have HX := Lib.hid hx
              clear hx hy
              go_wp2_with fail
              go_quiet (fail)
              clear cp j1 j2 j3 j4 e2 e3
              have fz := HO3.out.frozenAt (m - 1)
              have fc := HO3.out.cellAt (m - 1) (by omega)
              rw [List.getElem?_map, bcells_get _ _ _ (by omega)] at fc
              simp only [Option.map_some] at fc
              have k1 : (0 : Int) ≤ (m : Int) - 1 := by omega
              have k2 : (m : Int) - 1 < (ws.length : Int) := by omega
              have k3 : ((m : Int) - 1).toNat = m - 1 := by omega
              have k4 : (1 : Int) ≤ (m : Int) := by omega
              have k5 : 1 ≤ m := by omega
              go_wp2
              go_roundw
              case rel =>
                obtain ⟨h1, h2⟩ := HO3.out.stored (m - 1) (.bool true)
                rw [bcells_set F i ws.length m (by omega) (by omega) HX.out] at h1
                exact ⟨i + 1, by omega, by go_num, h1, below_dN (hbel3.setCell (Nat.le_refl _) _) _⟩
              case measure => simp [intOf]; omega
          · have hie : i = F.length := by omega
            subst hie
            have hlen : (bcells (onOf F F.length) ws.length).length = ws.length := bcells_len _ _
            have hoc := HOC.out hn0 (enOf (bcells (onOf F F.length) ws.length)) (fun k hk => by
              unfold enOf
              rw [List.getD_eq_getElem?_getD, bcells_get _ _ _ (by omega)]
              simp [onOf])
            have sO := Sees.of_own HO3.out
            have hcw := S1.out.below hbel3
            have see := SE.out.below hbel3
            obtain ⟨-, a', cap', heq, q1, q2, q3⟩ := hcw
            simp only [Value.slice.injEq] at heq
            obtain ⟨rfl, -, rfl⟩ := heq
            rcases q3 with q3 | ⟨bw, ow, rfl, q3⟩
            · omega
            have hok := HOK.out
            have CO := Lib.hid (cost_any wr bw ow cap ws sp wd (.slice (some ⟨w1.heap.size, 0, none⟩) ws.length ws.length) (bcells (onOf F F.length) ws.length) hok.wd hok.sp hok.ws hn0 (by omega) q1 (ints_cells q3) (by rw [hlen]; exact sO))
            have CE := Lib.hid (cost_any wr bw ow cap ws sp wd ve es hok.wd hok.sp hok.ws hn0 (by omega) q1 (ints_cells q3) see)
            rw [hoc] at CO
            have hlc := HLC.out hn0 (enOf es)
            generalize cGo ws sp wd (enOf es) ws.length 0 0 0 0 = R at *
            obtain ⟨m, oth⟩ := R
            have HL : Hid (oth = true → C ≤ m) := fun h => hlc m (by rw [h])
            have b13 := below_trans_size b1 hbel3
            clear hoc sO see q3 hok hlc HO3 HO2 HPF S1 SE
            have hcc : (C == C) = true := by simp
            have hnF : ((F.length : Int) == 0) = false := beq_eq_false_iff_ne.2 (by omega)
            have hnF2 : (F.length == 0) = false := beq_eq_false_iff_ne.2 (by omega)
            have hnF3 : F ≠ [] := by intro h; rw [h] at hFp; simp at hFp
            go_wp2_with fail
            refine CO.out.mono ?_
            rintro e w5 ⟨rfl, rfl⟩
            go_wp2_with fail
            refine CE.out.mono ?_
            rintro e w5 ⟨rfl, rfl⟩
            clear CO CE
            cases oth
            · go_wp2_with fail
              refine (awake_any _).mono ?_
              rintro e w3 ⟨rfl, b3⟩
              go_wp2
              go_ret
              exact ⟨rfl, below_trans_size b13 b3⟩
            · have hle := HL.out rfl
              have e5 : decide (C ≤ m) = true := by simpa using hle
              go_wp2_with fail
              refine (awake_any _).mono ?_
              rintro e w3 ⟨rfl, b3⟩
              go_wp2
              go_ret
              exact ⟨rfl, below_trans_size b13 b3⟩
    · go_wp2_with fail
      refine (awake_any _).mono ?_
      rintro e w3 ⟨rfl, b3⟩
      go_wp2
      go_ret
      exact ⟨rfl, below_trans_size b1 b3⟩

theorem own : ownKnob Try.prog.godebug = none := by kernel_rfl
theorem laidOut : laidOutB Try.prog = true := by kernel_rfl

/-- What a slice of bools that came in gives. -/
theorem sees_of_bools {w : World} {x : Addr} {len cap : Nat} {B : Nat → Bool} (hl : len ≤ cap) (hm : cap ≤ maxLen) (hc : ∀ i, i < cap → w.cell? (x.add i) = some (.bool (B i))) :
    Sees w 1 (.slice (some x) len cap) ((List.range len).map B).length (((List.range len).map B).map Value.bool) := by
  refine ⟨by simp, some x, cap, by simp, by simpa using hl, hm, ?_⟩
  rcases Nat.eq_zero_or_pos len with h0 | hpos
  · exact .inl (by simpa using h0)
  · obtain ⟨b, off, spot⟩ := x
    have h := hc 0 (by omega)
    have hspot : spot = none := by simpa [Addr.add] using World.cell?_spot h
    subst hspot
    refine .inr ⟨b, off, rfl, fun j u hu => ?_⟩
    have hj : j < len := by
      have := (List.getElem?_eq_some_iff.1 hu).1
      simpa using this
    have h := hc j (by omega)
    have e : ((⟨b, off, none⟩ : Addr).add j) = ⟨b, off + j, none⟩ := by unfold Addr.add; split <;> simp_all
    rw [e] at h
    rw [h]
    simp [hj] at hu
    rw [hu]

set_option maxRecDepth 100000 in
theorem lifted (os : Os) (started : os.Started) (H : Type) (enc : TypeId × Value → H) :
    ReturnsInHanded {} Try.checked os 5 .any (Rows.wrapBestSpec.pre6 enc Try.prog Try.f5 Rows.wrapBestRow.domain false) (Rows.wrapBestSpec.post enc Try.prog Try.f5 false true false false) := by
  refine returnsInHanded_of_change (C := Try.checked) own started (by kernel_rfl) Try.func5
    (ChangeSpec.witness6 (enc := enc) (C := Try.checked) false ⟨#[], #[.slice none 0 0, .int .i64 0, .int .i64 0, .slice none 0 0], []⟩ 8 (by kernel_rfl) (by kernel_rfl) (by kernel_rfl) (by kernel_rfl)) ?_
  intro W base args ds gs before hval0 hW hcnd _
  have hval : ∀ (j : Nat) t v, Try.f5.params[j]? = some t → args[j]? = some v → Value.okWide Try.prog W .any base t v := hval0
  have hW' := hW
  obtain ⟨p, q, hA0, hV, rfl, hfz, hnd⟩ := hW
  have hA : DataW.TrodAll enc Try.prog W 0 (fun _ => true) true Try.f5.params.toList args.toList ds p := hA0
  rw [Try.params5] at hA hval
  obtain ⟨v0, vs0, d0, ds0, p0, q0, hargs, rfl, rfl, h0, r0⟩ := trodAll_cons hA
  obtain ⟨v1, vs1, d1, ds1, p1, q1, rfl, rfl, rfl, h1, r1⟩ := trodAll_cons r0
  obtain ⟨v2, vs2, d2, ds2, p2, q2, rfl, rfl, rfl, h2, r2⟩ := trodAll_cons r1
  obtain ⟨v3, vs3, d3, ds3, p3, q3, rfl, rfl, rfl, h3, r3⟩ := trodAll_cons r2
  obtain ⟨rfl, rfl, rfl⟩ := trodAll_nil r3
  obtain rfl : args = #[v0, v1, v2, v3] := by cases args; simp_all
  obtain ⟨rfl, rfl⟩ := trodVars_none hV
  obtain ⟨a0, len0, cap0, rfl⟩ := okWide_slice Try.underlying27 (hval 0 27 v0 rfl rfl)
  obtain ⟨a3, len3, cap3, rfl⟩ := okWide_slice Try.underlying32 (hval 3 32 v3 rfl rfl)
  have k0 := h0
  have k3 := h3
  have lt0 : ∀ x ∈ p0, x.block < W.heap.size := by obtain ⟨m, hm⟩ := k0; exact DataW.trod_lt m _ _ _ hm
  have lt3 : ∀ x ∈ p3, x.block < W.heap.size := by obtain ⟨m, hm⟩ := k3; exact DataW.trod_lt m _ _ _ hm
  obtain ⟨ws, hwl, hsee, hml⟩ : ∃ ws : List Int, ws.length = len0 ∧ Sees W 1 (.slice a0 ws.length cap0) ws.length (IntsOf ws) ∧ ws.length ≤ maxLen := by
    obtain ⟨fuel, hf⟩ := h0
    rcases open_ints Try.underlying27 Try.underlying3 (by kernel_rfl) hf with ⟨hcs, _⟩ | ⟨x, l, c, zs, hcs, _, hl, hm, hz, _, hcell, hwz⟩
    · simp [Value.cells] at hcs
      obtain ⟨rfl, rfl, rfl⟩ := hcs
      exact ⟨[], rfl, ⟨rfl, none, 0, rfl, Nat.le_refl _, Nat.zero_le _, .inl rfl⟩, Nat.zero_le _⟩
    · simp [Value.cells] at hcs
      obtain ⟨rfl, rfl, rfl⟩ := hcs
      have hz' : zs.length = cap0 := by simpa using hz
      exact ⟨zs.take len0, by simp; omega, LawBreaks.sees_of_row hl hm hz' hcell, by simp; omega⟩
  subst hwl
  obtain ⟨es, hsee3⟩ : ∃ es : List Bool, Sees W 1 (.slice a3 len3 cap3) es.length (es.map Value.bool) := by
    obtain ⟨fuel, hf⟩ := h3
    rcases Go.Deep.open_bools Try.underlying32 Try.underlying4 (by kernel_rfl) hf with ⟨hcs, _⟩ | ⟨x, l, c, B, hcs, _, hl, hm, _, hcell⟩
    · simp [Value.cells] at hcs
      obtain ⟨rfl, rfl, rfl⟩ := hcs
      exact ⟨[], ⟨rfl, none, 0, rfl, Nat.le_refl _, Nat.zero_le _, .inl rfl⟩⟩
    · simp [Value.cells] at hcs
      obtain ⟨rfl, rfl, rfl⟩ := hcs
      exact ⟨_, sees_of_bools hl hm hcell⟩
  obtain ⟨a1, rfl, rfl, rfl, w1⟩ := open_int Try.underlying3 (hval 1 3 v1 rfl rfl) h1
  obtain ⟨a2, rfl, rfl, rfl, w2⟩ := open_int Try.underlying3 (hval 2 3 v2 rfl rfl) h2
  clear hA0 hval0
  refine (walk a0 cap0 ws a1 a2 _ es W hsee hml hsee3).mono fun e W' ⟨he, bel⟩ => ?_
  subst he
  exact ⟨_, rfl, _, _, _, [], _, [], hW', trodAll_mk1 (shut_bool Try.underlying4 _), (trodAll_cons_mk (Below.trod laidOut (by kernel_rfl) (of_decide_eq_true (by kernel_rfl)) k0 bel lt0) (trodAll_cons_mk (shut_int Try.underlying3 w1) (trodAll_cons_mk (shut_int Try.underlying3 w2) (trodAll_cons_mk (Below.trod laidOut (by kernel_rfl) (of_decide_eq_true (by kernel_rfl)) k3 bel lt3) trodAll_mk0)))), rfl, bel.frame _, fun h => by cases h⟩

theorem over : Rows.wrapBestRow.holds Try.pinned (OpenSpec.ofChange Rows.wrapBestSpec) :=
  OpenClaim.holds_of_wide 5 Try.f5 rfl rfl rfl rfl rfl rfl rfl ⟨rfl, rfl, rfl, rfl, rfl⟩ rfl rfl rfl rfl rfl (by kernel_rfl) Try.func5 (by kernel_rfl)
    (of_decide_eq_true (by kernel_rfl)) (by unfold Func.isWrapper; first | (rw [if_pos (by decide +kernel)]; kernel_rfl) | (rw [if_neg (by decide +kernel)]; exact ⟨rfl, rfl⟩))
    (fun os started H enc _ => lifted os started H enc)
end Go.Proofs.Ytgjhfjplalcnbaa.LawBest

namespace Go.Proofs.Ytgjhfjplalcnbaa
theorem wrapBest_proved : Rows.WrapBestSaid := LawBest.over
#print axioms wrapBest_proved
end Go.Proofs.Ytgjhfjplalcnbaa
