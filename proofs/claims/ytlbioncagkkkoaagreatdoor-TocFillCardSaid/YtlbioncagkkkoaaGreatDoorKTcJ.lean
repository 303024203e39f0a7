/- Contract of toc.join. -/
import Derived.Test.YtlbioncagkkkoaaGreatDoorKTcF
namespace Go.Proofs.YtlbioncagkkkoaaGreatDoor
open Go.RowKit
set_option linter.unusedVariables false
set_option linter.unusedSimpArgs false

/-- The bytes of the texts of a line's elements. -/
def ttop : List Inl → Nat
  | [] => 0
  | x :: l => x.tx.size + ttop l
theorem ttop_app : ∀ (l m : List Inl), ttop (l ++ m) = ttop l + ttop m
  | [], m => by simp [ttop]
  | x :: l, m => by rw [List.cons_append, ttop, ttop, ttop_app l m]; omega
theorem ttop_take (l : List Inl) (k : Nat) : ttop (l.take k) ≤ ttop l := by
  conv => rhs; rw [← List.take_append_drop k l]
  rw [ttop_app]; omega
theorem ttop_snoc (l : List Inl) (k : Nat) (x : Inl) (h : l[k]? = some x) : ttop (l.take (k + 1)) = ttop (l.take k) + x.tx.size := by
  rw [List.take_add_one, h, ttop_app]; simp [ttop]
theorem joinK_snoc (q : Int) (l : List Inl) (k : Nat) (x : Inl) (h : l[k]? = some x) : joinK q (l.take (k + 1)) = addK q (joinK q (l.take k)) x := by
  unfold joinK
  rw [List.take_add_one, h, List.foldl_append]; rfl
def EdgeK (q : Int) (l out : List Inl) (k : Nat) : Prop := ∀ x, l[k]? = some x → x.kd = q → ∀ y, out.getLast? = some y → y.kd ≠ q
theorem addK_edge {q : Int} {l out : List Inl} {k : Nat} {x : Inl} (he : EdgeK q l out k) (hx : l[k]? = some x) : addK q out x = out ++ [x] := by
  unfold addK
  by_cases hq : x.kd = q
  · rw [if_pos hq]
    cases hg : out.getLast? with
    | none => rfl
    | some y => simp only; rw [if_neg (he x hx hq y hg)]
  · rw [if_neg hq]
theorem addK_more (q : Int) (out : List Inl) (x y : Inl) (c : ByteArray) (hx : x.kd = q) (hy : y.kd = q) : addK q (out ++ [x.setTx c]) y = out ++ [x.setTx (c ++ y.tx)] := by
  unfold addK
  rw [if_pos hy, List.getLast?_concat]
  simp only
  rw [if_pos (by rw [Inl.set_kd]; exact hx), List.dropLast_concat]
  obtain ⟨k, t, d, ti, a, ar, ci, ks⟩ := x
  rfl
theorem addK_len (q : Int) (out : List Inl) (x : Inl) : (addK q out x).length ≤ out.length + 1 := by
  unfold addK
  split
  · split
    · split
      · simp [List.length_dropLast]
      · simp
    · simp
  · simp
theorem foldK_len (q : Int) : ∀ (l out : List Inl), (l.foldl (addK q) out).length ≤ out.length + l.length
  | [], out => by simp
  | x :: l, out => by
    have h1 := addK_len q out x
    have h2 := foldK_len q l (addK q out x)
    rw [List.foldl_cons, List.length_cons]; omega
theorem joinK_len (q : Int) (l : List Inl) : (joinK q l).length ≤ l.length := by
  have := foldK_len q l []
  unfold joinK; simpa using this
theorem EdgeK.next {q : Int} {l out : List Inl} {k : Nat} {x : Inl} (h : x.kd ≠ q ∨ ∀ y, l[k + 1]? = some y → y.kd ≠ q) : EdgeK q l (out ++ [x]) (k + 1) := by
  intro y hy hq z hz
  rw [List.getLast?_concat] at hz
  obtain rfl := Option.some.inj hz
  rcases h with h | h
  · exact h
  · exact absurd hq (h y hy)
/-- At the head of the outer loop. -/
def JnRel (q : Int) (ok : Nat → Prop) (w wr : World) (l : List Inl) (v vi : Value) : Prop :=
  ∃ (k : Nat) (rows : List (List Value)), k ≤ l.length ∧ vi = .int .i64 k ∧ RowU 47 10 ok wr.heap.size w ((joinK q (l.take k)).map Inl.d) rows v wr ∧ EdgeK q l (joinK q (l.take k)) k
/-- At the head of the inner loop. -/
def JnIn (q : Int) (l out : List Inl) (x : Inl) (k p1 : Nat) (wA : World) (vi : Value) (wx : World) : Prop :=
  ∃ (j : Nat) (c : ByteArray), k + 1 ≤ j ∧ j ≤ l.length ∧ vi = .int .i64 j ∧ joinK q (l.take j) = out ++ [x.setTx c] ∧ c.size ≤ ttop (l.take j) ∧ Bd p1 p1 c.data.toList wx ∧ Below p1 wA wx

set_option maxRecDepth 100000 in
set_option maxHeartbeats 8000000 in
theorem join_toc0 (q : Int) (l : List Inl) (ok : Nat → Prop) (v : Value) (w : World) (hn : l.length ≤ 1000000) (ht : ttop l ≤ 100000000000) (hrd : Rd ok w (inlsD l) [v]) (hB : ∀ b, ok b → b < w.heap.size) :
    Calls Tryz.prog 63 #[v, .int .i64 q] w (FuPost ok w (joinK q l)) := by
    obtain ⟨iI, hiI, hzI0, hzI1, hzI2⟩ := info_parts infoIn
    obtain ⟨a, cap, hv, hs⟩ := Rd.sl_open hrd
    obtain rfl : v = .slice a l.length cap := by simpa using hv
    have hcap : l.length ≤ cap := by simpa using hs.le
    have hmx := hs.max
    have HS := Lib.hid hs
    have HB := Lib.hid hB
    have HT := Lib.hid (fun k => Nat.le_trans (ttop_take l k) ht)
    have R0 := Lib.hid (show JnRel q ok w w l (.slice none 0 0) (.int .i64 0) from ⟨0, [], Nat.zero_le _, rfl, RowU.nil _ _ _ _, fun x _ _ y hy => by simp [joinK] at hy⟩)
    clear hs hv hrd ht hB
    unfold maxLen at hmx
    go_enter Tryz.func63, Tryz.ntmps63
    go_wp2
    go_loopw [5, 6] (fun v vi wr => JnRel q ok w wr l v vi) (fun _ i _ => l.length - (intOf i).toNat)
    case atStart => exact R0.out
    case round =>
      clear R0
      obtain ⟨k, rows, hk, rfl, hrow, hed⟩ := hrel
      obtain ⟨out, hout⟩ : ∃ out, out = joinK q (l.take k) := ⟨_, rfl⟩
      rw [← hout] at hrow hed
      obtain ⟨m, hm⟩ : ∃ m, m = (out.map Inl.d).length := ⟨_, rfl⟩
      have hmk : m ≤ k := by rw [hm, hout, List.length_map]; have := joinK_len q (l.take k); simp at this; omega
      have HDN := Lib.hid hm.symm
      have HOUT := Lib.hid hout
      have HED := Lib.hid hed
      obtain ⟨av, cv, rfl, -, -⟩ := hrow.cap hm.symm
      have HROW := Lib.hid hrow
      have hbel := hrow.bel
      clear hrow hm hout hed
      by_cases hlt : k < l.length
      · obtain ⟨x, hx⟩ : ∃ x, l[k]? = some x := ⟨_, List.getElem?_eq_getElem hlt⟩
        have hsn := joinK_snoc q l k x hx
        rw [← HOUT.out, addK_edge HED.out hx] at hsn
        have HSN := Lib.hid hsn
        have htx := ttop_snoc l k x hx
        have ht1 := HT.out (k + 1)
        obtain ⟨kd, t, d, ti, at_, ar, ci, ks⟩ := x
        change ttop (l.take (k + 1)) = ttop (l.take k) + t.size at htx
        obtain ⟨g, off, vc, vp, va, vi, vk, rfl, hok, hbl, hc, hR⟩ := inls_at (HS.out.up0 hbel) hx
        obtain ⟨c0, c1, c2, c3, c4, c5, c6, c7, c8, c9⟩ := hc
        obtain ⟨ac, nc, cc, rfl⟩ := Rd.sl_form hR.at_.cls
        obtain ⟨ap, np, cp, rfl⟩ := Rd.sl_form hR.at_.prs
        obtain ⟨aa, na, ca, rfl⟩ := Rd.sl_form hR.args
        obtain ⟨ai, ni, ci', rfl⟩ := Rd.sl_form hR.cites
        obtain ⟨ak, nk, ck, rfl⟩ := Rd.sl_form hR.kids
        obtain ⟨p, hp⟩ : ∃ p, p = wr.heap.size := ⟨_, rfl⟩
        obtain ⟨wA, hwA⟩ : ∃ wA, wA = wr.alloc (.cells #[.int .i64 kd, .string t, .string d, .string ti, .string at_.id, .slice ac nc cc, .slice ap np cp, .slice aa na ca, .slice ai ni ci', .slice ak nk ck] 47) := ⟨_, rfl⟩
        have PA : PB p [.int .i64 kd, .string t, .string d, .string ti, .string at_.id, .slice ac nc cc, .slice ap np cp, .slice aa na ca, .slice ai ni ci', .slice ak nk ck] wA := by rw [hwA, hp]; exact heap_alloc_new wr _
        have UA := Lib.hid (show RowU 47 10 ok p w (out.map Inl.d) rows (.slice av m cv) wA by rw [hwA, hp]; exact HROW.out.alloc _)
        have HIN := Lib.hid (show InR ok wA at_ ar ci ks (.slice ac nc cc) (.slice ap np cp) (.slice aa na ca) (.slice ai ni ci') (.slice ak nk ck) from inR_keep hR (fun b hb hlt => ⟨hb, by rw [hwA]; exact Below.heap_alloc _ _ b hlt⟩))
        have zA : wA.heap.size = p + 1 := by rw [hwA, hp]; simp
        have ZA := Lib.hid zA
        have hpw : w.heap.size ≤ p := by rw [hp]; exact hbel.size
        have HBP : Hid (∀ b, ok b → b < p) := fun b hb => Nat.lt_of_lt_of_le (HB.out b hb) hpw
        have HPA := Lib.hid PA
        have NX := Lib.hid (fun (h : k + 1 < l.length) => inls_at (HS.out.up0 UA.out.bel) (show l[k + 1]? = some (.mk (l[k + 1]).kd (l[k + 1]).tx (match l[k + 1] with | .mk _ _ d _ _ _ _ _ => d) (match l[k + 1] with | .mk _ _ _ d _ _ _ _ => d) (match l[k + 1] with | .mk _ _ _ _ d _ _ _ => d) (match l[k + 1] with | .mk _ _ _ _ _ d _ _ => d) (match l[k + 1] with | .mk _ _ _ _ _ _ d _ => d) (match l[k + 1] with | .mk _ _ _ _ _ _ _ d => d)) by rw [List.getElem?_eq_getElem h]; congr 1; cases l[k + 1]; rfl))
        clear hR hx hbel hok hbl hsn zA
        go_upto_region 6 with (fail)
        rw [← hwA, ← hp]
        obtain ⟨e0, e1, e2, e3, e4, e5, e6, e7, e8, e9, ef⟩ := PA.all
        clear hwA hp HROW c0 c1 c2 c3 c4 c5 c6 c7 c8 c9 PA
        have hdl : m ≤ 10000000 := by omega
        have HX2 := Lib.hid (show (joinK q (l.take (k + 1))).map Inl.d = out.map Inl.d ++ [(Inl.mk kd t d ti at_ ar ci ks).d] by rw [HSN.out, List.map_append]; rfl)
        by_cases hq : kd = q
        · have q1 : (kd == q) = true := by rw [beq_iff_eq]; exact hq
          have HQ := Lib.hid hq
          by_cases hl1 : k + 1 < l.length
          · have q2 : decide ((k : Int) + 1 < (l.length : Int)) = true := by simp; omega
            have q2' : decide (k + 1 < l.length) = true := by simp; omega
            obtain ⟨g2, off2, vc2, vp2, va2, vi2, vk2, hag, -, -, hc2, -⟩ := NX.out hl1
            cases hag
            have n0 := hc2.c0
            have HYQ : Hid (∀ y, l[k + 1]? = some y → y.kd = (l[k + 1]).kd) := fun y hy => by rw [List.getElem?_eq_getElem hl1] at hy; rw [← Option.some.inj hy]
            obtain ⟨nk2, hnk2⟩ : ∃ y, y = (l[k + 1]).kd := ⟨_, rfl⟩
            rw [← hnk2] at n0 HYQ
            clear hc2 hnk2 NX
            by_cases hq2 : nk2 = q
            · have q3 : (nk2 == q) = true := by rw [beq_iff_eq]; exact hq2
              obtain ⟨wb, hwb⟩ : ∃ wb, wb = wA.alloc (.cells #[.pointer none, .slice none 0 0] 126) := ⟨_, rfl⟩
              have B0 : Bd (p + 1) (p + 1) [] wb := by
                have hz := ZA.out
                rw [hwb, ← hz]; exact ⟨Lib.IsBuilderF.of (Lib.fresh_isBuilder 126 5 wA), by simp⟩
              have bb : Below (p + 1) wA wb := by
                have hz := ZA.out
                rw [hwb, ← hz]; exact (Below.refl _ wA).alloc (Nat.le_refl _) _
              have WS := Lib.hid (writeString_k (p + 1) (p + 1) (Lib.byteCells []) t wb B0.1 (by show 0 + t.size ≤ _; omega) B0.2)
              have s1 := (HPA.out.grown (w' := wb) (by rw [hwb]; exact World.grownBy_alloc _ _ none)).cell 1 _ rfl
              have BB := Lib.hid bb
              clear B0 bb hq2 hq
              go_upto_region 8 with (fail)
              rw [← hwb, ZA.out]
              clear hwb n0 e0 e1 e2 e3 e4 e5 e6 e7 e8 e9 ef
              go_wp2_with fail
              (with_reducible refine WS.out.mono ?_)
              rintro e w3 ⟨rfl, hw3⟩
              have J0 : Hid (JnIn q l out (Inl.mk kd t d ti at_ ar ci ks) k (p + 1) wA (.int .i64 ((k : Int) + 1)) w3) := by
                refine ⟨k + 1, t, Nat.le_refl _, by omega, by go_num, HSN.out, by omega, ⟨?_, ?_⟩, BB.out.trans hw3.2.1⟩
                · have := hw3.1; rw [strCells_bytes, ← Lib.byteCells_append] at this; simpa using this
                · have := (BB.out.trans hw3.2.1).size; have := ZA.out; omega
              clear hw3 WS s1 BB
              obtain ⟨p1, hp1⟩ : ∃ p1, p1 = p + 1 := ⟨_, rfl⟩
              rw [← hp1] at J0 ⊢
              have HP1 := Lib.hid hp1
              clear hp1 q2 q2' q3 HYQ HX2 htx ht1
              go_wp2
              go_loopw [6] (fun vi wx => JnIn q l out (Inl.mk kd t d ti at_ ar ci ks) k p1 wA vi wx) (fun i _ => l.length - (intOf i).toNat)
              case atStart => exact J0.out
              case round =>
                clear J0
                obtain ⟨j, c, hkj, hj, rfl, hjn, hcs, hbd, hbel⟩ := hrel
                have HJN := Lib.hid hjn
                have HBD := Lib.hid hbd
                have HBEL := Lib.hid hbel
                have htj := HT.out j
                have UX := Lib.hid (UA.out.same (show wA.heap.size ≤ wr.heap.size from hbel.size) ⟨hbel.os, hbel.tape, hbel.output⟩ (fun b hb => hbel.block b (by have := HP1.out; omega)))
                clear hjn hbd hbel
                have PX := Lib.hid (show PB p [.int .i64 kd, .string t, .string d, .string ti, .string at_.id, .slice ac nc cc, .slice ap np cp, .slice aa na ca, .slice ai ni ci', .slice ak nk ck] wr from (HBEL.out.block p (by have := HP1.out; omega)).trans HPA.out)
                have ST := Lib.hid (Tryz.Builder_String_any_f p1 p1 c.data.toList wr HBD.out.1 HBD.out.2)
                rw [bytes_same] at ST
                by_cases hjl : j < l.length
                · have q2 : decide ((j : Int) < (l.length : Int)) = true := by simp; omega
                  have q2' : decide (j < l.length) = true := by simp; omega
                  obtain ⟨y, hy⟩ : ∃ y, l[j]? = some y := ⟨_, List.getElem?_eq_getElem hjl⟩
                  obtain ⟨kd2, t2, d2, ti2, at2, ar2, ci2, ks2⟩ := y
                  obtain ⟨g2, off2, vc2, vp2, va2, vi2, vk2, hag, -, -, hc2, -⟩ := inls_at (HS.out.up0 UX.out.bel) hy
                  cases hag
                  have n0 := hc2.c0
                  have n1 := hc2.c1
                  have htj2 := ttop_snoc l j _ hy
                  have htj3 := HT.out (j + 1)
                  change ttop (l.take (j + 1)) = ttop (l.take j) + t2.size at htj2
                  clear hc2
                  by_cases hk2 : kd2 = q
                  · have q3 : (kd2 == q) = true := by rw [beq_iff_eq]; exact hk2
                    have WS := Lib.hid (writeString_k p1 p1 (Lib.byteCells c.data.toList) t2 wr HBD.out.1 (by rw [Lib.byteCells_length, ← Lib.size_eq]; omega) HBD.out.2)
                    have HJ2 := Lib.hid (show joinK q (l.take (j + 1)) = out ++ [(Inl.mk kd t d ti at_ ar ci ks).setTx (c ++ t2)] by rw [joinK_snoc q l j _ hy, HJN.out]; exact addK_more q out _ _ c HQ.out hk2)
                    clear hy hk2 ST PX UX
                    go_wp2_with fail
                    (with_reducible refine WS.out.mono ?_)
                    rintro e w3 ⟨rfl, hw3⟩
                    have HW3 := Lib.hid hw3
                    clear hw3 WS
                    go_wp2
                    go_roundw
                    case rel => exact ⟨j + 1, c ++ t2, by omega, by omega, by go_num, HJ2.out, by rw [ByteArray.size_append]; omega, ⟨by have := HW3.out.1; rw [strCells_bytes, ← Lib.byteCells_append] at this; rw [ByteArray.data_append, Array.toList_append]; exact this, Nat.le_trans HBD.out.2 HW3.out.2.1.size⟩, HBEL.out.trans HW3.out.2.1⟩
                    case measure => simp [intOf]; omega
                  · have q3 : (kd2 == q) = false := by rw [beq_eq_false_iff_ne]; exact hk2
                    have ED : Hid (EdgeK q l (joinK q (l.take j)) j) := fun z hz hzq => by rw [hy] at hz; cases hz; exact absurd hzq hk2
                    clear hy hk2 n1
                    go_wp2_with fail
                    (with_reducible refine ST.out.mono ?_)
                    rintro e w5 ⟨rfl, -, b5⟩
                    have P5 := (b5.block p (by have := HP1.out; omega)).trans PX.out
                    have P5 : PB p [.int .i64 kd, .string t, .string d, .string ti, .string at_.id, .slice ac nc cc, .slice ap np cp, .slice aa na ca, .slice ai ni ci', .slice ak nk ck] w5 := P5
                    have U5 := Lib.hid (UX.out.same (show wr.heap.size ≤ w5.heap.size from b5.size) ⟨b5.os, b5.tape, b5.output⟩ (fun b hb => b5.block b (by have := HP1.out; omega)))
                    have HB5 := Lib.hid (HBEL.out.trans b5)
                    have HP5 := Lib.hid P5
                    have d1 := P5.cell 1 _ rfl
                    have f1 := P5.free 1
                    clear b5 P5 PX UX ST
                    go_upto_region 13 with (fail)
                    obtain ⟨w6, hw6⟩ : ∃ w6, w6 = w5.setCell ⟨p, 1, none⟩ (.string c) := ⟨_, rfl⟩
                    have U6 : Hid (RowU 47 10 ok p w (out.map Inl.d) rows (.slice av m cv) w6) := by
                      show RowU _ _ _ _ _ _ _ _ _
                      rw [hw6]; exact U5.out.set (Nat.le_refl _) 1 _
                    have P6 : PB p [.int .i64 kd, .string c, .string d, .string ti, .string at_.id, .slice ac nc cc, .slice ap np cp, .slice aa na ca, .slice ai ni ci', .slice ak nk ck] w6 := by rw [hw6]; exact HP5.out.set 1 _
                    have IN6 : Hid (InR ok w6 at_ ar ci ks (.slice ac nc cc) (.slice ap np cp) (.slice aa na ca) (.slice ai ni ci') (.slice ak nk ck)) := by
                      refine inR_keep HIN.out (fun b hb hlt => ⟨hb, ?_⟩)
                      rw [hw6, Below.heap_setCell w5 ⟨p, 1, none⟩ _ b (by show b ≠ p; have := HBP.out b hb; omega)]
                      exact HB5.out.block b (by have := HP1.out; have := HBP.out b hb; omega)
                    rw [← hw6]
                    obtain ⟨e0, e1, e2, e3, e4, e5, e6, e7, e8, e9, ef⟩ := P6.all
                    have HX6 := Lib.hid (show (joinK q (l.take j)).map Inl.d = out.map Inl.d ++ [(Inl.mk kd c d ti at_ ar ci ks).d] by rw [HJN.out, List.map_append]; rfl)
                    clear hw6 P6 U5 HP5 HB5 f1 d1
                    go_wp2_with (at_builtin; refine wpList_put rfl _ _ 38 rfl iI _ 192 Tryz.underlying38 hiI hzI0 hzI1 hzI2 rfl (by decide) U6.out HB.out (Inl.mk kd c d ti at_ ar ci ks).d [.int .i64 kd, .string c, .string d, .string ti, .string at_.id, .slice ac nc cc, .slice ap np cp, .slice aa na ca, .slice ai ni ci', .slice ak nk ck] ((Inl.mk_ kd c d ti IN6.out).weaken (fun b hb => .inl hb)) rfl one_ten HDN.out hdl (by decide) rfl rfl ?_)
                    intro a' c' w7 hrow hg7
                    have HROW := Lib.hid hrow
                    rw [← HX6.out] at HROW
                    clear hrow hg7
                    go_wp2
                    go_roundw
                    case rel => exact ⟨j, _, hj, by go_num, HROW.out, ED.out⟩
                    case measure => simp [intOf]; omega
                · have q2 : decide ((j : Int) < (l.length : Int)) = false := by simp; omega
                  have q2' : decide (j < l.length) = false := by simp; omega
                  have ED : Hid (EdgeK q l (joinK q (l.take j)) j) := fun z hz _ => by rw [List.getElem?_eq_none (by omega)] at hz; cases hz
                  go_wp2_with fail
                  (with_reducible refine ST.out.mono ?_)
                  rintro e w5 ⟨rfl, -, b5⟩
                  have P5 := (b5.block p (by have := HP1.out; omega)).trans PX.out
                  have P5 : PB p [.int .i64 kd, .string t, .string d, .string ti, .string at_.id, .slice ac nc cc, .slice ap np cp, .slice aa na ca, .slice ai ni ci', .slice ak nk ck] w5 := P5
                  have U5 := Lib.hid (UX.out.same (show wr.heap.size ≤ w5.heap.size from b5.size) ⟨b5.os, b5.tape, b5.output⟩ (fun b hb => b5.block b (by have := HP1.out; omega)))
                  have HB5 := Lib.hid (HBEL.out.trans b5)
                  have HP5 := Lib.hid P5
                  have d1 := P5.cell 1 _ rfl
                  have f1 := P5.free 1
                  clear b5 P5 PX UX ST
                  go_upto_region 13 with (fail)
                  obtain ⟨w6, hw6⟩ : ∃ w6, w6 = w5.setCell ⟨p, 1, none⟩ (.string c) := ⟨_, rfl⟩
                  have U6 : Hid (RowU 47 10 ok p w (out.map Inl.d) rows (.slice av m cv) w6) := by
                    show RowU _ _ _ _ _ _ _ _ _
                    rw [hw6]; exact U5.out.set (Nat.le_refl _) 1 _
                  have P6 : PB p [.int .i64 kd, .string c, .string d, .string ti, .string at_.id, .slice ac nc cc, .slice ap np cp, .slice aa na ca, .slice ai ni ci', .slice ak nk ck] w6 := by rw [hw6]; exact HP5.out.set 1 _
                  have IN6 : Hid (InR ok w6 at_ ar ci ks (.slice ac nc cc) (.slice ap np cp) (.slice aa na ca) (.slice ai ni ci') (.slice ak nk ck)) := by
                    refine inR_keep HIN.out (fun b hb hlt => ⟨hb, ?_⟩)
                    rw [hw6, Below.heap_setCell w5 ⟨p, 1, none⟩ _ b (by show b ≠ p; have := HBP.out b hb; omega)]
                    exact HB5.out.block b (by have := HP1.out; have := HBP.out b hb; omega)
                  rw [← hw6]
                  obtain ⟨e0, e1, e2, e3, e4, e5, e6, e7, e8, e9, ef⟩ := P6.all
                  have HX6 := Lib.hid (show (joinK q (l.take j)).map Inl.d = out.map Inl.d ++ [(Inl.mk kd c d ti at_ ar ci ks).d] by rw [HJN.out, List.map_append]; rfl)
                  clear hw6 P6 U5 HP5 HB5 f1 d1
                  go_wp2_with (at_builtin; refine wpList_put rfl _ _ 38 rfl iI _ 192 Tryz.underlying38 hiI hzI0 hzI1 hzI2 rfl (by decide) U6.out HB.out (Inl.mk kd c d ti at_ ar ci ks).d [.int .i64 kd, .string c, .string d, .string ti, .string at_.id, .slice ac nc cc, .slice ap np cp, .slice aa na ca, .slice ai ni ci', .slice ak nk ck] ((Inl.mk_ kd c d ti IN6.out).weaken (fun b hb => .inl hb)) rfl one_ten HDN.out hdl (by decide) rfl rfl ?_)
                  intro a' c' w7 hrow hg7
                  have HROW := Lib.hid hrow
                  rw [← HX6.out] at HROW
                  clear hrow hg7
                  go_wp2
                  go_roundw
                  case rel => exact ⟨j, _, hj, by go_num, HROW.out, ED.out⟩
                  case measure => simp [intOf]; omega
            · have q3 : (nk2 == q) = false := by rw [beq_eq_false_iff_ne]; exact hq2
              have ED : Hid (EdgeK q l (out ++ [Inl.mk kd t d ti at_ ar ci ks]) (k + 1)) := EdgeK.next (.inr fun y hy => by rw [HYQ.out y hy]; exact hq2)
              clear hq2 hq HYQ
              go_wp2_with (at_builtin; refine wpList_put rfl _ _ 38 rfl iI _ 192 Tryz.underlying38 hiI hzI0 hzI1 hzI2 rfl (by decide) UA.out HB.out (Inl.mk kd t d ti at_ ar ci ks).d [.int .i64 kd, .string t, .string d, .string ti, .string at_.id, .slice ac nc cc, .slice ap np cp, .slice aa na ca, .slice ai ni ci', .slice ak nk ck] ((Inl.mk_ kd t d ti HIN.out).weaken (fun b hb => .inl hb)) rfl one_ten HDN.out hdl (by decide) rfl rfl ?_)
              intro a' c' w5 hrow hg5
              have HROW := Lib.hid hrow
              rw [← HX2.out] at HROW
              clear hrow hg5
              go_wp2
              go_roundw
              case rel => exact ⟨k + 1, _, by omega, by go_num, HROW.out, HSN.out ▸ ED.out⟩
              case measure => simp [intOf]; omega
          · have q2 : decide ((k : Int) + 1 < (l.length : Int)) = false := by simp; omega
            have q2' : decide (k + 1 < l.length) = false := by simp; omega
            have ED : Hid (EdgeK q l (out ++ [Inl.mk kd t d ti at_ ar ci ks]) (k + 1)) := EdgeK.next (.inr fun y hy => by rw [List.getElem?_eq_none (by omega)] at hy; cases hy)
            clear hq NX
            go_wp2_with (at_builtin; refine wpList_put rfl _ _ 38 rfl iI _ 192 Tryz.underlying38 hiI hzI0 hzI1 hzI2 rfl (by decide) UA.out HB.out (Inl.mk kd t d ti at_ ar ci ks).d [.int .i64 kd, .string t, .string d, .string ti, .string at_.id, .slice ac nc cc, .slice ap np cp, .slice aa na ca, .slice ai ni ci', .slice ak nk ck] ((Inl.mk_ kd t d ti HIN.out).weaken (fun b hb => .inl hb)) rfl one_ten HDN.out hdl (by decide) rfl rfl ?_)
            intro a' c' w5 hrow hg5
            have HROW := Lib.hid hrow
            rw [← HX2.out] at HROW
            clear hrow hg5
            go_wp2
            go_roundw
            case rel => exact ⟨k + 1, _, by omega, by go_num, HROW.out, HSN.out ▸ ED.out⟩
            case measure => simp [intOf]; omega
        · have q1 : (kd == q) = false := by rw [beq_eq_false_iff_ne]; exact hq
          have ED : Hid (EdgeK q l (out ++ [Inl.mk kd t d ti at_ ar ci ks]) (k + 1)) := EdgeK.next (.inl hq)
          clear hq NX
          go_wp2_with (at_builtin; refine wpList_put rfl _ _ 38 rfl iI _ 192 Tryz.underlying38 hiI hzI0 hzI1 hzI2 rfl (by decide) UA.out HB.out (Inl.mk kd t d ti at_ ar ci ks).d [.int .i64 kd, .string t, .string d, .string ti, .string at_.id, .slice ac nc cc, .slice ap np cp, .slice aa na ca, .slice ai ni ci', .slice ak nk ck] ((Inl.mk_ kd t d ti HIN.out).weaken (fun b hb => .inl hb)) rfl one_ten HDN.out hdl (by decide) rfl rfl ?_)
          intro a' c' w5 hrow hg5
          have HROW := Lib.hid hrow
          rw [← HX2.out] at HROW
          clear hrow hg5
          go_wp2
          go_roundw
          case rel => exact ⟨k + 1, _, by omega, by go_num, HROW.out, HSN.out ▸ ED.out⟩
          case measure => simp [intOf]; omega
      · have hkl : k = l.length := by omega
        subst hkl
        rw [HOUT.out, List.take_length] at HROW
        go_wp2
        go_ret
        exact ⟨_, rfl, HROW.out.rd, hbel⟩
theorem join_toc (q : Int) (l : List Inl) (ok : Nat → Prop) (v : Value) (w : World) (hn : l.length ≤ 1000000) (ht : ttop l ≤ 100000000000) (hrd : Rd ok w (inlsD l) [v]) :
    Calls Tryz.prog 63 #[v, .int .i64 q] w (FuPost ok w (joinK q l)) :=
  (join_toc0 q l _ v w hn ht hrd.inside (fun _ h => h.2)).mono fun _ _ h => h.inside
end Go.Proofs.YtlbioncagkkkoaaGreatDoor
