/- Contract of publisherref22.numbered. Plain part: the values of numbers are short. -/
import Derived.Test.YtlbioncagkkkoaaGreatDoorKRtM
import Derived.Test.YtlbioncagkkkoaaGreatDoorKRgX
import Derived.Deep.AppendLies
import Derived.Deep.CutBlock
import Derived.Test.YtlbioncagkkkoaaGreatDoorKEnW
namespace Go.Proofs.YtlbioncagkkkoaaGreatDoor
open Go.RowKit
set_option linter.unusedVariables false
set_option linter.unusedSimpArgs false

mutual
theorem Blk.num_nsb : ∀ (x : Blk) (free : Bool) (s : Ns) (M : Nat), NsB s M 0 → NsB (x.num free s) (M + x.sz) 0
  | .mk k lv i t d ti a li ks, free, s, M, h => by
    rw [Blk.num, Blk.sz]
    have h1 := NsB.one h (nn2 := 0) (by omega) free k lv i a li ks
    have h2 := Blk.numL_nsb ks (free && decide (k = 13)) _ _ h1
    exact h2.mono (by omega)
theorem Blk.numL_nsb : ∀ (l : List Blk) (free : Bool) (s : Ns) (M : Nat), NsB s M 0 → NsB (Blk.numL free s l) (M + Blk.szL l) 0
  | [], _, s, M, h => by rw [Blk.numL]; exact h.mono (by omega)
  | x :: l, free, s, M, h => by
    rw [Blk.numL, Blk.szL]
    have h1 := Blk.num_nsb x free s M h
    have h2 := Blk.numL_nsb l free _ _ h1
    exact h2.mono (by omega)
end
def twl (w : World) (g : Nat) (c0 c1 c2 c3 c4 c5 c6 c7 c8 c9 c10 c11 : Value) : World := (((((sev w g 0 c0 c1 c2 c3 c4 c5 c6).setCell ⟨g, 7, none⟩ c7).setCell ⟨g, 8, none⟩ c8).setCell ⟨g, 9, none⟩ c9).setCell ⟨g, 10, none⟩ c10).setCell ⟨g, 11, none⟩ c11
theorem sev_grown (w : World) (g : Nat) (c0 c1 c2 c3 c4 c5 c6 : Value) : w.grownBy (sev w g 0 c0 c1 c2 c3 c4 c5 c6) (some g) :=
  grown_trans (grown_trans (grown_trans (grown_trans (grown_trans (grown_trans (grown_setc _ _ _ _) (grown_setc _ _ _ _)) (grown_setc _ _ _ _)) (grown_setc _ _ _ _)) (grown_setc _ _ _ _)) (grown_setc _ _ _ _)) (grown_setc _ _ _ _)
theorem twl_grown (w : World) (g : Nat) (c0 c1 c2 c3 c4 c5 c6 c7 c8 c9 c10 c11 : Value) : w.grownBy (twl w g c0 c1 c2 c3 c4 c5 c6 c7 c8 c9 c10 c11) (some g) :=
  grown_trans (grown_trans (grown_trans (grown_trans (grown_trans (sev_grown _ _ _ _ _ _ _ _ _) (grown_setc _ _ _ _)) (grown_setc _ _ _ _)) (grown_setc _ _ _ _)) (grown_setc _ _ _ _)) (grown_setc _ _ _ _)
theorem sev_cb {T : TypeId} {g : Nat} {w : World} {b0 b1 b2 b3 b4 b5 b6 : Value} {cs : List Value} (h : CB T g (b0 :: b1 :: b2 :: b3 :: b4 :: b5 :: b6 :: cs) w) (c0 c1 c2 c3 c4 c5 c6 : Value) : CB T g (c0 :: c1 :: c2 :: c3 :: c4 :: c5 :: c6 :: cs) (sev w g 0 c0 c1 c2 c3 c4 c5 c6) :=
  cb_set (cb_set (cb_set (cb_set (cb_set (cb_set (cb_set h 0 _) 1 _) 2 _) 3 _) 4 _) 5 _) 6 _
theorem twl_cb {T : TypeId} {g : Nat} {w : World} {b0 b1 b2 b3 b4 b5 b6 b7 b8 b9 b10 b11 : Value} (h : CB T g [b0, b1, b2, b3, b4, b5, b6, b7, b8, b9, b10, b11] w) (c0 c1 c2 c3 c4 c5 c6 c7 c8 c9 c10 c11 : Value) : CB T g [c0, c1, c2, c3, c4, c5, c6, c7, c8, c9, c10, c11] (twl w g c0 c1 c2 c3 c4 c5 c6 c7 c8 c9 c10 c11) :=
  cb_set (cb_set (cb_set (cb_set (cb_set (sev_cb h c0 c1 c2 c3 c4 c5 c6) 7 _) 8 _) 9 _) 10 _) 11 _
theorem cb_twelve {T : TypeId} {p : Nat} {w : World} {c0 c1 c2 c3 c4 c5 c6 c7 c8 c9 c10 c11 : Value} (h : CB T p [c0, c1, c2, c3, c4, c5, c6, c7, c8, c9, c10, c11] w) :
    w.cell? ⟨p, 0, none⟩ = some c0 ∧ w.cell? ⟨p, 1, none⟩ = some c1 ∧ w.cell? ⟨p, 2, none⟩ = some c2 ∧ w.cell? ⟨p, 3, none⟩ = some c3 ∧ w.cell? ⟨p, 4, none⟩ = some c4 ∧ w.cell? ⟨p, 5, none⟩ = some c5 ∧ w.cell? ⟨p, 6, none⟩ = some c6 ∧ w.cell? ⟨p, 7, none⟩ = some c7 ∧ w.cell? ⟨p, 8, none⟩ = some c8 ∧ w.cell? ⟨p, 9, none⟩ = some c9 ∧ w.cell? ⟨p, 10, none⟩ = some c10 ∧ w.cell? ⟨p, 11, none⟩ = some c11 ∧ ∀ j, w.frozen? ⟨p, j, none⟩ = false :=
  ⟨h.cell 0 _ rfl, h.cell 1 _ rfl, h.cell 2 _ rfl, h.cell 3 _ rfl, h.cell 4 _ rfl, h.cell 5 _ rfl, h.cell 6 _ rfl, h.cell 7 _ rfl, h.cell 8 _ rfl, h.cell 9 _ rfl, h.cell 10 _ rfl, h.cell 11 _ rfl, cb_free h⟩
theorem NdB.belB {T : TypeId} {B S : Nat} {w0 w : World} {v0 : Value} {s : Ns} {v : Value} {rows : List (List Value)} {wx : World} (h : NdB T B S w0 w v0 s v rows wx) (hS : B ≤ w.heap.size) (hV : ∀ g, v0.ownBlock = some g → B ≤ g) : Below B w wx :=
  ⟨h.gr.os, h.gr.tape, h.gr.output, h.gr.size, fun b hb => h.gr.block b (by omega) (fun e => by have := hV b e.symm; omega)⟩
/-- Behind the numbers of the Kids. -/
theorem NdB.back {T : TypeId} {B S : Nat} {w0 w : World} {v0 : Value} {s s2 : Ns} {v v2 : Value} {rows rows2 : List (List Value)} {wx w8 w9 : World} (h : NdB T B S w0 w v0 s v rows wx) (hS : S = w.heap.size) (hB : B ≤ S) (h0 : w0.heap.size ≤ S) (hrow : Row 49 4 B w0 (s2.out.map Nm.d) rows2 v2 w8)
    (hg : wx.grownBy w8 v.ownBlock) (hat : v2.ownBlock = v.ownBlock ∨ ∀ g, v2.ownBlock = some g → wx.heap.size ≤ g) (hg9 : w8.grownBy w9 (some S)) {c0 c1 c2 c3 c4 c5 : Nat} (hc : s2.c = [c0, c1, c2, c3, c4, c5]) (hx : CB T S (ndC c0 c1 c2 c3 c4 c5 s2.f s2.t s2.e v2) w9) : NdB T B S w0 w v0 s2 v2 rows2 w9 := by
  have hr := h.r.lt
  have hwz := h.gr.size
  have hn1 : v2.ownBlock ≠ some S := by
    rcases hat with e | e
    · rw [e]; exact h.n1
    · intro e2; have := e _ e2; omega
  have hn2 : v2.ownBlock ≠ some (S + 1) := by
    rcases hat with e | e
    · rw [e]; exact h.n2
    · intro e2; have := e _ e2; omega
  have hg8 : w.grownBy w8 v0.ownBlock := by
    rcases h.at_ with e | e
    · rw [e] at hg; exact grown_trans h.gr hg
    · exact grown_new h.gr hg (fun g hh => by have := e g hh; omega)
  refine ⟨⟨c0, c1, c2, c3, c4, c5, hc, hx⟩, cb_grown (cb_grown h.r hg (fun e => h.n2 e.symm)) hg9 (fun e => by have := Option.some.inj e; omega), hrow.hop hg9 hn1 hB h0, grown_new hg8 hg9 (fun g e => by have := Option.some.inj e; omega), ?_, hn1, hn2⟩
  rcases hat with e | e
  · rcases h.at_ with e2 | e2
    · exact .inl (e.trans e2)
    · exact .inr (fun g hh => e2 g (by rw [← e]; exact hh))
  · exact .inr (fun g hh => by have := e g hh; omega)
def NdRel (B : Nat) (w0 w : World) (free : Bool) (s : Ns) (v0 : Value) (l : List Blk) (vi : Value) (wr : World) : Prop :=
  ∃ (k : Nat) (v : Value) (rows : List (List Value)), k ≤ l.length ∧ vi = .int .i64 k ∧ NdB 103 B w.heap.size w0 w v0 (Blk.numL free s (l.take k)) v rows wr
/-- In a round: besides, the block's box p. -/
def NdR (B : Nat) (w0 w : World) (v0 : Value) (s : Ns) (p : Nat) (cs : List Value) (wx : World) : Prop := ∃ (v : Value) (rows : List (List Value)), NdB 103 B w.heap.size w0 w v0 s v rows wx ∧ CB 53 p cs wx ∧ v.ownBlock ≠ some p
/-- Behind a section. -/
def numA (free : Bool) (s : Ns) (k lv : Int) (a : At) (li : List Inl) : Ns := if k = 2 ∧ free = true then { s with c := cntUp s.c (lvlOf lv), out := s.out ++ [⟨a.id, secS, valS (cntUp s.c (lvlOf lv)) (lvlOf lv), li⟩] } else s
theorem num_split (free : Bool) (s : Ns) (k lv : Int) (i : ByteArray) (a : At) (li : List Inl) (ks : List Blk) : numOne free s k lv i a li ks =
    if k = 13 ∧ i = figS then { numA free s k lv a li with f := (numA free s k lv a li).f + 1, out := (numA free s k lv a li).out ++ [⟨a.id, figS, decS ((numA free s k lv a li).f + 1), oneLn k ks⟩] }
    else if k = 13 ∧ i = tabS then { numA free s k lv a li with t := (numA free s k lv a li).t + 1, out := (numA free s k lv a li).out ++ [⟨a.id, tabS, decS ((numA free s k lv a li).t + 1), oneLn k ks⟩] }
    else if k = 4 ∧ a.id.data.toList ≠ [] then { numA free s k lv a li with e := (numA free s k lv a li).e + 1, out := (numA free s k lv a li).out ++ [⟨a.id, equS, decS ((numA free s k lv a li).e + 1), oneLn k ks⟩] }
    else numA free s k lv a li := by
  unfold numOne numA oneLn
  by_cases h1 : k = 2 ∧ free = true
  · have n13 : ¬ k = 13 := by have := h1.1; omega
    have n4 : ¬ k = 4 := by have := h1.1; omega
    rw [if_pos h1, if_neg (fun h => n13 h.1), if_neg (fun h => n13 h.1), if_neg (fun h => n4 h.1), if_pos h1]
  · rw [if_neg h1, if_neg h1]
    by_cases h2 : k = 13 ∧ i = figS
    · rw [if_pos h2, if_pos h2, if_pos h2.1]
    · rw [if_neg h2, if_neg h2]
      by_cases h3 : k = 13 ∧ i = tabS
      · rw [if_pos h3, if_pos h3, if_pos h3.1]
      · rw [if_neg h3, if_neg h3]
        by_cases h4 : k = 4 ∧ a.id.data.toList ≠ []
        · rw [if_pos h4, if_pos h4, if_neg (by have := h4.1; omega)]
        · rw [if_neg h4, if_neg h4]
theorem sec_mk {T T2 : TypeId} {S p : Nat} {w : World} {d0 d1 d2 d3 d4 d5 f t e : Nat} {v : Value} {k lv : Int} {i t' d ti id : ByteArray} {ac ap al ak : Option Addr} {nc cc np cp nl cl nk ck : Nat} (h : CB T S (ndC d0 d1 d2 d3 d4 d5 f t e v) w) (h2 : CB T2 p [.int .i64 k, .int .i64 lv, .string i, .string t', .string d, .string ti, .string id, .slice ac nc cc, .slice ap np cp, .slice al nl cl, .slice ak nk ck] w) :
    w.cell? ⟨S, 11, none⟩ = some v ∧ w.cell? ⟨S, 0, none⟩ = some (.int .i64 0) ∧ w.cell? ⟨S, 1, none⟩ = some (.int .i64 (d0 : Int)) ∧ w.cell? ⟨S, 2, none⟩ = some (.int .i64 (d1 : Int)) ∧ w.cell? ⟨S, 3, none⟩ = some (.int .i64 (d2 : Int)) ∧ w.cell? ⟨S, 4, none⟩ = some (.int .i64 (d3 : Int)) ∧ w.cell? ⟨S, 5, none⟩ = some (.int .i64 (d4 : Int)) ∧ w.cell? ⟨S, 6, none⟩ = some (.int .i64 (d5 : Int)) ∧ w.cell? ⟨p, 6, none⟩ = some (.string id) ∧ w.cell? ⟨p, 9, none⟩ = some (.slice al nl cl) :=
  ⟨h.cell 11 _ rfl, h.cell 0 _ rfl, h.cell 1 _ rfl, h.cell 2 _ rfl, h.cell 3 _ rfl, h.cell 4 _ rfl, h.cell 5 _ rfl, h.cell 6 _ rfl, h2.cell 6 _ rfl, h2.cell 9 _ rfl⟩
theorem one_four {id kd val : ByteArray} {a : Option Addr} {n c : Nat} : ∀ u ∈ ([.string id, .string kd, .string val, .slice a n c] : List Value), u.oneCell' = true := by
  intro u hu
  simp at hu
  rcases hu with rfl | rfl | rfl | rfl <;> rfl

def numK (K : Nat) (s : Ns) (k : Int) (id : ByteArray) (ks : List Blk) : Ns :=
  if K = 1 then { s with f := s.f + 1, out := s.out ++ [⟨id, figS, decS (s.f + 1), oneLn k ks⟩] }
  else if K = 2 then { s with t := s.t + 1, out := s.out ++ [⟨id, tabS, decS (s.t + 1), oneLn k ks⟩] }
  else if K = 3 then { s with e := s.e + 1, out := s.out ++ [⟨id, equS, decS (s.e + 1), oneLn k ks⟩] }
  else s
theorem num_kind (free : Bool) (s : Ns) (k lv : Int) (i : ByteArray) (a : At) (li : List Inl) (ks : List Blk) : numOne free s k lv i a li ks = numK (kindN k i a.id) (numA free s k lv a li) k a.id ks := by
  rw [num_split]
  generalize numA free s k lv a li = sA
  unfold numK kindN
  by_cases h1 : k = 13 ∧ i = figS
  · rw [if_pos h1, if_pos h1]; rfl
  · rw [if_neg h1, if_neg h1]
    by_cases h2 : k = 13 ∧ i = tabS
    · rw [if_pos h2, if_pos h2]; rfl
    · rw [if_neg h2, if_neg h2]
      by_cases h3 : k = 4 ∧ a.id.data.toList ≠ []
      · rw [if_pos h3, if_pos h3]; rfl
      · rw [if_neg h3, if_neg h3]; rfl
theorem kindN_le (k : Int) (i id : ByteArray) : kindN k i id = 0 ∨ kindN k i id = 1 ∨ kindN k i id = 2 ∨ kindN k i id = 3 := by
  unfold kindN
  split
  · simp
  · split
    · simp
    · split <;> simp
theorem six_kinds {T : TypeId} {p : Nat} {w : World} {k lv : Int} {i t' d ti id : ByteArray} {ac ap al ak : Option Addr} {nc cc np cp nl cl nk ck : Nat} (h2 : CB T p [.int .i64 k, .int .i64 lv, .string i, .string t', .string d, .string ti, .string id, .slice ac nc cc, .slice ap np cp, .slice al nl cl, .slice ak nk ck] w) :
    w.cell? ⟨p, 0, none⟩ = some (.int .i64 k) ∧ w.cell? ⟨p, 1, none⟩ = some (.int .i64 lv) ∧ w.cell? ⟨p, 2, none⟩ = some (.string i) ∧ w.cell? ⟨p, 3, none⟩ = some (.string t') ∧ w.cell? ⟨p, 4, none⟩ = some (.string d) ∧ w.cell? ⟨p, 5, none⟩ = some (.string ti) ∧ w.cell? ⟨p, 6, none⟩ = some (.string id) ∧ w.cell? ⟨p, 7, none⟩ = some (.slice ac nc cc) ∧ w.cell? ⟨p, 8, none⟩ = some (.slice ap np cp) ∧ w.cell? ⟨p, 9, none⟩ = some (.slice al nl cl) ∧ w.cell? ⟨p, 10, none⟩ = some (.slice ak nk ck) :=
  ⟨h2.cell 0 _ rfl, h2.cell 1 _ rfl, h2.cell 2 _ rfl, h2.cell 3 _ rfl, h2.cell 4 _ rfl, h2.cell 5 _ rfl, h2.cell 6 _ rfl, h2.cell 7 _ rfl, h2.cell 8 _ rfl, h2.cell 9 _ rfl, h2.cell 10 _ rfl⟩
theorem sec_kd {T2 : TypeId} {S p j : Nat} {u u2 : Value} {w : World} {k lv : Int} {i t' d ti id : ByteArray} {ac ap al ak : Option Addr} {nc cc np cp nl cl nk ck : Nat} (h0 : w.cell? ⟨S, 11, none⟩ = some u2) (h : w.cell? ⟨S, j, none⟩ = some u) (h2 : CB T2 p [.int .i64 k, .int .i64 lv, .string i, .string t', .string d, .string ti, .string id, .slice ac nc cc, .slice ap np cp, .slice al nl cl, .slice ak nk ck] w) :
    w.cell? ⟨S, 11, none⟩ = some u2 ∧ w.cell? ⟨S, j, none⟩ = some u ∧ w.cell? ⟨p, 0, none⟩ = some (.int .i64 k) ∧ w.cell? ⟨p, 1, none⟩ = some (.int .i64 lv) ∧ w.cell? ⟨p, 2, none⟩ = some (.string i) ∧ w.cell? ⟨p, 3, none⟩ = some (.string t') ∧ w.cell? ⟨p, 4, none⟩ = some (.string d) ∧ w.cell? ⟨p, 5, none⟩ = some (.string ti) ∧ w.cell? ⟨p, 6, none⟩ = some (.string id) ∧ w.cell? ⟨p, 7, none⟩ = some (.slice ac nc cc) ∧ w.cell? ⟨p, 8, none⟩ = some (.slice ap np cp) ∧ w.cell? ⟨p, 9, none⟩ = some (.slice al nl cl) ∧ w.cell? ⟨p, 10, none⟩ = some (.slice ak nk ck) :=
  ⟨h0, h, six_kinds h2⟩

set_option maxRecDepth 100000 in
set_option maxHeartbeats 16000000 in
theorem numbered_any (n : Nat) : ∀ (l : List Blk) (free : Bool) (s : Ns) (M B : Nat) (vl v : Value) (rows : List (List Value)) (w0 w : World) (c0 c1 c2 c3 c4 c5 : Nat), Blk.szL l ≤ n → Rd (· < B) w (blksD l) [vl] → B ≤ w0.heap.size → s.c = [c0, c1, c2, c3, c4, c5] → NsB s M 0 → M + Blk.szL l ≤ 800000 → Row 49 4 B w0 (s.out.map Nm.d) rows v w →
    Calls Tryz.prog 65 #[vl, .bool free, .agg #[.int .i64 0, .int .i64 (c0 : Int), .int .i64 (c1 : Int), .int .i64 (c2 : Int), .int .i64 (c3 : Int), .int .i64 (c4 : Int), .int .i64 (c5 : Int), .int .i64 0, .int .i64 (s.f : Int), .int .i64 (s.t : Int), .int .i64 (s.e : Int), v]] w (NdPost B w0 (Blk.numL free s l) v w) := by
  induction n using Nat.strongRecOn with
  | _ n ih =>
    intro l free s M B vl v rows w0 w c0 c1 c2 c3 c4 c5 hn hrd hB hc hnb hM hrow
    obtain ⟨iN, hiN, hzN0, hzN1, hzN2⟩ := info_parts infoNu
    obtain ⟨a, cap, hv, hs⟩ := Rd.sl_open hrd
    obtain rfl : vl = .slice a l.length cap := by simpa using hv
    have hcap : l.length ≤ cap := by simpa using hs.le
    have hll := Blk.len_le l
    have hmx := hs.max
    unfold maxLen at hmx
    obtain ⟨av, cv, rfl⟩ := own_slice hrow.own
    obtain ⟨no, hno⟩ : ∃ no, no = (s.out.map Nm.d).length := ⟨_, rfl⟩
    rw [← hno]
    rw [← hno] at hrow
    have HNO := Lib.hid hno
    have HV0 : Hid (∀ g, (Value.slice av no cv).ownBlock = some g → w0.heap.size ≤ g ∧ g < w.heap.size) := fun g e => by
      have := hrow.own
      rw [← hno] at this
      exact this.lt g e
    have hw0 := hrow.bel.size
    obtain ⟨S, hS⟩ : ∃ S, S = w.heap.size := ⟨_, rfl⟩
    obtain ⟨w1, hw1⟩ : ∃ w1, w1 = (w.alloc (.cells #[.int .i64 0, .int .i64 (c0 : Int), .int .i64 (c1 : Int), .int .i64 (c2 : Int), .int .i64 (c3 : Int), .int .i64 (c4 : Int), .int .i64 (c5 : Int), .int .i64 0, .int .i64 (s.f : Int), .int .i64 (s.t : Int), .int .i64 (s.e : Int), .slice av no cv] 103)).alloc (.cells #[.int .i64 0, .int .i64 0, .int .i64 0, .int .i64 0, .int .i64 0, .int .i64 0, .int .i64 0, .int .i64 0, .int .i64 0, .int .i64 0, .int .i64 0, .slice none 0 0] 103) := ⟨_, rfl⟩
    have N1 : NdB 103 B w.heap.size w0 w (.slice av no cv) s (.slice av no cv) rows w1 := by
      refine ⟨⟨c0, c1, c2, c3, c4, c5, hc, ?_⟩, ?_, ?_, ?_, .inl rfl, fun e => ?_, fun e => ?_⟩
      · rw [hw1]; exact cb_grown (CB.new _ _ w) (World.grownBy_alloc _ _ none) (by simp)
      · have := CB.new 103 z12 (w.alloc (.cells #[.int .i64 0, .int .i64 (c0 : Int), .int .i64 (c1 : Int), .int .i64 (c2 : Int), .int .i64 (c3 : Int), .int .i64 (c4 : Int), .int .i64 (c5 : Int), .int .i64 0, .int .i64 (s.f : Int), .int .i64 (s.t : Int), .int .i64 (s.e : Int), .slice av no cv] 103))
        rw [World.size_alloc] at this
        rw [hw1]; exact this
      · rw [hw1]; exact (hrow.grown (World.grownBy_alloc _ _ none)).grown (World.grownBy_alloc _ _ none)
      · rw [hw1]; exact grown_any (grown_trans (World.grownBy_alloc w _ none) (World.grownBy_alloc _ _ none)) _
      · have := HV0.out _ e; omega
      · have := HV0.out _ e; omega
    have R0 : Hid (NdRel B w0 w free s (.slice av no cv) l (.int .i64 0) w1) := ⟨0, _, rows, Nat.zero_le _, rfl, by rw [List.take_zero, Blk.numL]; exact N1⟩
    have HS := Lib.hid hs
    have HRD := Lib.hid hrd
    have IH := Lib.hid ih
    have HNB := Lib.hid hnb
    have HW1 := Lib.hid hw1
    have HSS := Lib.hid hS
    clear hs hv hrd ih hnb hrow hno hc N1 hw1 hS
    obtain ⟨sc, f, t_, e_, out⟩ := s
    dsimp only at *
    go_enter Tryz.func65, Tryz.ntmps65
    go_upto_region 1 with (fail)
    rw [← HW1.out, ← HSS.out]
    clear HW1
    go_wp2
    go_loopw [7] (fun vi wr => NdRel B w0 w free ⟨sc, f, t_, e_, out⟩ (.slice av no cv) l vi wr) (fun i _ => l.length - (intOf i).toNat)
    case atStart => exact R0.out
    case round =>
      clear R0
      obtain ⟨k, v', rows', hk, rfl, hnd⟩ := hrel
      rw [← HSS.out] at hnd
      have hBS : B ≤ S := by have := HSS.out; omega
      have h0S : w0.heap.size ≤ S := by have := HSS.out; omega
      have HND := Lib.hid hnd
      have hsz := hnd.sz HSS.out
      by_cases hlt : k < l.length
      · obtain ⟨x, hx⟩ : ∃ x, l[k]? = some x := ⟨_, List.getElem?_eq_getElem hlt⟩
        have HSN := Lib.hid (Blk.numL_snoc free l k x ⟨sc, f, t_, e_, out⟩ hx)
        have hszx := szL_snoc l k x hx
        have hszl := szL_take_le l (k + 1)
        have hszk := Blk.szL_get l k x hx
        have hnb2 := Blk.numL_nsb (l.take k) free _ M HNB.out
        obtain ⟨s', hs'⟩ : ∃ s', s' = Blk.numL free ⟨sc, f, t_, e_, out⟩ (l.take k) := ⟨_, rfl⟩
        rw [← hs'] at hnd hnb2
        have HSP := Lib.hid hs'
        obtain ⟨kd, lv, i, t, d, ti, at_, li, ks⟩ := x
        rw [Blk.sz] at hszx hszk
        have bB := hnd.belB (by omega) (fun g e => by have := HV0.out g e; omega)
        obtain ⟨g, off, vc, vp, vl, vk, rfl, hok, hbl, hc, hR⟩ := blks_at HS.out hx
        obtain ⟨al, nl, cl, rfl⟩ := Rd.slf hR.line
        obtain ⟨ac, nc, cc, rfl⟩ := Rd.slf hR.at_.cls
        obtain ⟨ap, np, cp, rfl⟩ := Rd.slf hR.at_.prs
        obtain ⟨ak, nk, ck, rfl⟩ := Rd.slf hR.kids
        obtain ⟨q0, q1, q2, q3, q4, q5, q6, q7, q8, q9, q10⟩ := hc.at4 (w' := wr) (bB.block g hok)
        obtain ⟨p, hp⟩ : ∃ p, p = wr.heap.size := ⟨_, rfl⟩
        obtain ⟨wA, hwA⟩ : ∃ wA, wA = wr.alloc (.cells #[.int .i64 kd, .int .i64 lv, .string i, .string t, .string d, .string ti, .string at_.id, .slice ac nc cc, .slice ap np cp, .slice al nl cl, .slice ak nk ck] 53) := ⟨_, rfl⟩
        have PA : CB 53 p [.int .i64 kd, .int .i64 lv, .string i, .string t, .string d, .string ti, .string at_.id, .slice ac nc cc, .slice ap np cp, .slice al nl cl, .slice ak nk ck] wA := by rw [hwA, hp]; exact CB.new _ _ _
        have NA : NdB 103 B S w0 w (.slice av no cv) s' v' rows' wA := by rw [hwA]; exact hnd.grown (World.grownBy_alloc _ _ none)
        have hSp : S + 1 < p := by omega
        have HVP : Hid (∀ g, v'.ownBlock = some g → g < p) := fun g e => by rw [hp]; exact (hnd.row.own.lt g e).2
        have HR := Lib.hid hR
        have HPA := Lib.hid PA
        have HNA := Lib.hid NA
        have HNB2 := Lib.hid hnb2
        have p0 := PA.cell 0 _ rfl
        obtain ⟨hb, hhb⟩ : ∃ hb, hb = (decide (kd = 2) && free) := ⟨_, rfl⟩
        have HHB := Lib.hid hhb
        clear hx hc hR hok hbl bB hnd hnb2 hs' PA NA hhb
        go_upto_region 5 with (fail)
        rw [← hwA, ← hp]
        clear hwA hp q0 q1 q2 q3 q4 q5 q6 q7 q8 q9 q10
        go_cut [26] (fun v wx => v = .bool hb ∧ wx = wA)
        case first =>
          by_cases h2 : kd = 2
          · subst h2
            cases free
            all_goals
              go_wp2
              go_meet
              exact ⟨by rw [HHB.out]; rfl, rfl⟩
          · have r2 : (kd == 2) = false := beq_eq_false_iff_ne.2 h2
            have HF : Hid (hb = false) := by show _ = _; rw [HHB.out]; simp [h2]
            clear h2
            go_wp2
            go_meet
            exact ⟨by rw [HF.out], rfl⟩
        case rest =>
        obtain ⟨rfl, rfl⟩ := hcut
        obtain ⟨wA, hwA⟩ : ∃ wA : World, wA = wc := ⟨_, rfl⟩
        subst hwA
        go_upto_if 26 with (fail)
        obtain ⟨sA, hsA⟩ : ∃ sA, sA = numA free s' kd lv at_ li := ⟨_, rfl⟩
        have HSA := Lib.hid hsA
        clear hsA
        go_cut [] (fun wx => NdR B w0 w (.slice av no cv) sA p [.int .i64 kd, .int .i64 lv, .string i, .string t, .string d, .string ti, .string at_.id, .slice ac nc cc, .slice ap np cp, .slice al nl cl, .slice ak nk ck] wx)
        case first =>
          cases hb with
          | false =>
            have HE : Hid (sA = s') := by
              show _ = _
              rw [HSA.out]
              unfold numA
              rw [if_neg (fun h => by have := HHB.out; rw [h.1, h.2] at this; cases this)]
            go_wp2
            go_meet
            exact ⟨v', rows', by rw [HE.out, ← HSS.out]; exact HNA.out, HPA.out, fun e => by have := HVP.out p e; omega⟩
          | true =>
            obtain ⟨hk2, hfr⟩ : kd = 2 ∧ free = true := by have := HHB.out; simpa using this.symm
            subst hk2
            have HE : Hid (sA = { s' with c := cntUp s'.c (lvlOf lv), out := s'.out ++ [⟨at_.id, secS, valS (cntUp s'.c (lvlOf lv)) (lvlOf lv), li⟩] }) := by
              show _ = _
              rw [HSA.out]
              unfold numA
              rw [if_pos ⟨rfl, hfr⟩]
            have p1 := HPA.out.cell 1 _ rfl
            obtain ⟨L1, hL1⟩ : ∃ L1 : Int, L1 = if lv < 1 then 1 else lv := ⟨_, rfl⟩
            have HL1 := Lib.hid hL1
            obtain ⟨K, hK⟩ : ∃ K, K = lvlOf lv := ⟨_, rfl⟩
            have hKb := lvl_bd lv
            rw [← hK] at hKb
            obtain ⟨hK1, hK6⟩ := hKb
            have HK : Hid ((K : Int) = if 6 < L1 then 6 else L1) := by
              show _ = _
              rw [hK, hL1]
              unfold lvlOf
              by_cases a1 : lv < 1
              · simp [a1]
              · rw [if_neg a1, if_neg a1]
                by_cases a2 : 6 < lv
                · rw [if_pos a2, if_pos a2]; rfl
                · rw [if_neg a2, if_neg a2]; omega
            rw [← hK] at HE
            clear hL1 hK hfr
            go_upto_if 30 with (fail)
            go_cut [9] (fun v wx => v = .int .i64 L1 ∧ wx = wA)
            case first =>
              by_cases a1 : lv < 1
              · have HF : Hid (L1 = 1) := by show _ = _; rw [HL1.out, if_pos a1]
                clear HL1 HK
                go_wp2
                go_meet
                exact ⟨by rw [HF.out], rfl⟩
              · have HF : Hid (L1 = lv) := by show _ = _; rw [HL1.out, if_neg a1]
                clear HL1 HK
                go_wp2
                go_meet
                exact ⟨by rw [HF.out], rfl⟩
            case rest =>
            obtain ⟨rfl, rfl⟩ := hcut
            obtain ⟨wA, hwA⟩ : ∃ wA : World, wA = wc := ⟨_, rfl⟩
            subst hwA
            clear HL1
            go_upto_if 32 with (fail)
            go_cut [9] (fun v wx => v = .int .i64 (K : Int) ∧ wx = wA)
            case first =>
              by_cases a1 : 6 < L1
              · have HF : Hid ((K : Int) = 6) := by show _ = _; rw [HK.out, if_pos a1]
                clear HK
                go_wp2
                go_meet
                exact ⟨by rw [HF.out], rfl⟩
              · have HF : Hid ((K : Int) = L1) := by show _ = _; rw [HK.out, if_neg a1]
                clear HK
                go_wp2
                go_meet
                exact ⟨by rw [HF.out], rfl⟩
            case rest =>
            obtain ⟨rfl, rfl⟩ := hcut
            obtain ⟨wA, hwA⟩ : ∃ wA : World, wA = wc := ⟨_, rfl⟩
            subst hwA
            clear HK p0 p1
            obtain ⟨sc', f', t', e', out'⟩ := s'
            obtain ⟨b0, b1, b2, b3, b4, b5, hc6, hcx⟩ := HNA.out.x
            dsimp only at hc6 hcx
            subst hc6
            obtain ⟨d0, d1, d2, d3, d4, d5, hd⟩ := six_of (cntUp [b0, b1, b2, b3, b4, b5] K) (by unfold cntUp; simp)
            have hM2 : M + Blk.szL (l.take k) ≤ 800000 := by omega
            have CU := Lib.hid (counters_ex b0 b1 b2 b3 b4 b5 d0 d1 d2 d3 d4 d5 K wA hd hK1 hK6 (fun i => Nat.le_trans (HNB2.out.c i) (by omega)))
            have HD := Lib.hid hd
            have hdb : ∀ i, [d0, d1, d2, d3, d4, d5].getD i 0 ≤ 1000000 := fun i => by rw [← hd]; exact Nat.le_trans (cntUp_bd _ _ _ HNB2.out.c i) (by omega)
            obtain ⟨no', hno'⟩ : ∃ no', no' = (out'.map Nm.d).length := ⟨_, rfl⟩
            have hnob : no' ≤ 800000 := by rw [hno', List.length_map]; exact Nat.le_trans HNB2.out.o (by omega)
            obtain ⟨av', cv', rfl⟩ := own_slice HNA.out.row.own
            rw [← hno'] at hcx HNA HVP
            have HNO' := Lib.hid hno'.symm
            have HDB := Lib.hid hdb
            have HCX := Lib.hid hcx
            obtain ⟨x0, x1, x2, x3, x4, x5, x6, x7, x8, x9, x10, x11, xf⟩ := cb_twelve hcx
            clear hd hdb hcx hno' hM2
            go_wp2_with fail
            (with_reducible refine CU.out.mono ?_)
            rintro e w3 ⟨rfl, b3⟩
            have X3 := HCX.out.below b3
            obtain ⟨y0, y1, y2, y3, y4, y5, y6, y7, y8, y9, y10, y11, yf⟩ := cb_twelve X3
            have hS3 := X3.lt
            obtain ⟨w4, hw4⟩ : ∃ w4, w4 = sev w3 S 0 (.int .i64 0) (.int .i64 (d0 : Int)) (.int .i64 (d1 : Int)) (.int .i64 (d2 : Int)) (.int .i64 (d3 : Int)) (.int .i64 (d4 : Int)) (.int .i64 (d5 : Int)) := ⟨_, rfl⟩
            have g4 : w3.grownBy w4 (some S) := by rw [hw4]; exact sev_grown _ _ _ _ _ _ _ _ _
            have X4 : CB 103 S (ndC d0 d1 d2 d3 d4 d5 f' t' e' (.slice av' no' cv')) w4 := by rw [hw4]; exact sev_cb X3 _ _ _ _ _ _ _
            have N4 := (HNA.out.below b3).cnts (s' := ⟨[d0, d1, d2, d3, d4, d5], f', t', e', out'⟩) HSS.out hBS h0S g4 rfl rfl X4
            have P4 : CB 53 p [.int .i64 2, .int .i64 lv, .string i, .string t, .string d, .string ti, .string at_.id, .slice ac nc cc, .slice ap np cp, .slice al nl cl, .slice ak nk ck] w4 := cb_grown (HPA.out.below b3) g4 (fun e => by have := Option.some.inj e; omega)
            have HN4 := Lib.hid N4
            have HP4 := Lib.hid P4
            have HW4 := Lib.hid hw4
            clear CU b3 X3 g4 N4 P4 hw4 x0 x1 x2 x3 x4 x5 x6 x7 x8 x9 x10 x11 xf HNA
            go_upto_region 12 with (fail)
            have hk9 := HW4.out
            simp only [sev, Nat.zero_add] at hk9
            rw [← hk9]
            clear hk9 HW4 y0 y1 y2 y3 y4 y5 y6 y7 y8 y9 y10 y11 yf hS3
            have VA := Lib.hid (value_ex d0 d1 d2 d3 d4 d5 K w4.drew hK6 HDB.out)
            have bBx := HN4.out.belB (by omega) (fun g e => by have := HV0.out g e; omega)
            have LN4 := Lib.hid (show Rd (· < B) w4 (inlsD li) [.slice al nl cl] from HR.out.line.below bBx)
            have hl4 := X4.lt
            have hp4 := HP4.out.lt
            have x11 := X4.cell 11 _ rfl
            have HX4 := Lib.hid X4
            have SD := sec_mk (w := w4.drew) X4 HP4.out
            clear X4 bBx IH HS HRD HNB HSN HSP HNB2 HR hszx hszl hszk HPA HNO HV0 HHB HSA hK1 hK6 HDB HCX hll hmx hcap hlt hsz hM HND
            refine wp_region_x 15 (fun w' => w'.cell? ⟨S, 11, none⟩ = some (.slice av' no' cv') ∧ w'.cell? ⟨S, 0, none⟩ = some (.int .i64 0) ∧ w'.cell? ⟨S, 1, none⟩ = some (.int .i64 (d0 : Int)) ∧ w'.cell? ⟨S, 2, none⟩ = some (.int .i64 (d1 : Int)) ∧ w'.cell? ⟨S, 3, none⟩ = some (.int .i64 (d2 : Int)) ∧ w'.cell? ⟨S, 4, none⟩ = some (.int .i64 (d3 : Int)) ∧ w'.cell? ⟨S, 5, none⟩ = some (.int .i64 (d4 : Int)) ∧ w'.cell? ⟨S, 6, none⟩ = some (.int .i64 (d5 : Int)) ∧ w'.cell? ⟨p, 6, none⟩ = some (.string at_.id) ∧ w'.cell? ⟨p, 9, none⟩ = some (.slice al nl cl)) (by kernel_rfl) SD ?_
            intro hH
            refine wpAnyX_takeL (i := 0) (v := ?_) rfl (by kernel_rfl) (by kernel_rfl) (by kernel_rfl) (by kernel_rfl) (fun _ _ _ h => h) hH (Or.inl ⟨by rfl, ?_⟩) ?_
            rotate_left
            · (intro wv hSw; (try dsimp only at hSw); go_simp; try with_reducible rfl)
            try simp only [Act.put, List.setIfInBounds_toArray, List.set_cons_zero, List.set_cons_succ]
            refine wpAnyX_takeL (i := 1) (v := ?_) rfl (by kernel_rfl) (by kernel_rfl) (by kernel_rfl) (by kernel_rfl) (fun _ _ _ h => h) hH (Or.inl ⟨by rfl, ?_⟩) ?_
            rotate_left
            · (intro wv hSw; (try dsimp only at hSw); go_simp; try with_reducible rfl)
            try simp only [Act.put, List.setIfInBounds_toArray, List.set_cons_zero, List.set_cons_succ]
            refine wpAnyX_takeL (i := 2) (v := ?_) rfl (by kernel_rfl) (by kernel_rfl) (by kernel_rfl) (by kernel_rfl) (fun _ _ _ h => h) hH (Or.inl ⟨by rfl, ?_⟩) ?_
            rotate_left
            · (intro wv hSw; (try dsimp only at hSw); go_simp; try with_reducible rfl)
            try simp only [Act.put, List.setIfInBounds_toArray, List.set_cons_zero, List.set_cons_succ]
            refine wpAnyX_takeL (i := 3) (v := ?_) rfl (by kernel_rfl) (by kernel_rfl) (by kernel_rfl) (by kernel_rfl) (fun _ _ _ h => h) hH (Or.inl ⟨by rfl, ?_⟩) ?_
            rotate_left
            · (intro wv hSw; (try dsimp only at hSw); go_simp; try with_reducible rfl)
            try simp only [Act.put, List.setIfInBounds_toArray, List.set_cons_zero, List.set_cons_succ]
            refine wpAnyX_takeL (i := 4) (v := ?_) rfl (by kernel_rfl) (by kernel_rfl) (by kernel_rfl) (by kernel_rfl) (fun _ _ _ h => h) hH (Or.inl ⟨by rfl, ?_⟩) ?_
            rotate_left
            · (intro wv hSw; (try dsimp only at hSw); go_simp; try with_reducible rfl)
            try simp only [Act.put, List.setIfInBounds_toArray, List.set_cons_zero, List.set_cons_succ]
            refine wpAnyX_takeL (i := 5) (v := ?_) rfl (by kernel_rfl) (by kernel_rfl) (by kernel_rfl) (by kernel_rfl) (fun _ _ _ h => h) hH (Or.inl ⟨by rfl, ?_⟩) ?_
            rotate_left
            · (intro wv hSw; (try dsimp only at hSw); go_simp; try with_reducible rfl)
            try simp only [Act.put, List.setIfInBounds_toArray, List.set_cons_zero, List.set_cons_succ]
            refine wpAnyX_takeL (i := 6) (v := ?_) rfl (by kernel_rfl) (by kernel_rfl) (by kernel_rfl) (by kernel_rfl) (fun _ _ _ h => h) hH (Or.inl ⟨by rfl, ?_⟩) ?_
            rotate_left
            · (intro wv hSw; (try dsimp only at hSw); go_simp; try with_reducible rfl)
            try simp only [Act.put, List.setIfInBounds_toArray, List.set_cons_zero, List.set_cons_succ]
            refine wpAnyX_takeL (i := 7) (v := ?_) rfl (by kernel_rfl) (by kernel_rfl) (by kernel_rfl) (by kernel_rfl) (fun _ _ _ h => h) hH (Or.inl ⟨by rfl, ?_⟩) ?_
            rotate_left
            · (intro wv hSw; (try dsimp only at hSw); go_simp; try with_reducible rfl)
            try simp only [Act.put, List.setIfInBounds_toArray, List.set_cons_zero, List.set_cons_succ]
            refine wpAnyX_takeL (i := 9) (v := ?_) rfl (by kernel_rfl) (by kernel_rfl) (by kernel_rfl) (by kernel_rfl) (fun _ _ _ h => h) hH (Or.inl ⟨by rfl, ?_⟩) ?_
            rotate_left
            · (intro wv hSw; (try dsimp only at hSw); go_simp; try with_reducible rfl)
            try simp only [Act.put, List.setIfInBounds_toArray, List.set_cons_zero, List.set_cons_succ]
            refine wpAnyX_takeL (i := 10) (v := ?_) rfl (by kernel_rfl) (by kernel_rfl) (by kernel_rfl) (by kernel_rfl) (fun _ _ _ h => h) hH (Or.inl ⟨by rfl, ?_⟩) ?_
            rotate_left
            · (intro wv hSw; (try dsimp only at hSw); go_simp; try with_reducible rfl)
            try simp only [Act.put, List.setIfInBounds_toArray, List.set_cons_zero, List.set_cons_succ]
            refine wpAnyX_oneL (i := 8) rfl (by kernel_rfl) (fun KQ hK => ?_)
            go_simp
            go_at_call 96
            (with_reducible refine VA.out.mono ?_)
            rintro e w5 ⟨rfl, b5'⟩
            have b5 : Below w4.heap.size w4 w5 := ⟨b5'.os, b5'.tape, b5'.output, b5'.size, b5'.block⟩
            have N5 := Lib.hid (HN4.out.below (wy := w5) b5)
            have P5 := Lib.hid (show CB 53 p [.int .i64 2, .int .i64 lv, .string i, .string t, .string d, .string ti, .string at_.id, .slice ac nc cc, .slice ap np cp, .slice al nl cl, .slice ak nk ck] w5 from (b5.block p hp4).trans HP4.out)
            have X5 : CB 103 S (ndC d0 d1 d2 d3 d4 d5 f' t' e' (.slice av' no' cv')) w5 := (b5.block S hl4).trans (show w4.heap[S]? = _ from HX4.out)
            have LN5 := Lib.hid (show Rd (· < B) w5 (inlsD li) [.slice al nl cl] from Rd.keep (fun b hb hlt => ⟨hb, b5.block b hlt⟩) _ _ LN4.out)
            have SE := sec_mk X5 P5.out
            have X5a : CB 103 S (ndC d0 d1 d2 d3 d4 d5 f' t' e' (.slice av' no' cv')) (w5.alloc (.cells #[.string at_.id, .string ⟨#[115, 101, 99, 116, 105, 111, 110]⟩, .string (valS [d0, d1, d2, d3, d4, d5] K), .slice al nl cl] 49)) := cb_grown X5 (World.grownBy_alloc w5 _ none) (by simp)
            have P5a : CB 53 p [.int .i64 2, .int .i64 lv, .string i, .string t, .string d, .string ti, .string at_.id, .slice ac nc cc, .slice ap np cp, .slice al nl cl, .slice ak nk ck] (w5.alloc (.cells #[.string at_.id, .string ⟨#[115, 101, 99, 116, 105, 111, 110]⟩, .string (valS [d0, d1, d2, d3, d4, d5] K), .slice al nl cl] 49)) := cb_grown P5.out (World.grownBy_alloc w5 _ none) (by simp)
            have SF := sec_mk X5a P5a
            have HX5a := Lib.hid X5a
            have HP5a := Lib.hid P5a
            clear b5 b5' X5 X5a P5a
            go_wp2_with fail
            refine hK.out _ _ (fun _ => SE) (fun hH2 => ?_)
            clear hK KQ hH
            have hH := hH2 (by decide)
            clear hH2
            try simp only [Act.put, List.setIfInBounds_toArray, List.set_cons_zero, List.set_cons_succ]
            refine wpAnyX_takeL (i := 11) (v := ?_) rfl (by kernel_rfl) (by kernel_rfl) (by kernel_rfl) (by kernel_rfl) (fun _ _ _ h => h) hH (Or.inl ⟨by rfl, ?_⟩) ?_
            rotate_left
            · (intro wv hSw; (try dsimp only at hSw); go_simp; try with_reducible rfl)
            try simp only [Act.put, List.setIfInBounds_toArray, List.set_cons_zero, List.set_cons_succ]
            refine wpAnyX_oneL (i := 12) rfl (by kernel_rfl) (fun KQ hK => ?_)
            go_simp
            refine hK.out _ _ (fun _ => SF) (fun hH2 => ?_)
            clear hK KQ hH
            have hH := hH2 (by decide)
            clear hH2
            try simp only [Act.put, List.setIfInBounds_toArray, List.set_cons_zero, List.set_cons_succ]
            refine wpAnyX_oneL (i := 13) rfl (by kernel_rfl) (fun KQ hK => ?_)
            refine step_rput rfl (.tmp 39) (.tmp 50) 36 rfl iN _ 72 Tryz.underlying36 hiN hzN0 hzN1 hzN2 rfl (by decide) N5.out.row hB (Nm.mk at_.id secS (valS [d0, d1, d2, d3, d4, d5] K) li).d [.string at_.id, .string ⟨#[115, 101, 99, 116, 105, 111, 110]⟩, .string (valS [d0, d1, d2, d3, d4, d5] K), .slice al nl cl] (Nm.mk_ ⟨at_.id, secS, valS [d0, d1, d2, d3, d4, d5] K, li⟩ LN5.out) rfl one_four HNO'.out (by omega) (by decide) rfl rfl ?_
            intro a7 c7 w7 hrow7 hg7 hat7
            have X7 : CB 103 S (ndC d0 d1 d2 d3 d4 d5 f' t' e' (.slice av' no' cv')) w7 := cb_grown HX5a.out hg7 (fun e => N5.out.n1 e.symm)
            have P7 : CB 53 p [.int .i64 2, .int .i64 lv, .string i, .string t, .string d, .string ti, .string at_.id, .slice ac nc cc, .slice ap np cp, .slice al nl cl, .slice ak nk ck] w7 := cb_grown HP5a.out hg7 (fun e => by have := HVP.out p e.symm; omega)
            have l7 := X7.lt
            have l11 := X7.cell 11 _ rfl
            have lf := cb_free X7
            have SG := sec_mk X7 P7
            have P8 : CB 53 p [.int .i64 2, .int .i64 lv, .string i, .string t, .string d, .string ti, .string at_.id, .slice ac nc cc, .slice ap np cp, .slice al nl cl, .slice ak nk ck] (w7.setCell ⟨S, 11, none⟩ (.slice a7 (no' + 1) c7)) := cb_grown P7 (grown_setc _ _ _ _) (fun e => by have := Option.some.inj e; omega)
            have HR7 := Lib.hid hrow7
            have HG7 := Lib.hid hg7
            have HA7 := Lib.hid hat7
            have HN8 : Hid ((Value.slice a7 (no' + 1) c7).ownBlock ≠ some p) := by
              show _ ≠ _
              have hp5 := P5.out.lt
              rcases hat7 with e | e
              · rw [e]; exact fun e2 => by have := HVP.out p e2; omega
              · rw [e]; exact fun e2 => by have := Option.some.inj e2; omega
            have HP8 := Lib.hid P8
            clear hrow7 hg7 hat7 X7 P7 P8
            refine hK.out _ _ (fun _ => SG) (fun hH2 => ?_)
            clear hK KQ hH
            have hH := hH2 (by decide)
            clear hH2
            try simp only [Act.put, List.setIfInBounds_toArray, List.set_cons_zero, List.set_cons_succ]
            refine wpAnyX_takeL (i := 14) (v := ?_) rfl (by kernel_rfl) (by kernel_rfl) (by kernel_rfl) (by kernel_rfl) (fun _ _ _ h => h) hH (Or.inl ⟨by rfl, ?_⟩) ?_
            rotate_left
            · (intro wv hSw; (try dsimp only at hSw); go_simp; try with_reducible rfl)
            try simp only [Act.put, List.setIfInBounds_toArray, List.set_cons_zero, List.set_cons_succ]
            refine wpAnyX_oneL (i := 15) rfl (by kernel_rfl) (fun KQ hK => ?_)
            go_simp
            refine hK.out _ _ (fun h => absurd rfl h) (fun _ => ?_)
            clear hK KQ
            refine wpAnyX_done (by kernel_rfl) ?_ _
            clear SD SE SF SG hH
            go_wp2_with fail
            go_meet
            have N7 := N5.out.put (r := []) HSS.out hBS h0S (x := ⟨at_.id, secS, valS [d0, d1, d2, d3, d4, d5] K, li⟩) HR7.out HG7.out HA7.out
            unfold NdR
            rw [HE.out, HD.out, ← HSS.out]
            exact ⟨_, _, N7, HP8.out, HN8.out⟩
        case rest =>
        obtain ⟨v1, rows1, hN1, hP1, hne1⟩ := hcut
        have HNE1 := Lib.hid hne1
        obtain ⟨wB, hwB⟩ : ∃ wB : World, wB = wc := ⟨_, rfl⟩
        subst hwB
        rw [← HSS.out] at hN1
        obtain ⟨p0, p1, p2, p3, p4, p5, p6, p7, p8, p9, p10⟩ := six_kinds hP1
        obtain ⟨KI, hKI⟩ : ∃ KI : Int, KI = (kindN kd i at_.id : Nat) := ⟨_, rfl⟩
        have hK4 : (KI = 0 ∧ kindN kd i at_.id = 0) ∨ (KI = 1 ∧ kindN kd i at_.id = 1) ∨ (KI = 2 ∧ kindN kd i at_.id = 2) ∨ (KI = 3 ∧ kindN kd i at_.id = 3) := by
          rw [hKI]
          rcases kindN_le kd i at_.id with h | h | h | h <;> rw [h] <;> simp
        have KD := r22kind_any kd lv i t d ti at_ ac ap al ak nc cc np cp nl cl nk ck wB
        rw [← hKI] at KD
        have KD := Lib.hid KD
        have HN1 := Lib.hid hN1
        have HP1 := Lib.hid hP1
        have HK4 := Lib.hid hK4
        obtain ⟨sB, hsB⟩ : ∃ sB, sB = numOne free s' kd lv i at_ li ks := ⟨_, rfl⟩
        have HSB0 := Lib.hid hsB
        have HNB3 : Hid (NsB sB (M + Blk.szL (l.take k) + 1) 0) := by show NsB _ _ _; rw [hsB]; exact NsB.one HNB2.out (by omega) free kd lv i at_ li ks
        have HSB : Hid (sB = numK (kindN kd i at_.id) sA kd at_.id ks) := by show _ = _; rw [hsB, num_kind, HSA.out]
        clear hKI hK4 hN1 hP1 hsB hne1
        go_wp2_with fail
        (with_reducible refine KD.out.mono ?_)
        rintro e wD ⟨rfl, bD⟩
        have HN2 := Lib.hid (HN1.out.below bD)
        have HP2 := Lib.hid (HP1.out.below bD)
        clear KD bD p0 p1 p2 p3 p4 p5 p6 p7 p8 p9 p10 HN1 HP1
        go_upto_if 56 with (fail)
        go_cut [] (fun wx => NdR B w0 w (.slice av no cv) sB p [.int .i64 kd, .int .i64 lv, .string i, .string t, .string d, .string ti, .string at_.id, .slice ac nc cc, .slice ap np cp, .slice al nl cl, .slice ak nk ck] wx)
        case first =>
          rcases HK4.out with ⟨rfl, hk⟩ | ⟨rfl, hk⟩ | ⟨rfl, hk⟩ | ⟨rfl, hk⟩
          · have HE : Hid (sB = sA) := by show _ = _; rw [HSB.out, hk]; rfl
            clear HK4 hk HSB
            go_wp2
            go_meet
            exact ⟨v1, rows1, by rw [HE.out, ← HSS.out]; exact HN2.out, HP2.out, HNE1.out⟩
          · obtain ⟨cA, fA, tA, eA, outA⟩ := sA
            have HE : Hid (sB = ⟨cA, fA + 1, tA, eA, outA ++ [⟨at_.id, figS, decS (fA + 1), oneLn kd ks⟩]⟩) := by show _ = _; rw [HSB.out, hk]; rfl
            have hb3 := HNB3.out
            rw [HE.out] at hb3
            have hfb : fA + 1 ≤ 900000 := Nat.le_trans hb3.f (by have := hll; omega)
            have hob : outA.length ≤ 900000 := by
              have := hb3.o
              simp only [List.length_append, List.length_singleton] at this
              omega
            obtain ⟨b0, b1, b2, b3, b4, b5, hc6, hcx⟩ := HN2.out.x
            dsimp only at hc6 hcx
            subst hc6
            obtain ⟨no', hno'⟩ : ∃ no', no' = (outA.map Nm.d).length := ⟨_, rfl⟩
            have hnob : no' ≤ 900000 := by rw [hno', List.length_map]; exact hob
            obtain ⟨av', cv', rfl⟩ := own_slice HN2.out.row.own
            have HVP2 : Hid (∀ g, (Value.slice av' (outA.map Nm.d).length cv').ownBlock = some g → g < wD.heap.size) := fun g e => (HN2.out.row.own.lt g e).2
            rw [← hno'] at hcx HN2 HVP2 HNE1
            have HNO' := Lib.hid hno'.symm
            have HCX := Lib.hid hcx
            have q := hcx.cell 8 _ rfl
            obtain ⟨f1, hf1⟩ : ∃ f1, f1 = fA + 1 := ⟨_, rfl⟩
            have hwr : IntKind.i64.wrap ((fA : Int) + 1) = (f1 : Int) := by rw [IntWalk.i64_in _ (by omega), hf1]; rfl
            have HF1 := Lib.hid hf1
            have xf := cb_free hcx (8)
            have hSl := hcx.lt
            obtain ⟨w4, hw4⟩ : ∃ w4, w4 = wD.setCell ⟨S, 8, none⟩ (.int .i64 (f1 : Int)) := ⟨_, rfl⟩
            have X4 : CB 103 S (ndC b0 b1 b2 b3 b4 b5 f1 tA eA (.slice av' no' cv')) w4 := by rw [hw4]; exact cb_set hcx 8 _
            have N4 := (HN2.out).cnts (s' := ⟨[b0, b1, b2, b3, b4, b5], f1, tA, eA, outA⟩) HSS.out hBS h0S (grown_setc wD S 8 (.int .i64 (f1 : Int))) rfl rfl (by rw [← hw4]; exact X4)
            rw [← hw4] at N4
            have P4 : CB 53 p [.int .i64 kd, .int .i64 lv, .string i, .string t, .string d, .string ti, .string at_.id, .slice ac nc cc, .slice ap np cp, .slice al nl cl, .slice ak nk ck] w4 := by rw [hw4]; exact cb_grown HP2.out (grown_setc _ _ _ _) (fun e => by have := Option.some.inj e; omega)
            obtain ⟨wL, hwL⟩ : ∃ wL, wL = (w4.alloc (.cells #[.string ⟨#[]⟩, .string ⟨#[102, 105, 103, 117, 114, 101]⟩, .string ⟨#[116, 97, 98, 108, 101]⟩, .string ⟨#[101, 113, 117, 97, 116, 105, 111, 110]⟩] 9)).drew := ⟨_, rfl⟩
            have gL : w4.grownBy wL none := by 
              have h := World.grownBy_alloc w4 (.cells #[.string ⟨#[]⟩, .string ⟨#[102, 105, 103, 117, 114, 101]⟩, .string ⟨#[116, 97, 98, 108, 101]⟩, .string ⟨#[101, 113, 117, 97, 116, 105, 111, 110]⟩] 9) none
              rw [hwL]; exact ⟨h.os, h.tape, h.output, h.size, h.block⟩
            have lit : wL.cell? ⟨w4.heap.size, 1, none⟩ = some (.string ⟨#[102, 105, 103, 117, 114, 101]⟩) := by rw [hwL]; exact (CB.new 9 [.string ⟨#[]⟩, .string ⟨#[102, 105, 103, 117, 114, 101]⟩, .string ⟨#[116, 97, 98, 108, 101]⟩, .string ⟨#[101, 113, 117, 97, 116, 105, 111, 110]⟩] w4).cell 1 _ rfl
            have NL := N4.grown gL
            have PL := cb_grown P4 gL (by simp)
            have XL := cb_grown X4 gL (by simp)
            have bBL := NL.belB (by omega) (fun g e => by have := HV0.out g e; omega)
            have bzL := bBL.size
            have ON := Lib.hid (r22one_any kd lv i t d ti at_ li ks ac ap al ak nc cc np cp nl cl nk ck ⟨#[102, 105, 103, 117, 114, 101]⟩ f1 (· < B) wL (HR.out.kids.below bBL) (fun b hb => by omega) (by omega))
            have SD := sec_kd (w := w4.drew) (X4.cell 11 _ rfl) (X4.cell 8 _ rfl) P4
            have SL := sec_kd (XL.cell 11 _ rfl) (XL.cell 8 _ rfl) PL
            have HNL := Lib.hid NL
            have HPL := Lib.hid PL
            have HXL := Lib.hid XL
            have HWL := Lib.hid hwL.symm
            have HW4 := Lib.hid hw4.symm
            clear hcx hno' hb3 hf1 hk HK4 HSB HSA N4 NL PL XL P4 X4 bBL bzL gL hwL hw4
            clear IH HS HRD HNB HSN HSP HNB2 HR hszx hszl hszk HPA HNO HV0 HHB HVP HNB3 HN2 HP2 HCX hll hmx hcap hlt hsz hM HND HSB0
            go_upto_region 16 with (fail)
            rw [HW4.out]
            clear HW4 q xf hwr
            refine wp_region_x 15 (fun w' => w'.cell? ⟨S, 11, none⟩ = some (.slice av' no' cv') ∧ w'.cell? ⟨S, 8, none⟩ = some (.int .i64 (f1 : Int)) ∧ w'.cell? ⟨p, 0, none⟩ = some (.int .i64 kd) ∧ w'.cell? ⟨p, 1, none⟩ = some (.int .i64 lv) ∧ w'.cell? ⟨p, 2, none⟩ = some (.string i) ∧ w'.cell? ⟨p, 3, none⟩ = some (.string t) ∧ w'.cell? ⟨p, 4, none⟩ = some (.string d) ∧ w'.cell? ⟨p, 5, none⟩ = some (.string ti) ∧ w'.cell? ⟨p, 6, none⟩ = some (.string at_.id) ∧ w'.cell? ⟨p, 7, none⟩ = some (.slice ac nc cc) ∧ w'.cell? ⟨p, 8, none⟩ = some (.slice ap np cp) ∧ w'.cell? ⟨p, 9, none⟩ = some (.slice al nl cl) ∧ w'.cell? ⟨p, 10, none⟩ = some (.slice ak nk ck)) (by kernel_rfl) SD ?_
            intro hH
            refine wpAnyX_takeL (i := 0) (v := ?_) rfl (by kernel_rfl) (by kernel_rfl) (by kernel_rfl) (by kernel_rfl) (fun _ _ _ h => h) hH (Or.inl ⟨by rfl, ?_⟩) ?_
            rotate_left
            · (intro wv hSw; (try dsimp only at hSw); go_simp; try with_reducible rfl)
            try simp only [Act.put, List.setIfInBounds_toArray, List.set_cons_zero, List.set_cons_succ]
            refine wpAnyX_takeL (i := 1) (v := ?_) rfl (by kernel_rfl) (by kernel_rfl) (by kernel_rfl) (by kernel_rfl) (fun _ _ _ h => h) hH (Or.inl ⟨by rfl, ?_⟩) ?_
            rotate_left
            · (intro wv hSw; (try dsimp only at hSw); go_simp; try with_reducible rfl)
            try simp only [Act.put, List.setIfInBounds_toArray, List.set_cons_zero, List.set_cons_succ]
            refine wpAnyX_takeL (i := 2) (v := ?_) rfl (by kernel_rfl) (by kernel_rfl) (by kernel_rfl) (by kernel_rfl) (fun _ _ _ h => h) hH (Or.inl ⟨by rfl, ?_⟩) ?_
            rotate_left
            · (intro wv hSw; (try dsimp only at hSw); go_simp; try with_reducible rfl)
            try simp only [Act.put, List.setIfInBounds_toArray, List.set_cons_zero, List.set_cons_succ]
            refine wpAnyX_takeL (i := 4) (v := ?_) rfl (by kernel_rfl) (by kernel_rfl) (by kernel_rfl) (by kernel_rfl) (fun _ _ _ h => h) hH (Or.inl ⟨by rfl, ?_⟩) ?_
            rotate_left
            · (intro wv hSw; (try dsimp only at hSw); go_simp; try with_reducible rfl)
            try simp only [Act.put, List.setIfInBounds_toArray, List.set_cons_zero, List.set_cons_succ]
            refine wpAnyX_takeL (i := 7) (v := ?_) rfl (by kernel_rfl) (by kernel_rfl) (by kernel_rfl) (by kernel_rfl) (fun _ _ _ h => h) hH (Or.inl ⟨by rfl, ?_⟩) ?_
            rotate_left
            · (intro wv hSw; (try dsimp only at hSw); go_simp; try with_reducible rfl)
            try simp only [Act.put, List.setIfInBounds_toArray, List.set_cons_zero, List.set_cons_succ]
            refine wpAnyX_takeL (i := 8) (v := ?_) rfl (by kernel_rfl) (by kernel_rfl) (by kernel_rfl) (by kernel_rfl) (fun _ _ _ h => h) hH (Or.inl ⟨by rfl, ?_⟩) ?_
            rotate_left
            · (intro wv hSw; (try dsimp only at hSw); go_simp; try with_reducible rfl)
            try simp only [Act.put, List.setIfInBounds_toArray, List.set_cons_zero, List.set_cons_succ]
            refine wpAnyX_takeL (i := 9) (v := ?_) rfl (by kernel_rfl) (by kernel_rfl) (by kernel_rfl) (by kernel_rfl) (fun _ _ _ h => h) hH (Or.inl ⟨by rfl, ?_⟩) ?_
            rotate_left
            · (intro wv hSw; (try dsimp only at hSw); go_simp; try with_reducible rfl)
            try simp only [Act.put, List.setIfInBounds_toArray, List.set_cons_zero, List.set_cons_succ]
            refine wpAnyX_takeL (i := 10) (v := ?_) rfl (by kernel_rfl) (by kernel_rfl) (by kernel_rfl) (by kernel_rfl) (fun _ _ _ h => h) hH (Or.inl ⟨by rfl, ?_⟩) ?_
            rotate_left
            · (intro wv hSw; (try dsimp only at hSw); go_simp; try with_reducible rfl)
            try simp only [Act.put, List.setIfInBounds_toArray, List.set_cons_zero, List.set_cons_succ]
            refine wpAnyX_oneL (i := 3) rfl (by kernel_rfl) (fun KQ hK => ?_)
            go_simp
            rw [HWL.out]
            refine hK.out _ _ (fun _ => SL) (fun hH2 => ?_)
            clear hK KQ hH
            have hH := hH2 (by decide)
            clear hH2
            try simp only [Act.put, List.setIfInBounds_toArray, List.set_cons_zero, List.set_cons_succ]
            refine wpAnyX_takeL (i := 5) (v := ?_) rfl (by kernel_rfl) (by kernel_rfl) (by kernel_rfl) (by kernel_rfl) (fun _ _ _ h => h) hH (Or.inl ⟨by rfl, ?_⟩) ?_
            rotate_left
            · (intro wv hSw; (try dsimp only at hSw); go_simp; try with_reducible rfl)
            try simp only [Act.put, List.setIfInBounds_toArray, List.set_cons_zero, List.set_cons_succ]
            refine wpAnyX_oneL (i := 6) rfl (by kernel_rfl) (fun KQ hK => ?_)
            go_simp
            refine hK.out _ _ (fun _ => SL) (fun hH2 => ?_)
            clear hK KQ hH
            have hH := hH2 (by decide)
            clear hH2
            try simp only [Act.put, List.setIfInBounds_toArray, List.set_cons_zero, List.set_cons_succ]
            refine wpAnyX_oneL (i := 11) rfl (by kernel_rfl) (fun KQ hK => ?_)
            go_simp
            go_at_call 98
            (with_reducible refine ON.out.mono ?_)
            rintro e w5 ⟨vx, rfl, hrd5, bl5⟩
            obtain ⟨ax, nx, cx, rfl⟩ := Rd.slf hrd5
            have N5 := Lib.hid (HNL.out.below bl5)
            have P5 := Lib.hid (HPL.out.below bl5)
            have X5 := HXL.out.below bl5
            have LN5 := Lib.hid hrd5
            have SE := sec_kd (X5.cell 11 _ rfl) (X5.cell 8 _ rfl) P5.out
            have X5a : CB 103 S (ndC b0 b1 b2 b3 b4 b5 f1 tA eA (.slice av' no' cv')) (w5.alloc (.cells #[.string at_.id, .string ⟨#[102, 105, 103, 117, 114, 101]⟩, .string (decS f1), .slice ax nx cx] 49)) := cb_grown X5 (World.grownBy_alloc w5 _ none) (by simp)
            have P5a : CB 53 p [.int .i64 kd, .int .i64 lv, .string i, .string t, .string d, .string ti, .string at_.id, .slice ac nc cc, .slice ap np cp, .slice al nl cl, .slice ak nk ck] (w5.alloc (.cells #[.string at_.id, .string ⟨#[102, 105, 103, 117, 114, 101]⟩, .string (decS f1), .slice ax nx cx] 49)) := cb_grown P5.out (World.grownBy_alloc w5 _ none) (by simp)
            have SF := sec_kd (X5a.cell 11 _ rfl) (X5a.cell 8 _ rfl) P5a
            have HX5a := Lib.hid X5a
            have HP5a := Lib.hid P5a
            clear bl5 X5 X5a P5a hrd5
            go_wp2_with fail
            refine hK.out _ _ (fun _ => SE) (fun hH2 => ?_)
            clear hK KQ hH
            have hH := hH2 (by decide)
            clear hH2
            try simp only [Act.put, List.setIfInBounds_toArray, List.set_cons_zero, List.set_cons_succ]
            refine wpAnyX_oneL (i := 12) rfl (by kernel_rfl) (fun KQ hK => ?_)
            go_simp
            refine hK.out _ _ (fun _ => SF) (fun hH2 => ?_)
            clear hK KQ hH
            have hH := hH2 (by decide)
            clear hH2
            try simp only [Act.put, List.setIfInBounds_toArray, List.set_cons_zero, List.set_cons_succ]
            refine wpAnyX_oneL (i := 13) rfl (by kernel_rfl) (fun KQ hK => ?_)
            refine step_rput rfl (.tmp 65) (.tmp 76) 36 rfl iN _ 72 Tryz.underlying36 hiN hzN0 hzN1 hzN2 rfl (by decide) N5.out.row hB (Nm.mk at_.id figS (decS f1) (oneLn kd ks)).d [.string at_.id, .string ⟨#[102, 105, 103, 117, 114, 101]⟩, .string (decS f1), .slice ax nx cx] (Nm.mk_ ⟨at_.id, figS, decS f1, oneLn kd ks⟩ LN5.out) rfl one_four HNO'.out (by omega) (by decide) rfl rfl ?_
            intro a7 c7 w7 hrow7 hg7 hat7
            have X7 : CB 103 S (ndC b0 b1 b2 b3 b4 b5 f1 tA eA (.slice av' no' cv')) w7 := cb_grown HX5a.out hg7 (fun e => N5.out.n1 e.symm)
            have P7 : CB 53 p [.int .i64 kd, .int .i64 lv, .string i, .string t, .string d, .string ti, .string at_.id, .slice ac nc cc, .slice ap np cp, .slice al nl cl, .slice ak nk ck] w7 := cb_grown HP5a.out hg7 (fun e => HNE1.out e.symm)
            have l7 := X7.lt
            have l11 := X7.cell 11 _ rfl
            have lf := cb_free X7
            have SG := sec_kd (X7.cell 11 _ rfl) (X7.cell 8 _ rfl) P7
            have HN8 : Hid ((Value.slice a7 (no' + 1) c7).ownBlock ≠ some p) := by
              show _ ≠ _
              have hp5 := P5.out.lt
              rcases hat7 with e | e
              · rw [e]; exact HNE1.out
              · rw [e]; exact fun e2 => by have := Option.some.inj e2; omega
            have HP8 := Lib.hid (show CB 53 p [.int .i64 kd, .int .i64 lv, .string i, .string t, .string d, .string ti, .string at_.id, .slice ac nc cc, .slice ap np cp, .slice al nl cl, .slice ak nk ck] (w7.setCell ⟨S, 11, none⟩ (.slice a7 (no' + 1) c7)) from cb_grown P7 (grown_setc _ _ _ _) (fun e => by have := Option.some.inj e; omega))
            have HR7 := Lib.hid hrow7
            have HG7 := Lib.hid hg7
            have HA7 := Lib.hid hat7
            clear hrow7 hg7 hat7 X7 P7
            refine hK.out _ _ (fun _ => SG) (fun hH2 => ?_)
            clear hK KQ hH
            have hH := hH2 (by decide)
            clear hH2
            try simp only [Act.put, List.setIfInBounds_toArray, List.set_cons_zero, List.set_cons_succ]
            refine wpAnyX_takeL (i := 14) (v := ?_) rfl (by kernel_rfl) (by kernel_rfl) (by kernel_rfl) (by kernel_rfl) (fun _ _ _ h => h) hH (Or.inl ⟨by rfl, ?_⟩) ?_
            rotate_left
            · (intro wv hSw; (try dsimp only at hSw); go_simp; try with_reducible rfl)
            try simp only [Act.put, List.setIfInBounds_toArray, List.set_cons_zero, List.set_cons_succ]
            refine wpAnyX_oneL (i := 15) rfl (by kernel_rfl) (fun KQ hK => ?_)
            go_simp
            refine hK.out _ _ (fun h => absurd rfl h) (fun _ => ?_)
            clear hK KQ
            refine wpAnyX_done (by kernel_rfl) ?_ _
            clear SD SL SE SF SG hH
            go_wp2_with fail
            go_meet
            have N7 := N5.out.put (r := []) HSS.out hBS h0S (x := ⟨at_.id, figS, decS f1, oneLn kd ks⟩) HR7.out HG7.out HA7.out
            unfold NdR
            rw [HE.out, ← HF1.out, ← HSS.out]
            exact ⟨_, _, N7, HP8.out, HN8.out⟩
          · obtain ⟨cA, fA, tA, eA, outA⟩ := sA
            have HE : Hid (sB = ⟨cA, fA, tA + 1, eA, outA ++ [⟨at_.id, tabS, decS (tA + 1), oneLn kd ks⟩]⟩) := by show _ = _; rw [HSB.out, hk]; rfl
            have hb3 := HNB3.out
            rw [HE.out] at hb3
            have hfb : tA + 1 ≤ 900000 := Nat.le_trans hb3.t (by have := hll; omega)
            have hob : outA.length ≤ 900000 := by
              have := hb3.o
              simp only [List.length_append, List.length_singleton] at this
              omega
            obtain ⟨b0, b1, b2, b3, b4, b5, hc6, hcx⟩ := HN2.out.x
            dsimp only at hc6 hcx
            subst hc6
            obtain ⟨no', hno'⟩ : ∃ no', no' = (outA.map Nm.d).length := ⟨_, rfl⟩
            have hnob : no' ≤ 900000 := by rw [hno', List.length_map]; exact hob
            obtain ⟨av', cv', rfl⟩ := own_slice HN2.out.row.own
            have HVP2 : Hid (∀ g, (Value.slice av' (outA.map Nm.d).length cv').ownBlock = some g → g < wD.heap.size) := fun g e => (HN2.out.row.own.lt g e).2
            rw [← hno'] at hcx HN2 HVP2 HNE1
            have HNO' := Lib.hid hno'.symm
            have HCX := Lib.hid hcx
            have q := hcx.cell 9 _ rfl
            obtain ⟨f1, hf1⟩ : ∃ f1, f1 = tA + 1 := ⟨_, rfl⟩
            have hwr : IntKind.i64.wrap ((tA : Int) + 1) = (f1 : Int) := by rw [IntWalk.i64_in _ (by omega), hf1]; rfl
            have HF1 := Lib.hid hf1
            have xf := cb_free hcx (9)
            have hSl := hcx.lt
            obtain ⟨w4, hw4⟩ : ∃ w4, w4 = wD.setCell ⟨S, 9, none⟩ (.int .i64 (f1 : Int)) := ⟨_, rfl⟩
            have X4 : CB 103 S (ndC b0 b1 b2 b3 b4 b5 fA f1 eA (.slice av' no' cv')) w4 := by rw [hw4]; exact cb_set hcx 9 _
            have N4 := (HN2.out).cnts (s' := ⟨[b0, b1, b2, b3, b4, b5], fA, f1, eA, outA⟩) HSS.out hBS h0S (grown_setc wD S 9 (.int .i64 (f1 : Int))) rfl rfl (by rw [← hw4]; exact X4)
            rw [← hw4] at N4
            have P4 : CB 53 p [.int .i64 kd, .int .i64 lv, .string i, .string t, .string d, .string ti, .string at_.id, .slice ac nc cc, .slice ap np cp, .slice al nl cl, .slice ak nk ck] w4 := by rw [hw4]; exact cb_grown HP2.out (grown_setc _ _ _ _) (fun e => by have := Option.some.inj e; omega)
            obtain ⟨wL, hwL⟩ : ∃ wL, wL = (w4.alloc (.cells #[.string ⟨#[]⟩, .string ⟨#[102, 105, 103, 117, 114, 101]⟩, .string ⟨#[116, 97, 98, 108, 101]⟩, .string ⟨#[101, 113, 117, 97, 116, 105, 111, 110]⟩] 9)).drew := ⟨_, rfl⟩
            have gL : w4.grownBy wL none := by 
              have h := World.grownBy_alloc w4 (.cells #[.string ⟨#[]⟩, .string ⟨#[102, 105, 103, 117, 114, 101]⟩, .string ⟨#[116, 97, 98, 108, 101]⟩, .string ⟨#[101, 113, 117, 97, 116, 105, 111, 110]⟩] 9) none
              rw [hwL]; exact ⟨h.os, h.tape, h.output, h.size, h.block⟩
            have lit : wL.cell? ⟨w4.heap.size, 2, none⟩ = some (.string ⟨#[116, 97, 98, 108, 101]⟩) := by rw [hwL]; exact (CB.new 9 [.string ⟨#[]⟩, .string ⟨#[102, 105, 103, 117, 114, 101]⟩, .string ⟨#[116, 97, 98, 108, 101]⟩, .string ⟨#[101, 113, 117, 97, 116, 105, 111, 110]⟩] w4).cell 2 _ rfl
            have NL := N4.grown gL
            have PL := cb_grown P4 gL (by simp)
            have XL := cb_grown X4 gL (by simp)
            have bBL := NL.belB (by omega) (fun g e => by have := HV0.out g e; omega)
            have bzL := bBL.size
            have ON := Lib.hid (r22one_any kd lv i t d ti at_ li ks ac ap al ak nc cc np cp nl cl nk ck ⟨#[116, 97, 98, 108, 101]⟩ f1 (· < B) wL (HR.out.kids.below bBL) (fun b hb => by omega) (by omega))
            have SD := sec_kd (w := w4.drew) (X4.cell 11 _ rfl) (X4.cell 9 _ rfl) P4
            have SL := sec_kd (XL.cell 11 _ rfl) (XL.cell 9 _ rfl) PL
            have HNL := Lib.hid NL
            have HPL := Lib.hid PL
            have HXL := Lib.hid XL
            have HWL := Lib.hid hwL.symm
            have HW4 := Lib.hid hw4.symm
            clear hcx hno' hb3 hf1 hk HK4 HSB HSA N4 NL PL XL P4 X4 bBL bzL gL hwL hw4
            clear IH HS HRD HNB HSN HSP HNB2 HR hszx hszl hszk HPA HNO HV0 HHB HVP HNB3 HN2 HP2 HCX hll hmx hcap hlt hsz hM HND HSB0
            go_upto_region 16 with (fail)
            rw [HW4.out]
            clear HW4 q xf hwr
            refine wp_region_x 15 (fun w' => w'.cell? ⟨S, 11, none⟩ = some (.slice av' no' cv') ∧ w'.cell? ⟨S, 9, none⟩ = some (.int .i64 (f1 : Int)) ∧ w'.cell? ⟨p, 0, none⟩ = some (.int .i64 kd) ∧ w'.cell? ⟨p, 1, none⟩ = some (.int .i64 lv) ∧ w'.cell? ⟨p, 2, none⟩ = some (.string i) ∧ w'.cell? ⟨p, 3, none⟩ = some (.string t) ∧ w'.cell? ⟨p, 4, none⟩ = some (.string d) ∧ w'.cell? ⟨p, 5, none⟩ = some (.string ti) ∧ w'.cell? ⟨p, 6, none⟩ = some (.string at_.id) ∧ w'.cell? ⟨p, 7, none⟩ = some (.slice ac nc cc) ∧ w'.cell? ⟨p, 8, none⟩ = some (.slice ap np cp) ∧ w'.cell? ⟨p, 9, none⟩ = some (.slice al nl cl) ∧ w'.cell? ⟨p, 10, none⟩ = some (.slice ak nk ck)) (by kernel_rfl) SD ?_
            intro hH
            refine wpAnyX_takeL (i := 0) (v := ?_) rfl (by kernel_rfl) (by kernel_rfl) (by kernel_rfl) (by kernel_rfl) (fun _ _ _ h => h) hH (Or.inl ⟨by rfl, ?_⟩) ?_
            rotate_left
            · (intro wv hSw; (try dsimp only at hSw); go_simp; try with_reducible rfl)
            try simp only [Act.put, List.setIfInBounds_toArray, List.set_cons_zero, List.set_cons_succ]
            refine wpAnyX_takeL (i := 1) (v := ?_) rfl (by kernel_rfl) (by kernel_rfl) (by kernel_rfl) (by kernel_rfl) (fun _ _ _ h => h) hH (Or.inl ⟨by rfl, ?_⟩) ?_
            rotate_left
            · (intro wv hSw; (try dsimp only at hSw); go_simp; try with_reducible rfl)
            try simp only [Act.put, List.setIfInBounds_toArray, List.set_cons_zero, List.set_cons_succ]
            refine wpAnyX_takeL (i := 2) (v := ?_) rfl (by kernel_rfl) (by kernel_rfl) (by kernel_rfl) (by kernel_rfl) (fun _ _ _ h => h) hH (Or.inl ⟨by rfl, ?_⟩) ?_
            rotate_left
            · (intro wv hSw; (try dsimp only at hSw); go_simp; try with_reducible rfl)
            try simp only [Act.put, List.setIfInBounds_toArray, List.set_cons_zero, List.set_cons_succ]
            refine wpAnyX_takeL (i := 4) (v := ?_) rfl (by kernel_rfl) (by kernel_rfl) (by kernel_rfl) (by kernel_rfl) (fun _ _ _ h => h) hH (Or.inl ⟨by rfl, ?_⟩) ?_
            rotate_left
            · (intro wv hSw; (try dsimp only at hSw); go_simp; try with_reducible rfl)
            try simp only [Act.put, List.setIfInBounds_toArray, List.set_cons_zero, List.set_cons_succ]
            refine wpAnyX_takeL (i := 7) (v := ?_) rfl (by kernel_rfl) (by kernel_rfl) (by kernel_rfl) (by kernel_rfl) (fun _ _ _ h => h) hH (Or.inl ⟨by rfl, ?_⟩) ?_
            rotate_left
            · (intro wv hSw; (try dsimp only at hSw); go_simp; try with_reducible rfl)
            try simp only [Act.put, List.setIfInBounds_toArray, List.set_cons_zero, List.set_cons_succ]
            refine wpAnyX_takeL (i := 8) (v := ?_) rfl (by kernel_rfl) (by kernel_rfl) (by kernel_rfl) (by kernel_rfl) (fun _ _ _ h => h) hH (Or.inl ⟨by rfl, ?_⟩) ?_
            rotate_left
            · (intro wv hSw; (try dsimp only at hSw); go_simp; try with_reducible rfl)
            try simp only [Act.put, List.setIfInBounds_toArray, List.set_cons_zero, List.set_cons_succ]
            refine wpAnyX_takeL (i := 9) (v := ?_) rfl (by kernel_rfl) (by kernel_rfl) (by kernel_rfl) (by kernel_rfl) (fun _ _ _ h => h) hH (Or.inl ⟨by rfl, ?_⟩) ?_
            rotate_left
            · (intro wv hSw; (try dsimp only at hSw); go_simp; try with_reducible rfl)
            try simp only [Act.put, List.setIfInBounds_toArray, List.set_cons_zero, List.set_cons_succ]
            refine wpAnyX_takeL (i := 10) (v := ?_) rfl (by kernel_rfl) (by kernel_rfl) (by kernel_rfl) (by kernel_rfl) (fun _ _ _ h => h) hH (Or.inl ⟨by rfl, ?_⟩) ?_
            rotate_left
            · (intro wv hSw; (try dsimp only at hSw); go_simp; try with_reducible rfl)
            try simp only [Act.put, List.setIfInBounds_toArray, List.set_cons_zero, List.set_cons_succ]
            refine wpAnyX_oneL (i := 3) rfl (by kernel_rfl) (fun KQ hK => ?_)
            go_simp
            rw [HWL.out]
            refine hK.out _ _ (fun _ => SL) (fun hH2 => ?_)
            clear hK KQ hH
            have hH := hH2 (by decide)
            clear hH2
            try simp only [Act.put, List.setIfInBounds_toArray, List.set_cons_zero, List.set_cons_succ]
            refine wpAnyX_takeL (i := 5) (v := ?_) rfl (by kernel_rfl) (by kernel_rfl) (by kernel_rfl) (by kernel_rfl) (fun _ _ _ h => h) hH (Or.inl ⟨by rfl, ?_⟩) ?_
            rotate_left
            · (intro wv hSw; (try dsimp only at hSw); go_simp; try with_reducible rfl)
            try simp only [Act.put, List.setIfInBounds_toArray, List.set_cons_zero, List.set_cons_succ]
            refine wpAnyX_oneL (i := 6) rfl (by kernel_rfl) (fun KQ hK => ?_)
            go_simp
            refine hK.out _ _ (fun _ => SL) (fun hH2 => ?_)
            clear hK KQ hH
            have hH := hH2 (by decide)
            clear hH2
            try simp only [Act.put, List.setIfInBounds_toArray, List.set_cons_zero, List.set_cons_succ]
            refine wpAnyX_oneL (i := 11) rfl (by kernel_rfl) (fun KQ hK => ?_)
            go_simp
            go_at_call 98
            (with_reducible refine ON.out.mono ?_)
            rintro e w5 ⟨vx, rfl, hrd5, bl5⟩
            obtain ⟨ax, nx, cx, rfl⟩ := Rd.slf hrd5
            have N5 := Lib.hid (HNL.out.below bl5)
            have P5 := Lib.hid (HPL.out.below bl5)
            have X5 := HXL.out.below bl5
            have LN5 := Lib.hid hrd5
            have SE := sec_kd (X5.cell 11 _ rfl) (X5.cell 9 _ rfl) P5.out
            have X5a : CB 103 S (ndC b0 b1 b2 b3 b4 b5 fA f1 eA (.slice av' no' cv')) (w5.alloc (.cells #[.string at_.id, .string ⟨#[116, 97, 98, 108, 101]⟩, .string (decS f1), .slice ax nx cx] 49)) := cb_grown X5 (World.grownBy_alloc w5 _ none) (by simp)
            have P5a : CB 53 p [.int .i64 kd, .int .i64 lv, .string i, .string t, .string d, .string ti, .string at_.id, .slice ac nc cc, .slice ap np cp, .slice al nl cl, .slice ak nk ck] (w5.alloc (.cells #[.string at_.id, .string ⟨#[116, 97, 98, 108, 101]⟩, .string (decS f1), .slice ax nx cx] 49)) := cb_grown P5.out (World.grownBy_alloc w5 _ none) (by simp)
            have SF := sec_kd (X5a.cell 11 _ rfl) (X5a.cell 9 _ rfl) P5a
            have HX5a := Lib.hid X5a
            have HP5a := Lib.hid P5a
            clear bl5 X5 X5a P5a hrd5
            go_wp2_with fail
            refine hK.out _ _ (fun _ => SE) (fun hH2 => ?_)
            clear hK KQ hH
            have hH := hH2 (by decide)
            clear hH2
            try simp only [Act.put, List.setIfInBounds_toArray, List.set_cons_zero, List.set_cons_succ]
            refine wpAnyX_oneL (i := 12) rfl (by kernel_rfl) (fun KQ hK => ?_)
            go_simp
            refine hK.out _ _ (fun _ => SF) (fun hH2 => ?_)
            clear hK KQ hH
            have hH := hH2 (by decide)
            clear hH2
            try simp only [Act.put, List.setIfInBounds_toArray, List.set_cons_zero, List.set_cons_succ]
            refine wpAnyX_oneL (i := 13) rfl (by kernel_rfl) (fun KQ hK => ?_)
            refine step_rput rfl (.tmp 65) (.tmp 76) 36 rfl iN _ 72 Tryz.underlying36 hiN hzN0 hzN1 hzN2 rfl (by decide) N5.out.row hB (Nm.mk at_.id tabS (decS f1) (oneLn kd ks)).d [.string at_.id, .string ⟨#[116, 97, 98, 108, 101]⟩, .string (decS f1), .slice ax nx cx] (Nm.mk_ ⟨at_.id, tabS, decS f1, oneLn kd ks⟩ LN5.out) rfl one_four HNO'.out (by omega) (by decide) rfl rfl ?_
            intro a7 c7 w7 hrow7 hg7 hat7
            have X7 : CB 103 S (ndC b0 b1 b2 b3 b4 b5 fA f1 eA (.slice av' no' cv')) w7 := cb_grown HX5a.out hg7 (fun e => N5.out.n1 e.symm)
            have P7 : CB 53 p [.int .i64 kd, .int .i64 lv, .string i, .string t, .string d, .string ti, .string at_.id, .slice ac nc cc, .slice ap np cp, .slice al nl cl, .slice ak nk ck] w7 := cb_grown HP5a.out hg7 (fun e => HNE1.out e.symm)
            have l7 := X7.lt
            have l11 := X7.cell 11 _ rfl
            have lf := cb_free X7
            have SG := sec_kd (X7.cell 11 _ rfl) (X7.cell 9 _ rfl) P7
            have HN8 : Hid ((Value.slice a7 (no' + 1) c7).ownBlock ≠ some p) := by
              show _ ≠ _
              have hp5 := P5.out.lt
              rcases hat7 with e | e
              · rw [e]; exact HNE1.out
              · rw [e]; exact fun e2 => by have := Option.some.inj e2; omega
            have HP8 := Lib.hid (show CB 53 p [.int .i64 kd, .int .i64 lv, .string i, .string t, .string d, .string ti, .string at_.id, .slice ac nc cc, .slice ap np cp, .slice al nl cl, .slice ak nk ck] (w7.setCell ⟨S, 11, none⟩ (.slice a7 (no' + 1) c7)) from cb_grown P7 (grown_setc _ _ _ _) (fun e => by have := Option.some.inj e; omega))
            have HR7 := Lib.hid hrow7
            have HG7 := Lib.hid hg7
            have HA7 := Lib.hid hat7
            clear hrow7 hg7 hat7 X7 P7
            refine hK.out _ _ (fun _ => SG) (fun hH2 => ?_)
            clear hK KQ hH
            have hH := hH2 (by decide)
            clear hH2
            try simp only [Act.put, List.setIfInBounds_toArray, List.set_cons_zero, List.set_cons_succ]
            refine wpAnyX_takeL (i := 14) (v := ?_) rfl (by kernel_rfl) (by kernel_rfl) (by kernel_rfl) (by kernel_rfl) (fun _ _ _ h => h) hH (Or.inl ⟨by rfl, ?_⟩) ?_
            rotate_left
            · (intro wv hSw; (try dsimp only at hSw); go_simp; try with_reducible rfl)
            try simp only [Act.put, List.setIfInBounds_toArray, List.set_cons_zero, List.set_cons_succ]
            refine wpAnyX_oneL (i := 15) rfl (by kernel_rfl) (fun KQ hK => ?_)
            go_simp
            refine hK.out _ _ (fun h => absurd rfl h) (fun _ => ?_)
            clear hK KQ
            refine wpAnyX_done (by kernel_rfl) ?_ _
            clear SD SL SE SF SG hH
            go_wp2_with fail
            go_meet
            have N7 := N5.out.put (r := []) HSS.out hBS h0S (x := ⟨at_.id, tabS, decS f1, oneLn kd ks⟩) HR7.out HG7.out HA7.out
            unfold NdR
            rw [HE.out, ← HF1.out, ← HSS.out]
            exact ⟨_, _, N7, HP8.out, HN8.out⟩
          · obtain ⟨cA, fA, tA, eA, outA⟩ := sA
            have HE : Hid (sB = ⟨cA, fA, tA, eA + 1, outA ++ [⟨at_.id, equS, decS (eA + 1), oneLn kd ks⟩]⟩) := by show _ = _; rw [HSB.out, hk]; rfl
            have hb3 := HNB3.out
            rw [HE.out] at hb3
            have hfb : eA + 1 ≤ 900000 := Nat.le_trans hb3.e (by have := hll; omega)
            have hob : outA.length ≤ 900000 := by
              have := hb3.o
              simp only [List.length_append, List.length_singleton] at this
              omega
            obtain ⟨b0, b1, b2, b3, b4, b5, hc6, hcx⟩ := HN2.out.x
            dsimp only at hc6 hcx
            subst hc6
            obtain ⟨no', hno'⟩ : ∃ no', no' = (outA.map Nm.d).length := ⟨_, rfl⟩
            have hnob : no' ≤ 900000 := by rw [hno', List.length_map]; exact hob
            obtain ⟨av', cv', rfl⟩ := own_slice HN2.out.row.own
            have HVP2 : Hid (∀ g, (Value.slice av' (outA.map Nm.d).length cv').ownBlock = some g → g < wD.heap.size) := fun g e => (HN2.out.row.own.lt g e).2
            rw [← hno'] at hcx HN2 HVP2 HNE1
            have HNO' := Lib.hid hno'.symm
            have HCX := Lib.hid hcx
            have q := hcx.cell 10 _ rfl
            obtain ⟨f1, hf1⟩ : ∃ f1, f1 = eA + 1 := ⟨_, rfl⟩
            have hwr : IntKind.i64.wrap ((eA : Int) + 1) = (f1 : Int) := by rw [IntWalk.i64_in _ (by omega), hf1]; rfl
            have HF1 := Lib.hid hf1
            have xf := cb_free hcx (10)
            have hSl := hcx.lt
            obtain ⟨w4, hw4⟩ : ∃ w4, w4 = wD.setCell ⟨S, 10, none⟩ (.int .i64 (f1 : Int)) := ⟨_, rfl⟩
            have X4 : CB 103 S (ndC b0 b1 b2 b3 b4 b5 fA tA f1 (.slice av' no' cv')) w4 := by rw [hw4]; exact cb_set hcx 10 _
            have N4 := (HN2.out).cnts (s' := ⟨[b0, b1, b2, b3, b4, b5], fA, tA, f1, outA⟩) HSS.out hBS h0S (grown_setc wD S 10 (.int .i64 (f1 : Int))) rfl rfl (by rw [← hw4]; exact X4)
            rw [← hw4] at N4
            have P4 : CB 53 p [.int .i64 kd, .int .i64 lv, .string i, .string t, .string d, .string ti, .string at_.id, .slice ac nc cc, .slice ap np cp, .slice al nl cl, .slice ak nk ck] w4 := by rw [hw4]; exact cb_grown HP2.out (grown_setc _ _ _ _) (fun e => by have := Option.some.inj e; omega)
            obtain ⟨wL, hwL⟩ : ∃ wL, wL = (w4.alloc (.cells #[.string ⟨#[]⟩, .string ⟨#[102, 105, 103, 117, 114, 101]⟩, .string ⟨#[116, 97, 98, 108, 101]⟩, .string ⟨#[101, 113, 117, 97, 116, 105, 111, 110]⟩] 9)).drew := ⟨_, rfl⟩
            have gL : w4.grownBy wL none := by 
              have h := World.grownBy_alloc w4 (.cells #[.string ⟨#[]⟩, .string ⟨#[102, 105, 103, 117, 114, 101]⟩, .string ⟨#[116, 97, 98, 108, 101]⟩, .string ⟨#[101, 113, 117, 97, 116, 105, 111, 110]⟩] 9) none
              rw [hwL]; exact ⟨h.os, h.tape, h.output, h.size, h.block⟩
            have lit : wL.cell? ⟨w4.heap.size, 3, none⟩ = some (.string ⟨#[101, 113, 117, 97, 116, 105, 111, 110]⟩) := by rw [hwL]; exact (CB.new 9 [.string ⟨#[]⟩, .string ⟨#[102, 105, 103, 117, 114, 101]⟩, .string ⟨#[116, 97, 98, 108, 101]⟩, .string ⟨#[101, 113, 117, 97, 116, 105, 111, 110]⟩] w4).cell 3 _ rfl
            have NL := N4.grown gL
            have PL := cb_grown P4 gL (by simp)
            have XL := cb_grown X4 gL (by simp)
            have bBL := NL.belB (by omega) (fun g e => by have := HV0.out g e; omega)
            have bzL := bBL.size
            have ON := Lib.hid (r22one_any kd lv i t d ti at_ li ks ac ap al ak nc cc np cp nl cl nk ck ⟨#[101, 113, 117, 97, 116, 105, 111, 110]⟩ f1 (· < B) wL (HR.out.kids.below bBL) (fun b hb => by omega) (by omega))
            have SD := sec_kd (w := w4.drew) (X4.cell 11 _ rfl) (X4.cell 10 _ rfl) P4
            have SL := sec_kd (XL.cell 11 _ rfl) (XL.cell 10 _ rfl) PL
            have HNL := Lib.hid NL
            have HPL := Lib.hid PL
            have HXL := Lib.hid XL
            have HWL := Lib.hid hwL.symm
            have HW4 := Lib.hid hw4.symm
            clear hcx hno' hb3 hf1 hk HK4 HSB HSA N4 NL PL XL P4 X4 bBL bzL gL hwL hw4
            clear IH HS HRD HNB HSN HSP HNB2 HR hszx hszl hszk HPA HNO HV0 HHB HVP HNB3 HN2 HP2 HCX hll hmx hcap hlt hsz hM HND HSB0
            go_upto_region 16 with (fail)
            rw [HW4.out]
            clear HW4 q xf hwr
            refine wp_region_x 15 (fun w' => w'.cell? ⟨S, 11, none⟩ = some (.slice av' no' cv') ∧ w'.cell? ⟨S, 10, none⟩ = some (.int .i64 (f1 : Int)) ∧ w'.cell? ⟨p, 0, none⟩ = some (.int .i64 kd) ∧ w'.cell? ⟨p, 1, none⟩ = some (.int .i64 lv) ∧ w'.cell? ⟨p, 2, none⟩ = some (.string i) ∧ w'.cell? ⟨p, 3, none⟩ = some (.string t) ∧ w'.cell? ⟨p, 4, none⟩ = some (.string d) ∧ w'.cell? ⟨p, 5, none⟩ = some (.string ti) ∧ w'.cell? ⟨p, 6, none⟩ = some (.string at_.id) ∧ w'.cell? ⟨p, 7, none⟩ = some (.slice ac nc cc) ∧ w'.cell? ⟨p, 8, none⟩ = some (.slice ap np cp) ∧ w'.cell? ⟨p, 9, none⟩ = some (.slice al nl cl) ∧ w'.cell? ⟨p, 10, none⟩ = some (.slice ak nk ck)) (by kernel_rfl) SD ?_
            intro hH
            refine wpAnyX_takeL (i := 0) (v := ?_) rfl (by kernel_rfl) (by kernel_rfl) (by kernel_rfl) (by kernel_rfl) (fun _ _ _ h => h) hH (Or.inl ⟨by rfl, ?_⟩) ?_
            rotate_left
            · (intro wv hSw; (try dsimp only at hSw); go_simp; try with_reducible rfl)
            try simp only [Act.put, List.setIfInBounds_toArray, List.set_cons_zero, List.set_cons_succ]
            refine wpAnyX_takeL (i := 1) (v := ?_) rfl (by kernel_rfl) (by kernel_rfl) (by kernel_rfl) (by kernel_rfl) (fun _ _ _ h => h) hH (Or.inl ⟨by rfl, ?_⟩) ?_
            rotate_left
            · (intro wv hSw; (try dsimp only at hSw); go_simp; try with_reducible rfl)
            try simp only [Act.put, List.setIfInBounds_toArray, List.set_cons_zero, List.set_cons_succ]
            refine wpAnyX_takeL (i := 2) (v := ?_) rfl (by kernel_rfl) (by kernel_rfl) (by kernel_rfl) (by kernel_rfl) (fun _ _ _ h => h) hH (Or.inl ⟨by rfl, ?_⟩) ?_
            rotate_left
            · (intro wv hSw; (try dsimp only at hSw); go_simp; try with_reducible rfl)
            try simp only [Act.put, List.setIfInBounds_toArray, List.set_cons_zero, List.set_cons_succ]
            refine wpAnyX_takeL (i := 4) (v := ?_) rfl (by kernel_rfl) (by kernel_rfl) (by kernel_rfl) (by kernel_rfl) (fun _ _ _ h => h) hH (Or.inl ⟨by rfl, ?_⟩) ?_
            rotate_left
            · (intro wv hSw; (try dsimp only at hSw); go_simp; try with_reducible rfl)
            try simp only [Act.put, List.setIfInBounds_toArray, List.set_cons_zero, List.set_cons_succ]
            refine wpAnyX_takeL (i := 7) (v := ?_) rfl (by kernel_rfl) (by kernel_rfl) (by kernel_rfl) (by kernel_rfl) (fun _ _ _ h => h) hH (Or.inl ⟨by rfl, ?_⟩) ?_
            rotate_left
            · (intro wv hSw; (try dsimp only at hSw); go_simp; try with_reducible rfl)
            try simp only [Act.put, List.setIfInBounds_toArray, List.set_cons_zero, List.set_cons_succ]
            refine wpAnyX_takeL (i := 8) (v := ?_) rfl (by kernel_rfl) (by kernel_rfl) (by kernel_rfl) (by kernel_rfl) (fun _ _ _ h => h) hH (Or.inl ⟨by rfl, ?_⟩) ?_
            rotate_left
            · (intro wv hSw; (try dsimp only at hSw); go_simp; try with_reducible rfl)
            try simp only [Act.put, List.setIfInBounds_toArray, List.set_cons_zero, List.set_cons_succ]
            refine wpAnyX_takeL (i := 9) (v := ?_) rfl (by kernel_rfl) (by kernel_rfl) (by kernel_rfl) (by kernel_rfl) (fun _ _ _ h => h) hH (Or.inl ⟨by rfl, ?_⟩) ?_
            rotate_left
            · (intro wv hSw; (try dsimp only at hSw); go_simp; try with_reducible rfl)
            try simp only [Act.put, List.setIfInBounds_toArray, List.set_cons_zero, List.set_cons_succ]
            refine wpAnyX_takeL (i := 10) (v := ?_) rfl (by kernel_rfl) (by kernel_rfl) (by kernel_rfl) (by kernel_rfl) (fun _ _ _ h => h) hH (Or.inl ⟨by rfl, ?_⟩) ?_
            rotate_left
            · (intro wv hSw; (try dsimp only at hSw); go_simp; try with_reducible rfl)
            try simp only [Act.put, List.setIfInBounds_toArray, List.set_cons_zero, List.set_cons_succ]
            refine wpAnyX_oneL (i := 3) rfl (by kernel_rfl) (fun KQ hK => ?_)
            go_simp
            rw [HWL.out]
            refine hK.out _ _ (fun _ => SL) (fun hH2 => ?_)
            clear hK KQ hH
            have hH := hH2 (by decide)
            clear hH2
            try simp only [Act.put, List.setIfInBounds_toArray, List.set_cons_zero, List.set_cons_succ]
            refine wpAnyX_takeL (i := 5) (v := ?_) rfl (by kernel_rfl) (by kernel_rfl) (by kernel_rfl) (by kernel_rfl) (fun _ _ _ h => h) hH (Or.inl ⟨by rfl, ?_⟩) ?_
            rotate_left
            · (intro wv hSw; (try dsimp only at hSw); go_simp; try with_reducible rfl)
            try simp only [Act.put, List.setIfInBounds_toArray, List.set_cons_zero, List.set_cons_succ]
            refine wpAnyX_oneL (i := 6) rfl (by kernel_rfl) (fun KQ hK => ?_)
            go_simp
            refine hK.out _ _ (fun _ => SL) (fun hH2 => ?_)
            clear hK KQ hH
            have hH := hH2 (by decide)
            clear hH2
            try simp only [Act.put, List.setIfInBounds_toArray, List.set_cons_zero, List.set_cons_succ]
            refine wpAnyX_oneL (i := 11) rfl (by kernel_rfl) (fun KQ hK => ?_)
            go_simp
            go_at_call 98
            (with_reducible refine ON.out.mono ?_)
            rintro e w5 ⟨vx, rfl, hrd5, bl5⟩
            obtain ⟨ax, nx, cx, rfl⟩ := Rd.slf hrd5
            have N5 := Lib.hid (HNL.out.below bl5)
            have P5 := Lib.hid (HPL.out.below bl5)
            have X5 := HXL.out.below bl5
            have LN5 := Lib.hid hrd5
            have SE := sec_kd (X5.cell 11 _ rfl) (X5.cell 10 _ rfl) P5.out
            have X5a : CB 103 S (ndC b0 b1 b2 b3 b4 b5 fA tA f1 (.slice av' no' cv')) (w5.alloc (.cells #[.string at_.id, .string ⟨#[101, 113, 117, 97, 116, 105, 111, 110]⟩, .string (decS f1), .slice ax nx cx] 49)) := cb_grown X5 (World.grownBy_alloc w5 _ none) (by simp)
            have P5a : CB 53 p [.int .i64 kd, .int .i64 lv, .string i, .string t, .string d, .string ti, .string at_.id, .slice ac nc cc, .slice ap np cp, .slice al nl cl, .slice ak nk ck] (w5.alloc (.cells #[.string at_.id, .string ⟨#[101, 113, 117, 97, 116, 105, 111, 110]⟩, .string (decS f1), .slice ax nx cx] 49)) := cb_grown P5.out (World.grownBy_alloc w5 _ none) (by simp)
            have SF := sec_kd (X5a.cell 11 _ rfl) (X5a.cell 10 _ rfl) P5a
            have HX5a := Lib.hid X5a
            have HP5a := Lib.hid P5a
            clear bl5 X5 X5a P5a hrd5
            go_wp2_with fail
            refine hK.out _ _ (fun _ => SE) (fun hH2 => ?_)
            clear hK KQ hH
            have hH := hH2 (by decide)
            clear hH2
            try simp only [Act.put, List.setIfInBounds_toArray, List.set_cons_zero, List.set_cons_succ]
            refine wpAnyX_oneL (i := 12) rfl (by kernel_rfl) (fun KQ hK => ?_)
            go_simp
            refine hK.out _ _ (fun _ => SF) (fun hH2 => ?_)
            clear hK KQ hH
            have hH := hH2 (by decide)
            clear hH2
            try simp only [Act.put, List.setIfInBounds_toArray, List.set_cons_zero, List.set_cons_succ]
            refine wpAnyX_oneL (i := 13) rfl (by kernel_rfl) (fun KQ hK => ?_)
            refine step_rput rfl (.tmp 65) (.tmp 76) 36 rfl iN _ 72 Tryz.underlying36 hiN hzN0 hzN1 hzN2 rfl (by decide) N5.out.row hB (Nm.mk at_.id equS (decS f1) (oneLn kd ks)).d [.string at_.id, .string ⟨#[101, 113, 117, 97, 116, 105, 111, 110]⟩, .string (decS f1), .slice ax nx cx] (Nm.mk_ ⟨at_.id, equS, decS f1, oneLn kd ks⟩ LN5.out) rfl one_four HNO'.out (by omega) (by decide) rfl rfl ?_
            intro a7 c7 w7 hrow7 hg7 hat7
            have X7 : CB 103 S (ndC b0 b1 b2 b3 b4 b5 fA tA f1 (.slice av' no' cv')) w7 := cb_grown HX5a.out hg7 (fun e => N5.out.n1 e.symm)
            have P7 : CB 53 p [.int .i64 kd, .int .i64 lv, .string i, .string t, .string d, .string ti, .string at_.id, .slice ac nc cc, .slice ap np cp, .slice al nl cl, .slice ak nk ck] w7 := cb_grown HP5a.out hg7 (fun e => HNE1.out e.symm)
            have l7 := X7.lt
            have l11 := X7.cell 11 _ rfl
            have lf := cb_free X7
            have SG := sec_kd (X7.cell 11 _ rfl) (X7.cell 10 _ rfl) P7
            have HN8 : Hid ((Value.slice a7 (no' + 1) c7).ownBlock ≠ some p) := by
              show _ ≠ _
              have hp5 := P5.out.lt
              rcases hat7 with e | e
              · rw [e]; exact HNE1.out
              · rw [e]; exact fun e2 => by have := Option.some.inj e2; omega
            have HP8 := Lib.hid (show CB 53 p [.int .i64 kd, .int .i64 lv, .string i, .string t, .string d, .string ti, .string at_.id, .slice ac nc cc, .slice ap np cp, .slice al nl cl, .slice ak nk ck] (w7.setCell ⟨S, 11, none⟩ (.slice a7 (no' + 1) c7)) from cb_grown P7 (grown_setc _ _ _ _) (fun e => by have := Option.some.inj e; omega))
            have HR7 := Lib.hid hrow7
            have HG7 := Lib.hid hg7
            have HA7 := Lib.hid hat7
            clear hrow7 hg7 hat7 X7 P7
            refine hK.out _ _ (fun _ => SG) (fun hH2 => ?_)
            clear hK KQ hH
            have hH := hH2 (by decide)
            clear hH2
            try simp only [Act.put, List.setIfInBounds_toArray, List.set_cons_zero, List.set_cons_succ]
            refine wpAnyX_takeL (i := 14) (v := ?_) rfl (by kernel_rfl) (by kernel_rfl) (by kernel_rfl) (by kernel_rfl) (fun _ _ _ h => h) hH (Or.inl ⟨by rfl, ?_⟩) ?_
            rotate_left
            · (intro wv hSw; (try dsimp only at hSw); go_simp; try with_reducible rfl)
            try simp only [Act.put, List.setIfInBounds_toArray, List.set_cons_zero, List.set_cons_succ]
            refine wpAnyX_oneL (i := 15) rfl (by kernel_rfl) (fun KQ hK => ?_)
            go_simp
            refine hK.out _ _ (fun h => absurd rfl h) (fun _ => ?_)
            clear hK KQ
            refine wpAnyX_done (by kernel_rfl) ?_ _
            clear SD SL SE SF SG hH
            go_wp2_with fail
            go_meet
            have N7 := N5.out.put (r := []) HSS.out hBS h0S (x := ⟨at_.id, equS, decS f1, oneLn kd ks⟩) HR7.out HG7.out HA7.out
            unfold NdR
            rw [HE.out, ← HF1.out, ← HSS.out]
            exact ⟨_, _, N7, HP8.out, HN8.out⟩
        case rest =>
        obtain ⟨v3, rows3, hN3, hP3, hne3⟩ := hcut
        obtain ⟨wE, hwE⟩ : ∃ wE : World, wE = wc := ⟨_, rfl⟩
        subst hwE
        rw [← HSS.out] at hN3
        obtain ⟨b0, b1, b2, b3, b4, b5, hc6, hx3⟩ := hN3.x
        obtain ⟨no3, hno3⟩ : ∃ no3, no3 = (sB.out.map Nm.d).length := ⟨_, rfl⟩
        obtain ⟨av3, cv3, rfl⟩ := own_slice hN3.row.own
        rw [← hno3] at hx3 hN3
        obtain ⟨hc, hhc⟩ : ∃ hc, hc = (free && decide (kd = 13)) := ⟨_, rfl⟩
        obtain ⟨sR, hsR⟩ : ∃ sR, sR = Blk.numL hc sB ks := ⟨_, rfl⟩
        have bE := hN3.belB (by omega) (fun g e => by have := HV0.out g e; omega)
        have NI := IH.out (Blk.szL ks) (by omega) ks hc sB (M + Blk.szL (l.take k) + 1) B (.slice ak nk ck) (.slice av3 no3 cv3) rows3 w0 wE b0 b1 b2 b3 b4 b5 (Nat.le_refl _) (HR.out.kids.below bE) hB hc6 HNB3.out (by omega) hN3.row
        have HEND : Hid (∀ (v9 : Value) (rows9 : List (List Value)) (w9 : World), NdB 103 B S w0 w (.slice av no cv) sR v9 rows9 w9 → NdRel B w0 w free ⟨sc, f, t_, e_, out⟩ (.slice av no cv) l (.int .i64 ((k : Int) + 1)) w9) := by
          intro v9 rows9 w9 h9
          refine ⟨k + 1, v9, rows9, by omega, by go_num, ?_⟩
          rw [HSN.out, ← HSP.out, Blk.num, ← HSB0.out, ← hhc, ← hsR, ← HSS.out]
          exact h9
        obtain ⟨y0, y1, y2, y3, y4, y5, y6, y7, y8, y9, y10, y11, yf⟩ := cb_twelve hx3
        obtain ⟨p0, p1, p2, p3, p4, p5, p6, p7, p8, p9, p10⟩ := six_kinds hP3
        have HN3 := Lib.hid hN3
        have HX3 := Lib.hid hx3
        rw [← hsR] at NI
        have HNI := Lib.hid NI
        have h3 : (free = false ∧ hc = false) ∨ (free = true ∧ kd ≠ 13 ∧ hc = false) ∨ (free = true ∧ kd = 13 ∧ hc = true) := by
          rw [hhc]
          cases free with
          | false => exact .inl ⟨rfl, rfl⟩
          | true =>
            by_cases q : kd = 13
            · exact .inr (.inr ⟨rfl, q, by simp [q]⟩)
            · exact .inr (.inl ⟨rfl, q, by simp [q]⟩)
        have H3 := Lib.hid h3
        clear IH HS HRD HNB HSN HSP HNB2 HR hszx hszl hszk HPA HNO HHB HVP HNB3 HSB0 HSB HSA HK4 HND hN3 hx3 NI hP3 hne3 hno3 hc6 hhc hsR bE h3 HNE1 HN2 HP2
        rcases H3.out with ⟨rfl, rfl⟩ | ⟨rfl, q13, rfl⟩ | ⟨rfl, rfl, rfl⟩
        all_goals
          clear H3
          (try have q14 : (kd == 13) = false := beq_eq_false_iff_ne.2 q13)
          go_wp2_with fail
          (with_reducible refine HNI.out.mono ?_)
          rintro e w8 ⟨n0, n1, n2, n3, n4, n5, v9, rows9, hc9, rfl, hrow9, hg9, hat9⟩
          obtain ⟨n9, hn9⟩ : ∃ n9, n9 = (sR.out.map Nm.d).length := ⟨_, rfl⟩
          obtain ⟨a9, k9, rfl⟩ := own_slice hrow9.own
          rw [← hn9] at hrow9 hat9
          rw [← hn9]
          clear hn9
          have X8 : CB 103 S (ndC b0 b1 b2 b3 b4 b5 sB.f sB.t sB.e (.slice av3 no3 cv3)) w8 := cb_grown HX3.out hg9 (fun e => HN3.out.n1 e.symm)
          obtain ⟨z0, z1, z2, z3, z4, z5, z6, z7, z8, z9, z10, z11, zf⟩ := cb_twelve X8
          have l8 := X8.lt
          obtain ⟨w9, hw9⟩ : ∃ w9, w9 = twl w8 S (.int .i64 0) (.int .i64 (n0 : Int)) (.int .i64 (n1 : Int)) (.int .i64 (n2 : Int)) (.int .i64 (n3 : Int)) (.int .i64 (n4 : Int)) (.int .i64 (n5 : Int)) (.int .i64 0) (.int .i64 (sR.f : Int)) (.int .i64 (sR.t : Int)) (.int .i64 (sR.e : Int)) (.slice a9 n9 k9) := ⟨_, rfl⟩
          have g9 : w8.grownBy w9 (some S) := by rw [hw9]; exact twl_grown _ _ _ _ _ _ _ _ _ _ _ _ _ _
          have X9 : CB 103 S (ndC n0 n1 n2 n3 n4 n5 sR.f sR.t sR.e (.slice a9 n9 k9)) w9 := by rw [hw9]; exact twl_cb X8 _ _ _ _ _ _ _ _ _ _ _ _
          have N9 := HN3.out.back HSS.out hBS h0S hrow9 hg9 hat9 g9 hc9 X9
          have HE9 := Lib.hid (HEND.out _ _ _ N9)
          have HW9 := Lib.hid hw9
          clear hc9 hrow9 hg9 hat9 X8 hw9 N9 g9 X9
          go_wp2
          have hk9 := HW9.out
          simp only [twl, sev, Nat.zero_add] at hk9
          go_roundw
          case rel => rw [← hk9]; exact HE9.out
          case measure => simp [intOf]; omega
      · obtain rfl : k = l.length := by omega
        rw [List.take_length] at hnd
        obtain ⟨b0, b1, b2, b3, b4, b5, hc6, hx3⟩ := hnd.x
        obtain ⟨sE, hsE⟩ : ∃ sE, sE = Blk.numL free ⟨sc, f, t_, e_, out⟩ l := ⟨_, rfl⟩
        rw [← hsE] at hnd hc6 hx3
        obtain ⟨nE, hnE⟩ : ∃ nE, nE = (sE.out.map Nm.d).length := ⟨_, rfl⟩
        obtain ⟨aE, cE, rfl⟩ := own_slice hnd.row.own
        rw [← hnE] at hx3
        obtain ⟨y0, y1, y2, y3, y4, y5, y6, y7, y8, y9, y10, y11, yf⟩ := cb_twelve hx3
        obtain ⟨z0, z1, z2, z3, z4, z5, z6, z7, z8, z9, z10, z11, zf⟩ := cb_twelve hnd.r
        have hrl := hnd.r.lt
        obtain ⟨w9, hw9⟩ : ∃ w9, w9 = twl wr (S + 1) (.int .i64 0) (.int .i64 (b0 : Int)) (.int .i64 (b1 : Int)) (.int .i64 (b2 : Int)) (.int .i64 (b3 : Int)) (.int .i64 (b4 : Int)) (.int .i64 (b5 : Int)) (.int .i64 0) (.int .i64 (sE.f : Int)) (.int .i64 (sE.t : Int)) (.int .i64 (sE.e : Int)) (.slice aE nE cE) := ⟨_, rfl⟩
        have g9 : wr.grownBy w9 (some (S + 1)) := by rw [hw9]; exact twl_grown _ _ _ _ _ _ _ _ _ _ _ _ _ _
        have X9 := twl_cb hnd.r (.int .i64 0) (.int .i64 (b0 : Int)) (.int .i64 (b1 : Int)) (.int .i64 (b2 : Int)) (.int .i64 (b3 : Int)) (.int .i64 (b4 : Int)) (.int .i64 (b5 : Int)) (.int .i64 0) (.int .i64 (sE.f : Int)) (.int .i64 (sE.t : Int)) (.int .i64 (sE.e : Int)) (.slice aE nE cE)
        rw [← hw9] at X9
        have HPOST : Hid (NdPost B w0 sE (.slice av no cv) w (.returned (.agg #[.int .i64 0, .int .i64 (b0 : Int), .int .i64 (b1 : Int), .int .i64 (b2 : Int), .int .i64 (b3 : Int), .int .i64 (b4 : Int), .int .i64 (b5 : Int), .int .i64 0, .int .i64 (sE.f : Int), .int .i64 (sE.t : Int), .int .i64 (sE.e : Int), .slice aE nE cE])) w9) := by
          show NdPost _ _ _ _ _ _ _
          have hrow := hnd.row
          rw [← hnE] at hrow
          refine ⟨b0, b1, b2, b3, b4, b5, .slice aE nE cE, rows', hc6, rfl, hrow.hop g9 ?_ (by omega) (by omega), ?_, ?_⟩
          · have := hnd.n2; rw [← hnE] at this; exact this
          · exact grown_new hnd.gr g9 (fun g e => by have := Option.some.inj e; have := HSS.out; omega)
          · have h := hnd.at_
            rw [← hnE] at h
            rcases h with h | h
            · exact .inl h
            · exact .inr (fun g e => by have := h g e; have := HSS.out; omega)
        have HSE := Lib.hid hsE
        have HW9 := Lib.hid hw9
        have HX9 := Lib.hid X9
        clear hnd hc6 hx3 hsE hnE hw9 X9 g9 IH HS HRD HNB HND HNO HV0
        go_wp2
        have hk9 := HW9.out
        simp only [twl, sev, Nat.zero_add] at hk9
        rw [← hk9]
        clear hk9
        obtain ⟨r0, r1, r2, r3, r4, r5, r6, r7, r8, r9, r10, r11, rf⟩ := cb_twelve HX9.out
        rw [← HSE.out]
        exact bodyPost_ret (v := .agg #[.int .i64 0, .int .i64 (b0 : Int), .int .i64 (b1 : Int), .int .i64 (b2 : Int), .int .i64 (b3 : Int), .int .i64 (b4 : Int), .int .i64 (b5 : Int), .int .i64 0, .int .i64 (sE.f : Int), .int .i64 (sE.t : Int), .int .i64 (sE.e : Int), .slice aE nE cE]) (by simp [results, Tryz.results65, go_sem, r0, r1, r2, r3, r4, r5, r6, r7, r8, r9, r10, r11]) rfl HPOST.out
end Go.Proofs.YtlbioncagkkkoaaGreatDoor

namespace Go.Proofs.YtlbioncagkkkoaaGreatDoor
set_option linter.unusedVariables false
set_option linter.unusedSimpArgs false

theorem decV_len (n : Nat) : (Lib.decDigits n).length ≤ n + 1 := by
  induction n using Nat.strongRecOn with
  | _ n ih =>
    rw [Lib.decDigits]
    split
    · simp
    · rename_i h
      rw [List.length_append, List.length_singleton]
      have := ih (n / 10) (by omega)
      omega
theorem dotLV_size (B : Nat) : ∀ (l : List (List UInt8)), (∀ x ∈ l, x.length ≤ B) → (dotL l).length ≤ l.length * (B + 1)
  | [], _ => by simp [dotL]
  | [x], h => by have := h x (by simp); simp [dotL]; omega
  | x :: y :: l, h => by
    have ih := dotLV_size B (y :: l) (fun z hz => h z (List.mem_cons_of_mem _ hz))
    have hx := h x (by simp)
    rw [dotL, List.length_append, List.length_cons]
    have e : (x :: y :: l).length * (B + 1) = (y :: l).length * (B + 1) + (B + 1) := by rw [List.length_cons, Nat.succ_mul]
    rw [e]
    omega
theorem valV_size (c : List Nat) (k M : Nat) (hk : k ≤ 6) (h : ∀ i, c.getD i 0 ≤ M) : (valS c k).size ≤ 6 * (M + 2) := by
  unfold valS
  show (dotL _).toArray.size ≤ _
  rw [List.size_toArray]
  have h1 := dotLV_size (M + 1) ((c.take k).map Lib.decDigits) (by
    intro x hx
    obtain ⟨n, hn, rfl⟩ := List.mem_map.1 hx
    obtain ⟨i, hi, rfl⟩ := List.mem_iff_getElem.1 (List.mem_of_mem_take hn)
    have h2 := h i
    rw [List.getD_eq_getElem?_getD, List.getElem?_eq_getElem hi] at h2
    simp only [Option.getD_some] at h2
    have := decV_len c[i]
    omega)
  rw [List.length_map, List.length_take] at h1
  have h3 : (min k c.length) * (M + 1 + 1) ≤ 6 * (M + 2) := Nat.mul_le_mul (by omega) (by omega)
  omega
theorem decSV_size (n : Nat) : (decS n).size ≤ n + 1 := by
  unfold decS
  show (Lib.decDigits n).toArray.size ≤ _
  rw [List.size_toArray]; exact decV_len n
def VsOk (V : Nat) (x : Nm) : Prop := x.val.size ≤ V
theorem one_vs {s : Ns} {M V : Nat} (h : NsB s M 0) (hM : 6 * (M + 3) ≤ V) (free : Bool) (k lv : Int) (i : ByteArray) (a : At) (li : List Inl) (ks : List Blk) (hs : ∀ x ∈ s.out, VsOk V x) : ∀ x ∈ (numOne free s k lv i a li ks).out, VsOk V x := by
  have add : ∀ (y : Nm), VsOk V y → ∀ x ∈ s.out ++ [y], VsOk V x := by
    intro y hy x hx
    rcases List.mem_append.1 hx with hx | hx
    · exact hs x hx
    · simp at hx; subst hx; exact hy
  have h1 := NsB.one h (nn2 := 0) (by omega) free k lv i a li ks
  unfold numOne at h1 ⊢
  split
  · rename_i hc
    rw [if_pos hc] at h1
    exact add _ (Nat.le_trans (valV_size _ _ _ (lvl_le lv) h1.c) (by omega))
  · split
    · exact add _ (Nat.le_trans (decSV_size _) (by have := h.f; omega))
    · split
      · exact add _ (Nat.le_trans (decSV_size _) (by have := h.t; omega))
      · split
        · exact add _ (Nat.le_trans (decSV_size _) (by have := h.e; omega))
        · exact hs
mutual
theorem Blk.num_vs (V : Nat) : ∀ (b : Blk) (free : Bool) (s : Ns) (M : Nat), NsB s M 0 → 6 * (M + b.sz + 2) ≤ V → (∀ x ∈ s.out, VsOk V x) → ∀ x ∈ (b.num free s).out, VsOk V x
  | .mk k lv i t d ti a li ks, free, s, M, h, hM, hs => by
    rw [Blk.sz] at hM
    rw [Blk.num]
    exact Blk.numL_vs V ks _ _ (M + 1) (NsB.one h (by omega) free k lv i a li ks) (by omega) (one_vs h (by omega) free k lv i a li ks hs)
theorem Blk.numL_vs (V : Nat) : ∀ (l : List Blk) (free : Bool) (s : Ns) (M : Nat), NsB s M 0 → 6 * (M + Blk.szL l + 2) ≤ V → (∀ x ∈ s.out, VsOk V x) → ∀ x ∈ (Blk.numL free s l).out, VsOk V x
  | [], _, _, _, _, _, hs => by rw [Blk.numL]; exact hs
  | x :: l, free, s, M, h, hM, hs => by
    rw [Blk.szL] at hM
    rw [Blk.numL]
    exact Blk.numL_vs V l _ _ (M + x.sz) (Blk.num_nsb x free s M h) (by omega) (Blk.num_vs V x free s M h (by omega) hs)
end
theorem note_vs (V : Nat) : ∀ (l : List ByteArray) (j : Nat), j + l.length + 2 ≤ V → ∀ x ∈ noteNs j l, VsOk V x
  | [], _, _, x, hx => by simp [noteNs] at hx
  | y :: l, j, hj, x, hx => by
    rw [List.length_cons] at hj
    rw [noteNs] at hx
    rcases List.mem_cons.1 hx with rfl | hx
    · exact Nat.le_trans (decSV_size _) (by omega)
    · exact note_vs V l (j + 1) (by omega) x hx
theorem nums_vs (l : List Blk) (h0 : NsB ns0 0 0) : ∀ x ∈ numsL l, VsOk (6 * (Blk.szL l + (Blk.inlsL l).length + 3)) x := by
  intro x hx
  unfold numsL at hx
  rcases List.mem_append.1 hx with hx | hx
  · exact Blk.numL_vs _ l true ns0 0 h0 (by omega) (by simp [ns0]) x hx
  · refine note_vs _ _ 0 ?_ x hx
    have h2 := noteG_le (defN (Blk.eachL l)) (Blk.inlsL l) []
    unfold notesL
    simp only [List.length_nil] at h2
    omega
end Go.Proofs.YtlbioncagkkkoaaGreatDoor
