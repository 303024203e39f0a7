/- Plain part: an anchor is a name with room for a number, and its own anchor; anchors differ. -/
import Derived.Test.YtjobjicdfoklpaaGreatDoorSlugOf
import Derived.Test.YtjobjicdfoklpaaGreatDoorName
namespace Go.Proofs.YtjobjicdfoklpaaGreatDoor
set_option linter.unusedVariables false
set_option linter.unusedSimpArgs false

theorem size_list (s : ByteArray) : s.size = s.data.toList.length := by rw [Array.length_toList]; rfl
theorem takeWhile_all {p : UInt8 → Bool} : ∀ (l : List UInt8), (∀ c ∈ l, p c = true) → l.takeWhile p = l
  | [], _ => rfl
  | c :: l, h => by rw [List.takeWhile_cons, if_pos (h c (by simp)), takeWhile_all l (fun x hx => h x (by simp [hx]))]
def alnC (c : Nat) : Bool := lowLetC c || digC c
/-- Small letters and digits, with single dashes between them; the flag: a dash may come first. -/
def wfA : Bool → List UInt8 → Prop
  | b, [] => b = true
  | b, c :: cs => (alnC c.toNat = true ∧ wfA true cs) ∨ (c = 45 ∧ b = true ∧ wfA false cs)
theorem aln_not45 {c : UInt8} (h : alnC c.toNat = true) : c ≠ 45 := by
  rintro rfl
  exact absurd h (by decide)
theorem wfA_one : ∀ (l : List UInt8) (b : Bool) (c : UInt8), wfA b l → alnC c.toNat = true → wfA b (l ++ [c])
  | [], b, c, h, hc => by unfold wfA at h; subst h; simp only [List.nil_append, wfA]; exact .inl ⟨hc, trivial⟩
  | x :: l, b, c, h, hc => by
    unfold wfA at h
    rw [List.cons_append]
    unfold wfA
    rcases h with ⟨h1, h2⟩ | ⟨h1, h2, h3⟩
    · exact .inl ⟨h1, wfA_one l true c h2 hc⟩
    · exact .inr ⟨h1, h2, wfA_one l false c h3 hc⟩
theorem wfA_two : ∀ (l : List UInt8) (b : Bool) (c : UInt8), wfA b l → alnC c.toNat = true → wfA b (l ++ [45] ++ [c])
  | [], b, c, h, hc => by unfold wfA at h; subst h; simp only [List.nil_append, List.cons_append, wfA]; exact .inr ⟨trivial, trivial, .inl ⟨hc, trivial⟩⟩
  | x :: l, b, c, h, hc => by
    unfold wfA at h
    rw [List.cons_append, List.cons_append]
    unfold wfA
    rcases h with ⟨h1, h2⟩ | ⟨h1, h2, h3⟩
    · exact .inl ⟨h1, wfA_two l true c h2 hc⟩
    · exact .inr ⟨h1, h2, wfA_two l false c h3 hc⟩
theorem aln_lt {c : Nat} (h : alnC c = true) : 48 ≤ c ∧ c ≤ 122 := by
  simp only [alnC, lowLetC, digC, inR, Bool.or_eq_true, Bool.and_eq_true, decide_eq_true_eq] at h
  omega
theorem ofNat_aln {c : Nat} (h : alnC c = true) : (UInt8.ofNat c).toNat = c := by
  have := aln_lt h
  simp; omega
theorem ofG_wf : ∀ (cs : List Nat) (gap : Bool) (acc : List UInt8), (acc ≠ [] → wfA false acc) → ofG cs gap acc ≠ [] → wfA false (ofG cs gap acc)
  | [], gap, acc, h, hn => by rw [ofG] at hn ⊢; exact h hn
  | c :: cs, gap, acc, h, hn => by
    rw [ofG] at hn ⊢
    split at hn
    · rename_i hc
      rw [if_pos hc]
      have hc' : alnC (UInt8.ofNat c).toNat = true := by rw [ofNat_aln hc]; exact hc
      refine ofG_wf cs false _ (fun _ => ?_) hn
      unfold ofAdd
      cases acc with
      | nil => simp only [List.isEmpty_nil, Bool.not_true, Bool.and_false]; exact .inl ⟨hc', by unfold wfA; rfl⟩
      | cons x acc =>
        split
        · exact wfA_two _ _ _ (h (by simp)) hc'
        · exact wfA_one _ _ _ (h (by simp)) hc'
    · rename_i hc
      rw [if_neg hc]
      split at hn
      · rename_i h2; rw [if_pos h2]; exact ofG_wf cs gap acc h hn
      · rename_i h2; rw [if_neg h2]; exact ofG_wf cs true acc h hn

theorem wfA_take : ∀ (l : List UInt8) (b : Bool) (n : Nat), wfA b l → wfA b (l.take n) ∨ (b = false ∧ l.take n = []) ∨ ∃ q, l.take n = q ++ [45] ∧ wfA b q
  | l, b, 0, h => by
    cases b with
    | true => left; simp [wfA]
    | false => right; left; simp
  | [], b, n + 1, h => by left; simpa using h
  | c :: l, b, n + 1, h => by
    unfold wfA at h
    rw [List.take_succ_cons]
    rcases h with ⟨h1, h2⟩ | ⟨h1, h2, h3⟩
    · rcases wfA_take l true n h2 with h | ⟨h, _⟩ | ⟨q, e, h⟩
      · left; unfold wfA; exact .inl ⟨h1, h⟩
      · cases h
      · right; right; refine ⟨c :: q, by rw [e]; rfl, ?_⟩; unfold wfA; exact .inl ⟨h1, h⟩
    · rcases wfA_take l false n h3 with h | ⟨_, h⟩ | ⟨q, e, h⟩
      · left; unfold wfA; exact .inr ⟨h1, h2, h⟩
      · right; right; refine ⟨[], by rw [h, h1]; rfl, ?_⟩; unfold wfA; exact h2
      · right; right; refine ⟨c :: q, by rw [e]; rfl, ?_⟩; unfold wfA; exact .inr ⟨h1, h2, h⟩
theorem wfA_last : ∀ (l : List UInt8) (b : Bool), wfA b l → l.getLast? ≠ some 45
  | [], _, _ => by simp
  | [c], b, h => by
    unfold wfA at h
    rcases h with ⟨h1, _⟩ | ⟨_, _, h3⟩
    · simpa using aln_not45 h1
    · unfold wfA at h3; cases h3
  | c :: d :: l, b, h => by
    unfold wfA at h
    rw [List.getLast?_cons_cons]
    rcases h with ⟨_, h⟩ | ⟨_, _, h⟩
    · exact wfA_last (d :: l) true h
    · exact wfA_last (d :: l) false h
/-- What an anchor is. -/
structure AncL (l : List UInt8) : Prop where
  wf : wfA false l
  len : l.length ≤ 54
  head : ∃ c cs, l = c :: cs ∧ lowLetC c.toNat = true
theorem cut_anc (c : UInt8) (cs : List UInt8) (hc : lowLetC c.toNat = true) (h : wfA false (c :: cs)) : AncL (cutL54 (c :: cs)) := by
  unfold cutL54
  split
  · rename_i hl
    have e : (c :: cs).take 54 = c :: cs.take 53 := by simp
    split
    · rename_i h45
      rcases wfA_take _ _ 54 h with h1 | ⟨_, h1⟩ | ⟨q, e1, h1⟩
      · exact absurd h45 (wfA_last _ _ h1)
      · rw [e] at h1; cases h1
      · rw [e1, List.dropLast_concat]
        have hq : q.length + 1 ≤ 54 := by
          have := congrArg List.length e1
          simp only [List.length_take, List.length_append, List.length_cons, List.length_nil] at this
          omega
        refine ⟨h1, by omega, ?_⟩
        cases q with
        | nil => unfold wfA at h1; cases h1
        | cons x q =>
          rw [e, List.cons_append] at e1
          injection e1 with e1 _
          exact ⟨x, q, rfl, e1 ▸ hc⟩
    · rename_i h45
      rcases wfA_take _ _ 54 h with h1 | ⟨_, h1⟩ | ⟨q, e1, h1⟩
      · exact ⟨h1, by simp; omega, c, cs.take 53, e, hc⟩
      · rw [e] at h1; cases h1
      · exfalso; apply h45; rw [e1]; simp
  · rename_i hl
    exact ⟨h, by omega, c, cs, rfl, hc⟩
theorem slugL_anc (s : ByteArray) : AncL (slugL s) := by
  unfold slugL anchorL
  have h0 := ofG_wf (runes (foldS s)) false [] (fun h => absurd rfl h)
  cases e : ofG (runes (foldS s)) false [] with
  | nil => exact ⟨by unfold secL; simp [wfA]; decide, by decide, 115, _, rfl, by decide⟩
  | cons c cs =>
    rw [e] at h0
    have h := h0 (by simp)
    dsimp only
    split
    · refine cut_anc _ _ (by decide) ?_
      unfold wfA
      refine .inl ⟨by decide, ?_⟩
      unfold wfA
      exact .inr ⟨rfl, rfl, h⟩
    · rename_i hd
      refine cut_anc _ _ ?_ h
      unfold wfA at h
      rcases h with ⟨h, _⟩ | ⟨_, h, _⟩
      · unfold alnC at h
        rw [Bool.or_eq_true] at h
        exact h.resolve_right hd
      · cases h

/-! Its own anchor. -/
theorem runesF_ascii (s : ByteArray) (h : ∀ c ∈ s.data.toList, c.toNat < 128) : ∀ (f i : Nat), s.size ≤ i + f → runesF s f i = (s.data.toList.drop i).map UInt8.toNat
  | 0, i, hf => by
    rw [runesF, List.drop_eq_nil_of_le]
    · rfl
    · rw [← size_list]; omega
  | f + 1, i, hf => by
    rw [runesF]
    split
    · rename_i hi
      have hi' : i < s.data.toList.length := by rw [← size_list]; exact hi
      have hb : bt s i = (s.data.toList[i]).toNat := by
        rw [← bt_eq s i hi]
        rfl
      have h1 := h s.data.toList[i] (List.getElem_mem hi')
      rw [dec_one s i (by rw [hb]; exact h1)]
      rw [List.drop_eq_getElem_cons hi', List.map_cons, runesF_ascii s h f (i + 1) (by omega), hb]
    · rename_i hi
      rw [List.drop_eq_nil_of_le]
      · rfl
      · rw [← size_list]; omega
theorem runes_ascii (s : ByteArray) (h : ∀ c ∈ s.data.toList, c.toNat < 128) : runes s = s.data.toList.map UInt8.toNat := by
  unfold runes runesAt
  rw [runesF_ascii s h _ _ (by omega)]
  rfl
theorem wfA_all : ∀ (l : List UInt8) (b : Bool), wfA b l → ∀ c ∈ l, alnC c.toNat = true ∨ c = 45
  | [], _, _, c, hc => by cases hc
  | x :: l, b, h, c, hc => by
    unfold wfA at h
    rcases h with ⟨h1, h2⟩ | ⟨h1, _, h2⟩
    · rcases List.mem_cons.1 hc with rfl | hc
      · exact .inl h1
      · exact wfA_all l _ h2 c hc
    · rcases List.mem_cons.1 hc with rfl | hc
      · exact .inr h1
      · exact wfA_all l _ h2 c hc
def lowOk (c : Nat) : Prop := c < 128 ∧ spC c = false ∧ lowerC c = c
theorem wfA_low (l : List UInt8) (b : Bool) (h : wfA b l) : ∀ c ∈ l, lowOk c.toNat := by
  intro c hc
  rcases wfA_all l b h c hc with h | rfl
  · have hb := aln_lt h
    simp only [alnC, lowLetC, digC, inR, Bool.or_eq_true, Bool.and_eq_true, decide_eq_true_eq] at h
    refine ⟨by omega, ?_, ?_⟩
    · simp only [spC, Bool.or_eq_false_iff, decide_eq_false_iff_not]; omega
    · unfold lowerC
      rw [if_neg (by omega), if_neg (by omega), if_neg (by omega), if_neg (by omega), if_neg (by omega)]
  · exact ⟨by decide, by decide, by decide⟩
theorem foldG_low : ∀ (l acc : List Nat), (∀ c ∈ l, lowOk c) → foldG l false acc = acc ++ l
  | [], acc, _ => by simp [foldG]
  | c :: l, acc, h => by
    obtain ⟨_, h2, h3⟩ := h c (by simp)
    rw [foldG, h2]
    simp only [foldAdd, Bool.false_and, h3]
    rw [if_neg (by simp), if_neg (by simp), foldG_low l _ (fun x hx => h x (by simp [hx]))]
    simp
theorem foldG_sp : ∀ (l : List Nat) (g : Bool) (acc : List Nat), foldG (l ++ [32]) g acc = foldG l g acc
  | [], g, acc => by simp [foldG, spC]
  | c :: l, g, acc => by
    rw [List.cons_append, foldG, foldG]
    split
    · exact foldG_sp l _ _
    · exact foldG_sp l _ _
theorem encL_ascii : ∀ (l : List UInt8), (∀ c ∈ l, c.toNat < 128) → encL (l.map UInt8.toNat) = l
  | [], _ => by simp [encL]
  | c :: l, h => by
    have hc := h c (by simp)
    have e : encL (c.toNat :: l.map UInt8.toNat) = Lib.encodeRune (c.toNat : Int) ++ encL (l.map UInt8.toNat) := by simp [encL]
    rw [List.map_cons, e, encL_ascii l (fun x hx => h x (by simp [hx]))]
    have : Lib.encodeRune (c.toNat : Int) = [c] := by
      unfold Lib.encodeRune
      rw [Lib.encodeRuneZ_one (by omega) (by omega)]
      simp [Nat.toUInt8]
    rw [this]; rfl
theorem ofG_self : ∀ (l : List UInt8) (acc : List UInt8), acc ≠ [] → (wfA true l → ofG (l.map UInt8.toNat) false acc = acc ++ l) ∧ (wfA false l → ofG (l.map UInt8.toNat) true acc = acc ++ 45 :: l)
  | [], acc, ha => ⟨fun _ => by simp [ofG], fun h => by unfold wfA at h; cases h⟩
  | c :: l, acc, ha => by
    have hE : acc.isEmpty = false := by cases acc with
      | nil => exact absurd rfl ha
      | cons _ _ => rfl
    have hof : UInt8.ofNat c.toNat = c := by simp
    constructor
    · intro h
      unfold wfA at h
      rw [List.map_cons, ofG]
      rcases h with ⟨h1, h2⟩ | ⟨rfl, _, h2⟩
      · rw [if_pos (show (lowLetC c.toNat || digC c.toNat) = true from h1), (ofG_self l _ (by simp [ofAdd])).1 h2]
        simp [ofAdd, hof]
      · rw [if_neg (by decide), if_neg (by decide)]
        exact (ofG_self l acc ha).2 h2
    · intro h
      unfold wfA at h
      rw [List.map_cons, ofG]
      rcases h with ⟨h1, h2⟩ | ⟨_, h, _⟩
      · rw [if_pos (show (lowLetC c.toNat || digC c.toNat) = true from h1), (ofG_self l _ (by simp [ofAdd])).1 h2]
        simp [ofAdd, hof, hE]
      · cases h
theorem anchor_self (l : List UInt8) (h : AncL l) : anchorL (ofG (l.map UInt8.toNat) false []) = l := by
  obtain ⟨hw, hl, c, cs, rfl, hc⟩ := h
  have e : ofG ((c :: cs).map UInt8.toNat) false [] = c :: cs := by
    unfold wfA at hw
    rcases hw with ⟨h1, h2⟩ | ⟨_, h, _⟩
    · rw [List.map_cons, ofG, if_pos (show (lowLetC c.toNat || digC c.toNat) = true from h1), (ofG_self cs _ (by simp [ofAdd])).1 h2]
      simp [ofAdd]
    · cases h
  rw [e]
  unfold anchorL
  have hd : digC c.toNat = false := by
    simp only [lowLetC, inR, Bool.and_eq_true, decide_eq_true_eq] at hc
    simp only [digC, inR, Bool.and_eq_false_iff, decide_eq_false_iff_not]
    omega
  dsimp only
  rw [hd, if_neg (by simp)]
  unfold cutL54
  rw [if_neg (by omega)]
theorem slugS_list (s : ByteArray) : (slugS s).data.toList = slugL s := by simp [slugS]
theorem slugL_self (s : ByteArray) (h : AncL s.data.toList) : slugL s = s.data.toList := by
  have hl := wfA_low _ _ h.wf
  have h1 := runes_ascii s (fun c hc => (hl c hc).1)
  have h2 : foldL s = s.data.toList.map UInt8.toNat := by
    unfold foldL
    rw [h1, foldG_low _ _ (fun c hc => by obtain ⟨x, hx, rfl⟩ := List.mem_map.1 hc; exact hl x hx)]
    rfl
  have h3 : foldS s = s := by
    unfold foldS
    rw [h2, encL_ascii _ (fun c hc => (hl c hc).1)]
  unfold slugL
  rw [h3, h1, anchor_self _ h]
theorem slugS_self (s : ByteArray) : slugS (slugS s) = slugS s := by
  have h := slugL_anc s
  rw [← slugS_list] at h
  have := slugL_self (slugS s) h
  rw [slugS_list] at this
  show (⟨(slugL (slugS s)).toArray⟩ : ByteArray) = _
  rw [this]; rfl
theorem slugS_sp (s : ByteArray) : slugS (slugS s ++ ⟨#[32]⟩) = slugS s := by
  have h := slugL_anc s
  have hl := wfA_low _ _ h.wf
  have e0 : (slugS s ++ ⟨#[32]⟩ : ByteArray).data.toList = slugL s ++ [32] := by simp [slugS]
  have h1 := runes_ascii (slugS s ++ ⟨#[32]⟩) (fun c hc => by
    rw [e0] at hc
    rcases List.mem_append.1 hc with hc | hc
    · exact (hl c hc).1
    · simp at hc; subst hc; decide)
  have h2 : foldL (slugS s ++ ⟨#[32]⟩) = (slugL s).map UInt8.toNat := by
    unfold foldL
    rw [h1, e0, List.map_append]
    show foldG (_ ++ [32]) _ _ = _
    rw [foldG_sp, foldG_low _ _ (fun c hc => by obtain ⟨x, hx, rfl⟩ := List.mem_map.1 hc; exact hl x hx)]
    rfl
  have h3 : foldS (slugS s ++ ⟨#[32]⟩) = slugS s := by
    unfold foldS
    rw [h2, encL_ascii _ (fun c hc => (hl c hc).1)]
    rfl
  have h4 := runes_ascii (slugS s) (fun c hc => by rw [slugS_list] at hc; exact (hl c hc).1)
  show (⟨(slugL (slugS s ++ ⟨#[32]⟩)).toArray⟩ : ByteArray) = _
  have h5 : slugL (slugS s ++ ⟨#[32]⟩) = slugL s := by
    show anchorL (ofG (runes (foldS (slugS s ++ ⟨#[32]⟩))) false []) = _
    rw [h3, h4, slugS_list, anchor_self _ h]
  rw [h5]; rfl

/-! Names. -/
theorem name_of_list (s : ByteArray) (h1 : s.data.toList.length ≤ 60) (h2 : ∃ c cs, s.data.toList = c :: cs ∧ ltrC c.toNat = true) (h3 : ∀ c ∈ s.data.toList, nmB c = true) : nameOk s = true := by
  obtain ⟨c, cs, e, hc⟩ := h2
  have hs := size_list s
  unfold nameOk
  have hw : wEnd0 s = s.size := by
    unfold wEnd0
    rw [hs, takeWhile_all _ h3]
  rw [hw, hs, e]
  rw [e] at h1
  simp only [List.length_cons] at h1 ⊢
  simp [hc, h1]
theorem aln_nm {c : UInt8} (h : alnC c.toNat = true ∨ c = 45) : nmB c = true := by
  rcases h with h | rfl
  · unfold nmB nmC ltrC
    simp only [alnC, lowLetC, digC, Bool.or_eq_true] at h
    rcases h with h | h <;> simp [h]
  · decide
theorem low_ltr {c : Nat} (h : lowLetC c = true) : ltrC c = true := by
  unfold ltrC
  unfold lowLetC at h
  simp [h]
theorem slugS_name (s : ByteArray) : nameOk (slugS s) = true := by
  obtain ⟨hw, hl, c, cs, e, hc⟩ := slugL_anc s
  refine name_of_list _ (by rw [slugS_list]; omega) ⟨c, cs, by rw [slugS_list]; exact e, low_ltr hc⟩ fun c hc => ?_
  rw [slugS_list] at hc
  exact aln_nm (wfA_all _ _ hw c hc)
theorem decDigits_ok (n : Nat) : ∀ c ∈ Lib.decDigits n, digC c.toNat = true := by
  induction n using Nat.strongRecOn with
  | _ n ih =>
    rw [Lib.decDigits]
    split
    · intro c hc
      obtain rfl := List.mem_singleton.1 hc
      have : (UInt8.ofNat (48 + n)).toNat = 48 + n := by simp; omega
      simp only [digC, inR, this, Bool.and_eq_true, decide_eq_true_eq]; omega
    · intro c hc
      rcases List.mem_append.1 hc with hc | hc
      · exact ih (n / 10) (by omega) c hc
      · obtain rfl := List.mem_singleton.1 hc
        have : (UInt8.ofNat (48 + n % 10)).toNat = 48 + n % 10 := by simp; omega
        simp only [digC, inR, this, Bool.and_eq_true, decide_eq_true_eq]; omega
theorem decDigits_len (n : Nat) (h : n < 1000) : (Lib.decDigits n).length ≤ 3 := by
  rw [Lib.decDigits]
  split
  · simp
  · rw [List.length_append, Lib.decDigits]
    split
    · simp
    · rw [List.length_append, Lib.decDigits, dif_pos (by omega)]
      simp
theorem cand_name (s : ByteArray) (n : Nat) (h : n < 1000) : nameOk (cand (slugS s) n) = true := by
  unfold cand
  split
  · exact slugS_name s
  · obtain ⟨hw, hl, c, cs, e, hc⟩ := slugL_anc s
    have hd := decDigits_len n h
    have hd2 := decDigits_ok n
    refine name_of_list _ ?_ ⟨c, cs ++ 45 :: Lib.decDigits n, ?_, low_ltr hc⟩ fun c hc => ?_
    · rw [numB_list, slugS_list, List.length_append, List.length_cons]; omega
    · rw [numB_list, slugS_list, e]; rfl
    · rw [numB_list, slugS_list] at hc
      rcases List.mem_append.1 hc with hc | hc
      · exact aln_nm (wfA_all _ _ hw c hc)
      · rcases List.mem_cons.1 hc with rfl | hc
        · exact aln_nm (.inr rfl)
        · exact aln_nm (.inl (by unfold alnC; rw [hd2 c hc, Bool.or_true]))
/-- What each of the anchors is. -/
theorem allA_each (l used : List ByteArray) (k : Nat) (x : ByteArray) (h : (allA l used)[k]? = some x) (hlen : l.length + used.length < 1000) :
    nameOk x = true ∧ hasB used x = false ∧ hasB ((allA l used).take k) x = false := by
  unfold allA at h ⊢
  have hk : k < (l.map slugS).length := by
    have := (List.getElem?_eq_some_iff.1 h).1
    rwa [allG_len] at this
  have hk' : k < l.length := by simpa using hk
  have hb : (l.map slugS)[k]? = some (slugS l[k]) := by simp [hk']
  rw [allG_get _ _ _ _ hb] at h
  obtain rfl := Option.some.inj h
  obtain ⟨h1, _, h3⟩ := idx_spec ((outTo (l.map slugS) used k).reverse ++ used) (slugS l[k])
  refine ⟨cand_name _ _ ?_, (hasB_no _ _).2 fun e => h1 (List.mem_append_right _ e), (hasB_no _ _).2 fun e => h1 (List.mem_append_left _ (List.mem_reverse.2 e))⟩
  have := outTo_len (l.map slugS) used k (by omega)
  simp only [List.length_append, List.length_reverse, this] at h3
  omega
end Go.Proofs.YtjobjicdfoklpaaGreatDoor
