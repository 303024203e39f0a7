/- Plain part: entries, and the list of entries, as the program and as the reference make it. Plain part: the entries of numbers. -/
import Derived.Test.YtlbioncagkkkoaaDoorKPlNum
import Derived.Test.YtlbioncagkkkoaaDoorKChA
namespace Go.Proofs.YtlbioncagkkkoaaDoor
set_option linter.unusedVariables false
set_option linter.unusedSimpArgs false

/-- An entry: level, identifier, text, line, references. -/
structure En where
  lv : Int
  id : ByteArray
  tx : ByteArray
  line : List Inl
  refs : List ByteArray
def En.d (e : En) : D := .st [.int .i64 e.lv, .str e.id, .str e.tx, inlsD e.line, strsD e.refs]
def ensD (l : List En) : D := .sl 5 (l.map En.d)
def hashB : ByteArray := ⟨#[35]⟩
def shKids (e : En) : List Inl := (if emptyS e.tx = true then [] else [txI (e.tx ++ ⟨#[32]⟩)]) ++ e.line
/-- The shown entry. -/
def shownI (e : En) : Inl := .mk 9 ⟨#[]⟩ (hashB ++ e.id) ⟨#[]⟩ at0 [] [] (Inl.mergeL (shKids e))
def paraB (e : En) : Blk := .mk 1 0 ⟨#[]⟩ ⟨#[]⟩ ⟨#[]⟩ ⟨#[]⟩ at0 [shownI e] []
def itemB (e : En) (ks : List Blk) : Blk := .mk 9 0 ⟨#[]⟩ ⟨#[]⟩ ⟨#[]⟩ ⟨#[]⟩ at0 [] (paraB e :: ks)
def bulB (items : List Blk) : List Blk := if items.isEmpty = true then [] else [.mk 7 0 ⟨#[]⟩ ⟨#[]⟩ ⟨#[]⟩ ⟨#[]⟩ at0 [] items]
def En.over (e x : En) : Bool := decide (e.lv < x.lv)
theorem takeW_len {α : Type} (p : α → Bool) : ∀ (l : List α), (l.takeWhile p).length ≤ l.length
  | [] => by simp
  | x :: l => by
    have := takeW_len p l
    rw [List.takeWhile_cons]
    split <;> simp <;> omega
theorem dropW_len {α : Type} (p : α → Bool) : ∀ (l : List α), (l.dropWhile p).length ≤ l.length
  | [] => by simp
  | x :: l => by
    have := dropW_len p l
    rw [List.dropWhile_cons]
    split <;> simp <;> omega
/-- The items of a list of entries. -/
def itemsR : List En → List Blk
  | [] => []
  | e :: l => itemB e (bulB (itemsR (l.takeWhile e.over))) :: itemsR (l.dropWhile e.over)
termination_by l => l.length
decreasing_by
  · have := takeW_len e.over l; simp only [List.length_cons]; omega
  · have := dropW_len e.over l; simp only [List.length_cons]; omega
def listR (l : List En) : List Blk := bulB (itemsR l)
theorem itemsR_nil : itemsR [] = [] := by rw [itemsR]
theorem itemsR_cons (e : En) (l : List En) : itemsR (e :: l) = itemB e (listR (l.takeWhile e.over)) :: itemsR (l.dropWhile e.over) := by rw [itemsR]; rfl
theorem tw_tw {α : Type} (p q : α → Bool) (h : ∀ x, q x = true → p x = true) : ∀ (l : List α), (l.takeWhile p).takeWhile q = l.takeWhile q
  | [] => rfl
  | x :: l => by
    have ih := tw_tw p q h l
    by_cases hq : q x = true
    · rw [List.takeWhile_cons, if_pos (h x hq), List.takeWhile_cons, if_pos hq, List.takeWhile_cons, if_pos hq, ih]
    · by_cases hp : p x = true
      · rw [List.takeWhile_cons, if_pos hp, List.takeWhile_cons, if_neg hq, List.takeWhile_cons, if_neg hq]
      · rw [List.takeWhile_cons, if_neg hp, List.takeWhile_cons, if_neg hq]; rfl
theorem tw_dw {α : Type} (p q : α → Bool) (h : ∀ x, q x = true → p x = true) : ∀ (l : List α), (l.takeWhile p).dropWhile q = (l.dropWhile q).takeWhile p
  | [] => rfl
  | x :: l => by
    have ih := tw_dw p q h l
    by_cases hq : q x = true
    · rw [List.takeWhile_cons, if_pos (h x hq), List.dropWhile_cons, if_pos hq, List.dropWhile_cons, if_pos hq, ih]
    · rw [List.dropWhile_cons, if_neg hq]
      by_cases hp : p x = true
      · rw [List.takeWhile_cons, if_pos hp, List.dropWhile_cons, if_neg hq]
      · rw [List.takeWhile_cons, if_neg hp]; rfl
/-- What stays inside with an entry also stays with what is over it. -/
def Up (p : En → Bool) : Prop := ∀ e x, p e = true → e.over x = true → p x = true
theorem up_true : Up fun _ => true := fun _ _ _ _ => rfl
theorem items_step (p : En → Bool) (hp : Up p) (e : En) (l : List En) (he : p e = true) :
    itemsR ((e :: l).takeWhile p) = itemB e (listR (l.takeWhile e.over)) :: itemsR ((l.dropWhile e.over).takeWhile p) := by
  rw [List.takeWhile_cons, if_pos he, itemsR_cons, tw_tw p e.over (fun x hx => hp e x he hx), tw_dw p e.over (fun x hx => hp e x he hx)]
theorem tw_dw_len {α : Type} (q : α → Bool) (l : List α) : (l.takeWhile q).length + (l.dropWhile q).length = l.length := by
  have := congrArg List.length (List.takeWhile_append_dropWhile (p := q) (l := l))
  rwa [List.length_append] at this
theorem dw_drop {α : Type} (q : α → Bool) : ∀ (l : List α), l.dropWhile q = l.drop (l.takeWhile q).length
  | [] => rfl
  | x :: l => by
    have ih := dw_drop q l
    by_cases hq : q x = true
    · rw [List.dropWhile_cons, if_pos hq, List.takeWhile_cons, if_pos hq, ih]; rfl
    · rw [List.dropWhile_cons, if_neg hq, List.takeWhile_cons, if_neg hq]; rfl
theorem step_len (p : En → Bool) (hp : Up p) (e : En) (l : List En) (he : p e = true) :
    ((e :: l).takeWhile p).length = 1 + (l.takeWhile e.over).length + ((l.dropWhile e.over).takeWhile p).length := by
  have h1 := tw_dw_len e.over (l.takeWhile p)
  rw [tw_tw p e.over (fun x hx => hp e x he hx), tw_dw p e.over (fun x hx => hp e x he hx)] at h1
  rw [List.takeWhile_cons, if_pos he, List.length_cons]; omega

/-- The items of a list, one for each entry. -/
def isItemB : Blk → Bool
  | .mk k _ _ _ _ _ _ _ _ => decide (k = 9)
inductive Items : List Blk → List En → Prop
  | nil : Items [] []
  | cons (e : En) (ks : List Blk) (xs : List Blk) (l : List En) (h : Items xs l) : Items (itemB e ks :: xs) (e :: l)
theorem Items.app : ∀ {xs ys : List Blk} {l m : List En}, Items xs l → Items ys m → Items (xs ++ ys) (l ++ m)
  | _, _, _, _, .nil, h => h
  | _, _, _, _, .cons e ks xs l h, k => .cons e ks _ _ (h.app k)
theorem Items.len : ∀ {xs : List Blk} {l : List En}, Items xs l → xs.length = l.length
  | _, _, .nil => rfl
  | _, _, .cons e ks xs l h => by simp [h.len]
theorem Items.get : ∀ {xs : List Blk} {l : List En}, Items xs l → ∀ (n : Nat) (x : Blk), xs[n]? = some x → ∃ e ks, l[n]? = some e ∧ x = itemB e ks
  | _, _, .nil, n, x, h => by simp at h
  | _, _, .cons e ks xs l h, 0, x, hx => by simp at hx; exact ⟨e, ks, rfl, hx.symm⟩
  | _, _, .cons e ks xs l h, n + 1, x, hx => by
    obtain ⟨e', ks', h1, h2⟩ := h.get n x (by simpa using hx)
    exact ⟨e', ks', by simpa using h1, h2⟩
theorem each_bul (l : List Blk) : (Blk.eachL (bulB l)).filter isItemB = (Blk.eachL l).filter isItemB := by
  unfold bulB
  cases l with
  | nil => rfl
  | cons x l =>
    rw [if_neg (by simp), Blk.eachL, Blk.eachL, List.append_nil, Blk.each, List.filter_cons, if_neg (by simp [isItemB])]
theorem items_items (n : Nat) : ∀ (l : List En), l.length ≤ n → Items ((Blk.eachL (itemsR l)).filter isItemB) l := by
  induction n with
  | zero =>
    intro l hl
    obtain rfl : l = [] := List.eq_nil_of_length_eq_zero (by omega)
    rw [itemsR_nil, Blk.eachL]; exact .nil
  | succ n ih =>
    intro l hl
    cases l with
    | nil => rw [itemsR_nil, Blk.eachL]; exact .nil
    | cons e l =>
      simp only [List.length_cons] at hl
      have h1 := takeW_len e.over l
      have h2 := dropW_len e.over l
      have i1 := ih (l.takeWhile e.over) (by omega)
      have i2 := ih (l.dropWhile e.over) (by omega)
      rw [itemsR_cons, Blk.eachL, itemB, Blk.each, List.filter_append, List.filter_cons, if_pos (by rfl)]
      rw [Blk.eachL, paraB, Blk.each, Blk.eachL, List.filter_append, List.filter_cons, if_neg (by simp [isItemB]), List.filter_nil, List.nil_append, listR, each_bul]
      conv => rhs; rw [← List.takeWhile_append_dropWhile (p := e.over) (l := l)]
      exact .cons e (bulB (itemsR (l.takeWhile e.over))) _ _ (i1.app i2)
theorem list_items (l : List En) : Items ((Blk.eachL (listR l)).filter isItemB) l := by
  unfold listR; rw [each_bul]; exact items_items l.length l (Nat.le_refl _)
end Go.Proofs.YtlbioncagkkkoaaDoor

namespace Go.Proofs.YtlbioncagkkkoaaDoor
set_option linter.unusedVariables false
set_option linter.unusedSimpArgs false

/-- The level of a section's value. -/
def levB (s : ByteArray) : Nat := s.data.toList.count 46 + 1
def shownB (depth : Int) (n : Nm) : Bool := decide (n.kind = secS) && !emptyS n.id && decide ((levB n.val : Int) ≤ depth)
def entOf (n : Nm) : En := ⟨levB n.val, n.id, n.val, entL n.line, []⟩
def tocL (l : List Nm) (depth : Int) : List En := (l.filter (shownB depth)).map entOf
theorem digit_ne (n : Nat) (h : n < 10) : UInt8.ofNat (48 + n) ≠ 46 := by
  intro e
  have := congrArg UInt8.toNat e
  simp at this
  omega
theorem dec_nodot (n : Nat) : (Lib.decDigits n).count 46 = 0 := by
  induction n using Nat.strongRecOn with
  | _ n ih =>
    rw [Lib.decDigits]
    split
    · rename_i h
      rw [List.count_eq_zero]
      intro hm
      exact digit_ne n h (List.mem_singleton.1 hm).symm
    · rename_i h
      rw [List.count_append, ih (n / 10) (by omega), Nat.zero_add, List.count_eq_zero]
      intro hm
      exact digit_ne (n % 10) (by omega) (List.mem_singleton.1 hm).symm
theorem dotL_count : ∀ (l : List (List UInt8)), (∀ x ∈ l, x.count 46 = 0) → (dotL l).count 46 = l.length - 1
  | [], _ => rfl
  | [x], h => by rw [dotL, h x (by simp)]; rfl
  | x :: y :: l, h => by
    have ih := dotL_count (y :: l) (fun z hz => h z (List.mem_cons_of_mem _ hz))
    rw [dotL, List.count_append, List.count_cons_self, ih, h x (by simp)]
    simp
theorem lev_dec (n : Nat) : levB (decS n) = 1 := by unfold levB decS; rw [List.toList_toArray, dec_nodot]
theorem lev_val (c : List Nat) (k : Nat) (hk : k ≤ 6) : levB (valS c k) ≤ 6 := by
  unfold levB valS
  rw [List.toList_toArray, dotL_count _ (by
    intro x hx
    obtain ⟨n, -, rfl⟩ := List.mem_map.1 hx
    exact dec_nodot n)]
  rw [List.length_map, List.length_take]; omega
theorem lvl_le (lv : Int) : lvlOf lv ≤ 6 := by unfold lvlOf; split; omega; split <;> omega
def NmOk (P : List Inl → Prop) (x : Nm) : Prop := levB x.val ≤ 6 ∧ P x.line
theorem cap_mem (ks : List Blk) : capL ks = [] ∨ ∃ b ∈ ks, capL ks = b.lineOf := by
  unfold capL
  cases h : (ks.drop 1).find? (fun b => decide (b.kindOf = 1)) with
  | none => exact .inl rfl
  | some b => exact .inr ⟨b, List.mem_of_mem_drop (List.mem_of_find?_eq_some h), rfl⟩
theorem each_self (b : Blk) : b ∈ b.each := by
  obtain ⟨k, lv, i, t, d, ti, a, li, ks⟩ := b
  rw [Blk.each]; exact List.mem_cons_self ..
theorem mem_each : ∀ (l : List Blk) (b : Blk), b ∈ l → b ∈ Blk.eachL l
  | x :: l, b, h => by
    rw [Blk.eachL]
    rcases List.mem_cons.1 h with rfl | h
    · exact List.mem_append_left _ (each_self b)
    · exact List.mem_append_right _ (mem_each l b h)
theorem one_out (P : List Inl → Prop) (h0 : P []) (free : Bool) (s : Ns) (k lv : Int) (i : ByteArray) (a : At) (li : List Inl) (ks : List Blk) (hli : P li) (hks : P (capL ks)) (hs : ∀ x ∈ s.out, NmOk P x) : ∀ x ∈ (numOne free s k lv i a li ks).out, NmOk P x := by
  unfold numOne
  have add : ∀ (y : Nm), NmOk P y → ∀ x ∈ s.out ++ [y], NmOk P x := by
    intro y hy x hx
    rcases List.mem_append.1 hx with hx | hx
    · exact hs x hx
    · simp at hx; subst hx; exact hy
  split
  · exact add _ ⟨lev_val _ _ (lvl_le lv), hli⟩
  · split
    · exact add _ ⟨by rw [lev_dec]; omega, hks⟩
    · split
      · exact add _ ⟨by rw [lev_dec]; omega, hks⟩
      · split
        · exact add _ ⟨by rw [lev_dec]; omega, h0⟩
        · exact hs
mutual
theorem Blk.num_out (P : List Inl → Prop) (h0 : P []) : ∀ (b : Blk) (free : Bool) (s : Ns), (∀ x ∈ b.each, P x.lineOf) → (∀ x ∈ s.out, NmOk P x) → ∀ x ∈ (b.num free s).out, NmOk P x
  | .mk k lv i t d ti a li ks, free, s, h, hs => by
    rw [Blk.each] at h
    rw [Blk.num]
    refine Blk.numL_out P h0 ks _ _ (fun x hx => h x (List.mem_cons_of_mem _ hx)) (one_out P h0 free s k lv i a li ks (h _ (List.mem_cons_self ..)) ?_ hs)
    rcases cap_mem ks with e | ⟨b, hb, e⟩
    · rw [e]; exact h0
    · rw [e]; exact h b (List.mem_cons_of_mem _ (mem_each ks b hb))
theorem Blk.numL_out (P : List Inl → Prop) (h0 : P []) : ∀ (l : List Blk) (free : Bool) (s : Ns), (∀ x ∈ Blk.eachL l, P x.lineOf) → (∀ x ∈ s.out, NmOk P x) → ∀ x ∈ (Blk.numL free s l).out, NmOk P x
  | [], _, _, _, hs => by rw [Blk.numL]; exact hs
  | x :: l, free, s, h, hs => by
    rw [Blk.eachL] at h
    rw [Blk.numL]
    exact Blk.numL_out P h0 l _ _ (fun y hy => h y (List.mem_append_right _ hy)) (Blk.num_out P h0 x free s (fun y hy => h y (List.mem_append_left _ hy)) hs)
end
theorem note_out (P : List Inl → Prop) (h0 : P []) : ∀ (l : List ByteArray) (j : Nat), ∀ x ∈ noteNs j l, NmOk P x
  | [], _, x, hx => by simp [noteNs] at hx
  | y :: l, j, x, hx => by
    rw [noteNs] at hx
    rcases List.mem_cons.1 hx with rfl | hx
    · exact ⟨by show levB (decS _) ≤ 6; rw [lev_dec]; omega, h0⟩
    · exact note_out P h0 l (j + 1) x hx
theorem nums_ok (P : List Inl → Prop) (h0 : P []) (l : List Blk) (h : ∀ x ∈ Blk.eachL l, P x.lineOf) : ∀ x ∈ numsL l, NmOk P x := by
  intro x hx
  unfold numsL at hx
  rcases List.mem_append.1 hx with hx | hx
  · exact Blk.numL_out P h0 l true ns0 h (by simp [ns0]) x hx
  · exact note_out P h0 _ 0 x hx
theorem one_len (free : Bool) (s : Ns) (k lv : Int) (i : ByteArray) (a : At) (li : List Inl) (ks : List Blk) : (numOne free s k lv i a li ks).out.length ≤ s.out.length + 1 := by
  unfold numOne
  split
  · simp
  · split
    · simp
    · split
      · simp
      · split <;> simp
mutual
theorem Blk.num_len : ∀ (b : Blk) (free : Bool) (s : Ns), (b.num free s).out.length ≤ s.out.length + b.sz
  | .mk k lv i t d ti a li ks, free, s => by
    rw [Blk.num, Blk.sz]
    have h1 := Blk.numL_len ks (free && decide (k = 13)) (numOne free s k lv i a li ks)
    have h2 := one_len free s k lv i a li ks
    omega
theorem Blk.numL_len : ∀ (l : List Blk) (free : Bool) (s : Ns), (Blk.numL free s l).out.length ≤ s.out.length + Blk.szL l
  | [], _, s => by rw [Blk.numL]; omega
  | x :: l, free, s => by
    rw [Blk.numL, Blk.szL]
    have h1 := Blk.numL_len l free (x.num free s)
    have h2 := Blk.num_len x free s
    omega
end
theorem noteG_le (defs : List ByteArray) : ∀ (l : List Inl) (out : List ByteArray), (noteG defs out l).length ≤ out.length + l.length
  | [], out => by simp [noteG]
  | x :: l, out => by
    rw [noteG]
    have := noteG_le defs l (if x.kd = 12 ∧ hasB defs x.tx = true ∧ hasB out x.tx = false then out ++ [x.tx] else out)
    refine Nat.le_trans this ?_
    split <;> simp <;> omega
theorem noteNs_count : ∀ (l : List ByteArray) (j : Nat), (noteNs j l).length = l.length
  | [], _ => rfl
  | _ :: l, j => by rw [noteNs, List.length_cons, List.length_cons, noteNs_count l]
theorem nums_len (l : List Blk) : (numsL l).length ≤ Blk.szL l + (Blk.inlsL l).length := by
  unfold numsL notesL
  rw [List.length_append, noteNs_count]
  have h1 := Blk.numL_len l true ns0
  have h2 := noteG_le (defN (Blk.eachL l)) (Blk.inlsL l) []
  have h3 : ns0.out.length = 0 := rfl
  simp only [List.length_nil] at h2
  omega
theorem tocL_snoc (l : List Nm) (depth : Int) (k : Nat) (x : Nm) (h : l[k]? = some x) : tocL (l.take (k + 1)) depth = tocL (l.take k) depth ++ if shownB depth x = true then [entOf x] else [] := by
  unfold tocL
  rw [List.take_add_one, h, List.filter_append, List.map_append]
  congr 1
  by_cases hs : shownB depth x = true <;> simp [hs]
end Go.Proofs.YtlbioncagkkkoaaDoor
