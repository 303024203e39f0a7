/- Plain part: entry lines, as the program and as the reference make them. -/
import Derived.Test.YtlbioncagkkkoaaDoorKChA
namespace Go.Proofs.YtlbioncagkkkoaaDoor
set_option linter.unusedVariables false
set_option linter.unusedSimpArgs false

def at0 : At := ⟨⟨#[]⟩, [], []⟩
def txI (t : ByteArray) : Inl := .mk 1 t ⟨#[]⟩ ⟨#[]⟩ at0 [] [] []
/-- An inline of a kind joined to the last one of that kind, all else appended. -/
def addK (q : Int) (out : List Inl) (x : Inl) : List Inl :=
  if x.kd = q then match out.getLast? with
    | some y => if y.kd = q then out.dropLast ++ [y.setTx (y.tx ++ x.tx)] else out ++ [x]
    | none => out ++ [x]
  else out ++ [x]
def joinK (q : Int) (l : List Inl) : List Inl := l.foldl (addK q) []
def fullB (x : Inl) : Bool := !decide (x.kd = 1) || !emptyS x.tx
def fullL (l : List Inl) : List Inl := l.filter fullB
theorem addM_addK (out : List Inl) (x : Inl) : addM out x = if fullB x = true then addK 1 out x else out := by
  unfold addM fullB addK
  by_cases h1 : x.kd = 1
  · by_cases h2 : emptyS x.tx = true
    · rw [if_pos h1, if_pos h2, if_neg (by simp [h1, h2])]
    · rw [if_pos h1, if_neg h2, if_pos (by simp [h2]), if_pos h1] <;> rfl
  · rw [if_neg h1, if_pos (by simp [h1]), if_neg h1]
theorem foldM_join : ∀ (l out : List Inl), l.foldl addM out = (fullL l).foldl (addK 1) out
  | [], out => rfl
  | x :: l, out => by
    unfold fullL
    rw [List.foldl_cons, List.filter_cons, addM_addK]
    by_cases h : fullB x = true
    · rw [if_pos h, if_pos h, List.foldl_cons]; exact foldM_join l _
    · rw [if_neg h, if_neg h]; exact foldM_join l _
theorem mergeA_fold : ∀ (l out : List Inl), Inl.mergeA out l = (l.map Inl.mergeX).foldl addM out
  | [], out => by rw [Inl.mergeA]; rfl
  | x :: l, out => by rw [Inl.mergeA, List.map_cons, List.foldl_cons]; exact mergeA_fold l _
theorem mergeL_join (l : List Inl) : Inl.mergeL l = joinK 1 (fullL (l.map Inl.mergeX)) := by
  unfold Inl.mergeL joinK
  rw [mergeA_fold, foldM_join]

mutual
/-- What an inline gives to an entry line: as the reference says (raw), each with entry lines of Kids. -/
def Inl.entX : Inl → List Inl
  | .mk k t d ti a ar ci ks =>
    if k = 9 ∨ k = 11 then joinK 4 (Inl.mergeL (Inl.entR ks))
    else if k = 12 ∨ k = 14 ∨ k = 13 then []
    else if k = 16 then [txI d]
    else if k = 2 ∨ k = 3 then [txI ⟨#[32]⟩]
    else if k = 10 then [.mk k t d ti at0 ar ci (joinK 4 (Inl.mergeL (Inl.entR ks)))]
    else if k = 6 ∨ k = 7 ∨ k = 8 then (if (joinK 4 (Inl.mergeL (Inl.entR ks))).isEmpty = true then [] else [.mk k t d ti a ar ci (joinK 4 (Inl.mergeL (Inl.entR ks)))])
    else [.mk k t d ti a ar ci ks]
def Inl.entR : List Inl → List Inl
  | [] => []
  | x :: l => x.entX ++ Inl.entR l
end
/-- The entry line of a line. -/
def entL (l : List Inl) : List Inl := joinK 4 (Inl.mergeL (Inl.entR l))
theorem entX_eq (k : Int) (t d ti : ByteArray) (a : At) (ar : List ByteArray) (ci : List Ci) (ks : List Inl) : Inl.entX (.mk k t d ti a ar ci ks) =
    if k = 9 ∨ k = 11 then entL ks
    else if k = 12 ∨ k = 14 ∨ k = 13 then []
    else if k = 16 then [txI d]
    else if k = 2 ∨ k = 3 then [txI ⟨#[32]⟩]
    else if k = 10 then [.mk k t d ti at0 ar ci (entL ks)]
    else if k = 6 ∨ k = 7 ∨ k = 8 then (if (entL ks).isEmpty = true then [] else [.mk k t d ti a ar ci (entL ks)])
    else [.mk k t d ti a ar ci ks] := by rw [Inl.entX]; rfl
/-- What the program gives: where the inline stays, its Kids are merged. -/
def Inl.entY : Inl → List Inl
  | .mk k t d ti a ar ci ks =>
    if k = 9 ∨ k = 11 then entL ks
    else if k = 12 ∨ k = 14 ∨ k = 13 then []
    else if k = 16 then [txI d]
    else if k = 2 ∨ k = 3 then [txI ⟨#[32]⟩]
    else if k = 10 then [.mk k t d ti at0 ar ci (entL ks)]
    else if k = 6 ∨ k = 7 ∨ k = 8 then (if (entL ks).isEmpty = true then [] else [.mk k t d ti a ar ci (entL ks)])
    else [.mk k t d ti a ar ci (Inl.mergeL ks)]
theorem last1_snoc (p : Bool) (l : List Inl) (x : Inl) : last1 p (l ++ [x]) = decide (x.kd = 1) := by unfold last1; rw [List.getLast?_append]; rfl
theorem nf_join4 : ∀ (l out : List Inl), Inl.nfL (last1 false out) l → Inl.nfL false out → Inl.nfL false (l.foldl (addK 4) out)
  | [], out, _, h => h
  | x :: l, out, hl, ho => by
    rw [Inl.nfL] at hl
    obtain ⟨h1, h2, h3⟩ := hl
    have hA : Inl.nfL false (out ++ [x]) := (Inl.nfL_snoc out false x).2 ⟨ho, h1, h2⟩
    have hAl : Inl.nfL (last1 false (out ++ [x])) l := by rw [last1_snoc]; exact h3
    rw [List.foldl_cons]
    unfold addK
    by_cases hx : x.kd = 4
    · rw [if_pos hx]
      cases hg : out.getLast? with
      | none => exact nf_join4 l _ hAl hA
      | some y =>
        simp only
        by_cases hy : y.kd = 4
        · rw [if_pos hy]
          rw [last_split hg] at ho
          obtain ⟨g1, g2, g3⟩ := (Inl.nfL_snoc _ _ _).1 ho
          have hk : (y.setTx (y.tx ++ x.tx)).kd = 4 := by rw [Inl.set_kd]; exact hy
          refine nf_join4 l _ ?_ ((Inl.nfL_snoc _ _ _).2 ⟨g1, nf_setTx y _ g2, fun e => by rw [hk] at e; cases e⟩)
          rw [last1_snoc, hk]
          rw [hx] at h3
          exact h3
        · rw [if_neg hy]; exact nf_join4 l _ hAl hA
    · rw [if_neg hx]; exact nf_join4 l _ hAl hA
theorem ent_nf (l : List Inl) : Inl.nfL false (entL l) := by
  unfold entL joinK
  refine nf_join4 _ [] ?_ (by unfold Inl.nfL; trivial)
  exact Inl.nf_mergeA (Inl.entR l) [] (by unfold Inl.nfL; trivial)
theorem nfL_mem : ∀ (l : List Inl) (p : Bool), Inl.nfL p l → ∀ x ∈ l, x.nf
  | [], _, _, x, hx => by cases hx
  | y :: l, p, h, x, hx => by
    rw [Inl.nfL] at h
    rcases List.mem_cons.1 hx with rfl | hx
    · exact h.1
    · exact nfL_mem l _ h.2.2 x hx
theorem map_nf (l : List Inl) (h : ∀ x ∈ l, x.nf) : l.map Inl.mergeX = l := by
  conv => rhs; rw [← List.map_id l]
  exact List.map_congr_left fun x hx => Inl.mergeX_nf x (h x hx)
theorem merge_ent (l : List Inl) : Inl.mergeL (entL l) = entL l := by
  have := Inl.mergeA_nf (entL l) [] (ent_nf l)
  rwa [List.nil_append] at this
theorem mergeX_mk (k : Int) (t d ti : ByteArray) (a : At) (ar : List ByteArray) (ci : List Ci) (ks : List Inl) : Inl.mergeX (.mk k t d ti a ar ci ks) = .mk k t d ti a ar ci (Inl.mergeL ks) := by rw [Inl.mergeX]; rfl
theorem mergeX_tx0 (t : ByteArray) : Inl.mergeX (txI t) = txI t := by unfold txI; rw [mergeX_mk]; unfold Inl.mergeL; rw [Inl.mergeA]
theorem entX_map (x : Inl) : x.entX.map Inl.mergeX = x.entY := by
  obtain ⟨k, t, d, ti, a, ar, ci, ks⟩ := x
  rw [entX_eq, Inl.entY]
  by_cases h1 : k = 9 ∨ k = 11
  · rw [if_pos h1, if_pos h1]; exact map_nf _ (nfL_mem _ _ (ent_nf ks))
  rw [if_neg h1, if_neg h1]
  by_cases h2 : k = 12 ∨ k = 14 ∨ k = 13
  · rw [if_pos h2, if_pos h2]; rfl
  rw [if_neg h2, if_neg h2]
  by_cases h3 : k = 16
  · rw [if_pos h3, if_pos h3]; simp [mergeX_tx0]
  rw [if_neg h3, if_neg h3]
  by_cases h4 : k = 2 ∨ k = 3
  · rw [if_pos h4, if_pos h4]; simp [mergeX_tx0]
  rw [if_neg h4, if_neg h4]
  by_cases h5 : k = 10
  · rw [if_pos h5, if_pos h5, List.map_singleton, mergeX_mk, merge_ent]
  rw [if_neg h5, if_neg h5]
  by_cases h6 : k = 6 ∨ k = 7 ∨ k = 8
  · rw [if_pos h6, if_pos h6]
    by_cases h7 : (entL ks).isEmpty = true
    · rw [if_pos h7]; rfl
    · rw [if_neg h7, List.map_singleton, mergeX_mk, merge_ent]
  rw [if_neg h6, if_neg h6]
  rw [List.map_singleton, mergeX_mk]
theorem entR_flat (l : List Inl) : Inl.entR l = l.flatMap Inl.entX := by
  induction l with
  | nil => rw [Inl.entR]; rfl
  | cons x l ih => rw [Inl.entR, ih, List.flatMap_cons]
/-- The program's way to an entry line. -/
theorem entL_prog (l : List Inl) : entL l = joinK 4 (joinK 1 (fullL (l.flatMap Inl.entY))) := by
  unfold entL
  rw [mergeL_join, entR_flat, List.map_flatMap]
  have : (fun x : Inl => x.entX.map Inl.mergeX) = Inl.entY := funext entX_map
  rw [this]
end Go.Proofs.YtlbioncagkkkoaaDoor
