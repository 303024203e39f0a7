/- Plain part: what a small document's parts are bounded by. -/
import Derived.Test.YtjolhiofllpejaaDoorSmall
import Derived.Test.YtjolhiofllpejaaDoorAnch
import Derived.Test.YtjolhiofllpejaaDoorPlIds
namespace Go.Proofs.YtjolhiofllpejaaDoor
set_option linter.unusedVariables false

theorem len_flat {α : Type} (f : α → List UInt8) (c : Nat) : ∀ (l : List α), (∀ x ∈ l, (f x).length ≤ c) → ((l.map f).flatten).length ≤ l.length * c
  | [], _ => by simp
  | x :: l, h => by
    have := len_flat f c l (fun y hy => h y (by simp [hy]))
    have h1 := h x (by simp)
    simp only [List.map_cons, List.flatten_cons, List.length_append, List.length_cons, Nat.add_mul]
    omega
mutual
theorem Inl.plain_sm : ∀ (x : Inl), x.small → x.plain.length ≤ 300 * x.sz
  | .mk k t d ti a ar ci ks, h => by
    unfold Inl.small at h
    obtain ⟨h1, h2, h3, h4, h5, h6, h7, h8, h9⟩ := h
    have hk := Inl.plainL_sm ks h9
    have e1 : t.data.toList.length = t.size := by rw [Array.length_toList]; rfl
    have e2 : d.data.toList.length = d.size := by rw [Array.length_toList]; rfl
    rw [Inl.plain, Inl.sz]
    split
    · omega
    · split
      · simp; omega
      · split
        · omega
        · split
          · omega
          · simp
theorem Inl.plainL_sm : ∀ (l : List Inl), Inl.smallL l → (Inl.plainL l).length ≤ 300 * Inl.szL l
  | [], _ => by rw [Inl.plainL]; simp
  | x :: l, h => by
    unfold Inl.smallL at h
    rw [Inl.plainL, Inl.szL, List.length_append]
    have := Inl.plain_sm x h.1
    have := Inl.plainL_sm l h.2
    omega
end
mutual
theorem Inl.bd_sm : ∀ (x : Inl), x.small → x.bd
  | .mk k t d ti a ar ci ks, h => by
    unfold Inl.small at h
    obtain ⟨h1, h2, h3, h4, h5, h6, h7, h8, h9⟩ := h
    unfold At.short at h4
    have hk := Inl.bdL_sm ks h9
    unfold Inl.bd
    exact ⟨by omega, by omega, by omega, by omega, hk⟩
theorem Inl.bdL_sm : ∀ (l : List Inl), Inl.smallL l → Inl.bdL l
  | [], _ => by unfold Inl.bdL; trivial
  | x :: l, h => by
    unfold Inl.smallL at h
    unfold Inl.bdL
    exact ⟨Inl.bd_sm x h.1, Inl.bdL_sm l h.2⟩
end
mutual
theorem Blk.bd_sm : ∀ (x : Blk), x.small → x.bd
  | .mk k lv i t d ti a li ks, h => by
    unfold Blk.small at h
    obtain ⟨h1, h2, h3, h4, h5, h6, h7, h8⟩ := h
    unfold At.short at h5
    have hk := Blk.bdL_sm ks h8
    unfold Blk.bd
    exact ⟨by omega, by omega, Inl.bdL_sm li h6, by omega, hk⟩
theorem Blk.bdL_sm : ∀ (l : List Blk), Blk.smallL l → Blk.bdL l
  | [], _ => by unfold Blk.bdL; trivial
  | x :: l, h => by
    unfold Blk.smallL at h
    unfold Blk.bdL
    exact ⟨Blk.bd_sm x h.1, Blk.bdL_sm l h.2⟩
end
mutual
theorem Blk.all_sz : ∀ (x : Blk), x.sz + x.inls.length = x.all
  | .mk k lv i t d ti a li ks => by
    have := Blk.allL_sz ks
    have h2 := Inl.deepL_len li
    rw [Blk.sz, Blk.inls, Blk.all, List.length_append, h2]; omega
theorem Blk.allL_sz : ∀ (l : List Blk), Blk.szL l + (Blk.inlsL l).length = Blk.allL l
  | [] => by rw [Blk.szL, Blk.inlsL, Blk.allL]; rfl
  | x :: l => by
    have := Blk.all_sz x
    have := Blk.allL_sz l
    rw [Blk.szL, Blk.inlsL, Blk.allL, List.length_append]; omega
end
mutual
theorem Blk.each_small : ∀ (x : Blk), x.small → ∀ b ∈ x.each, b.small
  | .mk k lv i t d ti a li ks, h, b, hb => by
    rw [Blk.each] at hb
    rcases List.mem_cons.1 hb with rfl | hb
    · exact h
    · unfold Blk.small at h
      exact Blk.eachL_small ks h.2.2.2.2.2.2.2 b hb
theorem Blk.eachL_small : ∀ (l : List Blk), Blk.smallL l → ∀ b ∈ Blk.eachL l, b.small
  | [], _, b, hb => by rw [Blk.eachL] at hb; simp at hb
  | x :: l, h, b, hb => by
    unfold Blk.smallL at h
    rw [Blk.eachL] at hb
    rcases List.mem_append.1 hb with hb | hb
    · exact Blk.each_small x h.1 b hb
    · exact Blk.eachL_small l h.2 b hb
end
mutual
theorem Inl.deep_small : ∀ (x : Inl), x.small → ∀ b ∈ x.deep, b.small
  | .mk k t d ti a ar ci ks, h, b, hb => by
    rw [Inl.deep] at hb
    rcases List.mem_cons.1 hb with rfl | hb
    · exact h
    · unfold Inl.small at h
      exact Inl.deepL_small ks h.2.2.2.2.2.2.2.2 b hb
theorem Inl.deepL_small : ∀ (l : List Inl), Inl.smallL l → ∀ b ∈ Inl.deepL l, b.small
  | [], _, b, hb => by rw [Inl.deepL] at hb; simp at hb
  | x :: l, h, b, hb => by
    unfold Inl.smallL at h
    rw [Inl.deepL] at hb
    rcases List.mem_append.1 hb with hb | hb
    · exact Inl.deep_small x h.1 b hb
    · exact Inl.deepL_small l h.2 b hb
end
mutual
theorem Blk.inls_small : ∀ (x : Blk), x.small → ∀ b ∈ x.inls, b.small
  | .mk k lv i t d ti a li ks, h, b, hb => by
    unfold Blk.small at h
    rw [Blk.inls] at hb
    rcases List.mem_append.1 hb with hb | hb
    · exact Inl.deepL_small li h.2.2.2.2.2.1 b hb
    · exact Blk.inlsL_small ks h.2.2.2.2.2.2.2 b hb
theorem Blk.inlsL_small : ∀ (l : List Blk), Blk.smallL l → ∀ b ∈ Blk.inlsL l, b.small
  | [], _, b, hb => by rw [Blk.inlsL] at hb; simp at hb
  | x :: l, h, b, hb => by
    unfold Blk.smallL at h
    rw [Blk.inlsL] at hb
    rcases List.mem_append.1 hb with hb | hb
    · exact Blk.inls_small x h.1 b hb
    · exact Blk.inlsL_small l h.2 b hb
end
theorem Blk.small_pl (b : Blk) (hs : b.small) : b.plLen ≤ 100000000 := by
  cases b with
  | mk k lv i t d ti a li ks =>
    unfold Blk.small at hs
    have h1 := Inl.plainL_sm li hs.2.2.2.2.2.1
    have h2 := hs.2.2.2.2.2.2.1
    show (Inl.plainL li).length ≤ 100000000
    omega
theorem Blk.small_id (b : Blk) (hs : b.small) (x : ByteArray) (hx : b.id1 = some x) : x.size ≤ 600 := by
  cases b with
  | mk k lv i t d ti a li ks =>
    unfold Blk.small At.short at hs
    unfold Blk.id1 at hx; dsimp only at hx
    by_cases h0 : a.id.data.toList = []
    · rw [if_pos h0] at hx; cases hx
    · rw [if_neg h0] at hx; obtain rfl := Option.some.inj hx; exact hs.2.2.2.2.1.2.2.1
theorem Inl.small_id (b : Inl) (hs : b.small) (x : ByteArray) (hx : b.id1 = some x) : x.size ≤ 600 := by
  cases b with
  | mk k t d ti a ar ci ks =>
    unfold Inl.small At.short at hs
    unfold Inl.id1 at hx; dsimp only at hx
    by_cases h0 : a.id.data.toList = []
    · rw [if_pos h0] at hx; cases hx
    · rw [if_neg h0] at hx; obtain rfl := Option.some.inj hx; exact hs.2.2.2.1.2.2.1
theorem Blk.small_tx (b : Blk) (hs : b.plLen ≤ 100000000) (x : ByteArray) (hx : b.tx1 = some x) : x.size ≤ 100000000 := by
  cases b with
  | mk k lv i t d ti a li ks =>
    have hs : (Inl.plainL li).length ≤ 100000000 := hs
    unfold Blk.tx1 at hx; dsimp only at hx
    by_cases h0 : a.id.data.toList = []
    · rw [if_pos h0] at hx
      by_cases h1 : k = 2
      · rw [if_pos h1] at hx; obtain rfl := Option.some.inj hx; simpa [ByteArray.size] using hs
      · rw [if_neg h1] at hx; cases hx
    · rw [if_neg h0] at hx; cases hx
/-- What the contracts of layer 21 ask of a document. -/
theorem sm_bounds {me : List Pr} {l : List Blk} (h : DocSm me l) : Blk.bdL l ∧ me.length ≤ 1000000 ∧ Blk.szL l ≤ 50000 ∧ (Blk.inlsL l).length ≤ 50000 ∧ (∀ b ∈ Blk.eachL l, b.plLen ≤ 100000000) ∧
    (∀ x ∈ usedB (Blk.eachL l) ++ usedI (Blk.inlsL l), x.size ≤ 100000000) ∧ (∀ x ∈ textB (Blk.eachL l), x.size ≤ 100000000) := by
  have h1 := h.meta_
  have h2 := h.all
  have h3 := Blk.allL_sz l
  have hpl : ∀ b ∈ Blk.eachL l, b.plLen ≤ 100000000 := fun b hb => Blk.small_pl b (Blk.eachL_small l h.blks b hb)
  refine ⟨Blk.bdL_sm l h.blks, by omega, by omega, by omega, hpl, ?_, ?_⟩
  · intro x hx
    rcases List.mem_append.1 hx with hx | hx
    · obtain ⟨b, hb, hbx⟩ := List.mem_filterMap.1 hx
      exact Nat.le_trans (Blk.small_id b (Blk.eachL_small l h.blks b hb) x hbx) (by omega)
    · obtain ⟨b, hb, hbx⟩ := List.mem_filterMap.1 hx
      exact Nat.le_trans (Inl.small_id b (Blk.inlsL_small l h.blks b hb) x hbx) (by omega)
  · intro x hx
    obtain ⟨b, hb, hbx⟩ := List.mem_filterMap.1 hx
    exact Blk.small_tx b (hpl b hb) x hbx
end Go.Proofs.YtjolhiofllpejaaDoor
