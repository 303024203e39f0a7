/- Plain part: what the merged inlines are bounded by. -/
import Derived.Test.YtcfplilbhkaihaaGreatDoorMergP
import Derived.Test.YtcfplilbhkaihaaGreatDoorMerge
import Derived.Test.YtcfplilbhkaihaaGreatDoorSmPlA
namespace Go.Proofs.YtcfplilbhkaihaaGreatDoor
set_option linter.unusedVariables false
set_option linter.unusedSimpArgs false

mutual
/-- How many bytes the texts have. -/
def Inl.tt : Inl → Nat
  | .mk _ t _ _ _ _ _ ks => t.size + Inl.ttL ks
def Inl.ttL : List Inl → Nat
  | [] => 0
  | x :: l => x.tt + Inl.ttL l
end
theorem Inl.ttL_app : ∀ (l m : List Inl), Inl.ttL (l ++ m) = Inl.ttL l + Inl.ttL m
  | [], m => by rw [List.nil_append, Inl.ttL, Nat.zero_add]
  | x :: l, m => by rw [List.cons_append, Inl.ttL, Inl.ttL, Inl.ttL_app l m, Nat.add_assoc]
theorem Inl.szL_app2 : ∀ (l m : List Inl), Inl.szL (l ++ m) = Inl.szL l + Inl.szL m
  | [], m => by rw [List.nil_append, Inl.szL, Nat.zero_add]
  | x :: l, m => by rw [List.cons_append, Inl.szL, Inl.szL, Inl.szL_app2 l m, Nat.add_assoc]
theorem Inl.bdL_app2 : ∀ (l m : List Inl), Inl.bdL (l ++ m) ↔ Inl.bdL l ∧ Inl.bdL m
  | [], m => by rw [List.nil_append, Inl.bdL]; simp
  | x :: l, m => by rw [List.cons_append, Inl.bdL, Inl.bdL, Inl.bdL_app2 l m, and_assoc]
theorem setTx_bnd (x : Inl) (t : ByteArray) : (x.setTx t).tt + x.tx.size = x.tt + t.size ∧ (x.setTx t).sz = x.sz ∧ ((x.setTx t).bd ↔ x.bd) := by
  cases x
  simp only [Inl.setTx, Inl.tt, Inl.tx, Inl.sz, Inl.bd, true_and, and_true, iff_self]
  omega
theorem tx_tt (x : Inl) : x.tx.size ≤ x.tt := by cases x; simp only [Inl.tx, Inl.tt]; omega
theorem addM_bnd (out : List Inl) (x : Inl) : Inl.ttL (addM out x) ≤ Inl.ttL out + x.tt ∧ Inl.szL (addM out x) ≤ Inl.szL out + x.sz ∧ (Inl.bdL out → x.bd → Inl.bdL (addM out x)) := by
  have hone : Inl.ttL (out ++ [x]) ≤ Inl.ttL out + x.tt ∧ Inl.szL (out ++ [x]) ≤ Inl.szL out + x.sz ∧ (Inl.bdL out → x.bd → Inl.bdL (out ++ [x])) := by
    refine ⟨?_, ?_, fun h1 h2 => ?_⟩
    · rw [Inl.ttL_app, Inl.ttL, Inl.ttL]; omega
    · rw [Inl.szL_app2, Inl.szL, Inl.szL]; omega
    · rw [Inl.bdL_app2, Inl.bdL, Inl.bdL]; exact ⟨h1, h2, trivial⟩
  unfold addM
  split
  · split
    · exact ⟨by omega, by omega, fun h1 _ => h1⟩
    · split
      · rename_i y hy
        split
        · have hs := last_split hy
          have hb := setTx_bnd y (y.tx ++ x.tx)
          have hx := tx_tt x
          rw [ByteArray.size_append] at hb
          have ht : Inl.ttL out = Inl.ttL out.dropLast + y.tt := by
            conv => lhs; rw [hs, Inl.ttL_app, Inl.ttL, Inl.ttL]
            omega
          have hz : Inl.szL out = Inl.szL out.dropLast + y.sz := by
            conv => lhs; rw [hs, Inl.szL_app2, Inl.szL, Inl.szL]
            omega
          refine ⟨?_, ?_, fun h1 h2 => ?_⟩
          · rw [Inl.ttL_app, Inl.ttL, Inl.ttL]; omega
          · rw [Inl.szL_app2, Inl.szL, Inl.szL]; omega
          · rw [hs, Inl.bdL_app2, Inl.bdL, Inl.bdL] at h1
            rw [Inl.bdL_app2, Inl.bdL, Inl.bdL]
            exact ⟨h1.1, hb.2.2.2 h1.2.1, trivial⟩
        · exact hone
      · exact hone
  · exact hone
mutual
theorem Inl.mergeX_bnd : ∀ (x : Inl), x.mergeX.tt ≤ x.tt ∧ x.mergeX.sz ≤ x.sz ∧ (x.bd → x.mergeX.bd)
  | .mk k t d ti a ar ci ks => by
    have h := Inl.mergeA_bnd ks []
    rw [Inl.ttL, Inl.szL, Nat.zero_add, Nat.zero_add] at h
    rw [Inl.mergeX]
    unfold Inl.tt Inl.sz Inl.bd
    exact ⟨by omega, by omega, fun hb => ⟨hb.1, hb.2.1, hb.2.2.1, hb.2.2.2.1, h.2.2 (by unfold Inl.bdL; trivial) hb.2.2.2.2⟩⟩
theorem Inl.mergeA_bnd : ∀ (l out : List Inl), Inl.ttL (Inl.mergeA out l) ≤ Inl.ttL out + Inl.ttL l ∧ Inl.szL (Inl.mergeA out l) ≤ Inl.szL out + Inl.szL l ∧ (Inl.bdL out → Inl.bdL l → Inl.bdL (Inl.mergeA out l))
  | [], out => by rw [Inl.mergeA]; exact ⟨Nat.le_add_right _ _, Nat.le_add_right _ _, fun h _ => h⟩
  | x :: l, out => by
    have h1 := Inl.mergeX_bnd x
    have h2 := addM_bnd out x.mergeX
    have h3 := Inl.mergeA_bnd l (addM out x.mergeX)
    rw [Inl.mergeA, Inl.ttL, Inl.szL, Inl.bdL]
    exact ⟨by omega, by omega, fun ho hl => h3.2.2 (h2.2.2 ho (h1.2.2 hl.1)) hl.2⟩
end
mutual
theorem Inl.txB_tt : ∀ (x : Inl), x.tt ≤ 100000 → x.txB
  | .mk k t d ti a ar ci ks, h => by
    unfold Inl.tt at h
    unfold Inl.txB
    exact ⟨by omega, Inl.txBL_tt ks (by omega)⟩
theorem Inl.txBL_tt : ∀ (l : List Inl), Inl.ttL l ≤ 100000 → Inl.txBL l
  | [], _ => by unfold Inl.txBL; trivial
  | x :: l, h => by
    unfold Inl.ttL at h
    unfold Inl.txBL
    exact ⟨Inl.txB_tt x (by omega), Inl.txBL_tt l (by omega)⟩
end
mutual
theorem Inl.tt_sm : ∀ (x : Inl), x.small → x.tt ≤ 300 * x.sz
  | .mk k t d ti a ar ci ks, h => by
    unfold Inl.small at h
    have := Inl.ttL_sm ks h.2.2.2.2.2.2.2.2
    have := h.1
    unfold Inl.tt Inl.sz
    omega
theorem Inl.ttL_sm : ∀ (l : List Inl), Inl.smallL l → Inl.ttL l ≤ 300 * Inl.szL l
  | [], _ => by unfold Inl.ttL; omega
  | x :: l, h => by
    unfold Inl.smallL at h
    have := Inl.tt_sm x h.1
    have := Inl.ttL_sm l h.2
    unfold Inl.ttL Inl.szL
    omega
end
/-- All that the contracts of Merge ask for, before and behind. -/
theorem merge_bnd (l : List Inl) (h : Inl.smallL l) (hs : Inl.szL l ≤ 120) : Inl.bdL l ∧ Inl.txBL l ∧ Inl.bdL (Inl.mergeL l) ∧ Inl.txBL (Inl.mergeL l) ∧ Inl.szL (Inl.mergeL l) ≤ 120 := by
  have h1 := Inl.mergeA_bnd l []
  rw [Inl.ttL, Inl.szL, Nat.zero_add, Nat.zero_add] at h1
  have h2 := Inl.ttL_sm l h
  have h3 := Inl.bdL_sm l h
  exact ⟨h3, Inl.txBL_tt l (by omega), h1.2.2 (by unfold Inl.bdL; trivial) h3, Inl.txBL_tt _ (by unfold Inl.mergeL; omega), by unfold Inl.mergeL; omega⟩
end Go.Proofs.YtcfplilbhkaihaaGreatDoor
