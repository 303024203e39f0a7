/- Plain functions on the document's data, and its cells for a walk. -/
import Derived.Test.YtjolhiofllpejaaDoorDoc
namespace Go.Proofs.YtjolhiofllpejaaDoor
open Go.RowKit

mutual
def Inl.sz : Inl → Nat
  | .mk _ _ _ _ _ _ _ ks => 1 + Inl.szL ks
def Inl.szL : List Inl → Nat
  | [] => 0
  | x :: l => x.sz + Inl.szL l
end
mutual
def Blk.sz : Blk → Nat
  | .mk _ _ _ _ _ _ _ _ ks => 1 + Blk.szL ks
def Blk.szL : List Blk → Nat
  | [] => 0
  | x :: l => x.sz + Blk.szL l
end
theorem Inl.szL_get : ∀ (l : List Inl) (k : Nat) (x : Inl), l[k]? = some x → x.sz ≤ Inl.szL l
  | [], _, _, h => by simp at h
  | y :: l, 0, x, h => by simp at h; subst h; rw [Inl.szL]; omega
  | y :: l, k + 1, x, h => by
    have := Inl.szL_get l k x (by simpa using h)
    rw [Inl.szL]; omega
theorem Blk.szL_get : ∀ (l : List Blk) (k : Nat) (x : Blk), l[k]? = some x → x.sz ≤ Blk.szL l
  | [], _, _, h => by simp at h
  | y :: l, 0, x, h => by simp at h; subst h; rw [Blk.szL]; omega
  | y :: l, k + 1, x, h => by
    have := Blk.szL_get l k x (by simpa using h)
    rw [Blk.szL]; omega

mutual
/-- The plain text of an inline. -/
def Inl.plain : Inl → List UInt8
  | .mk k t d _ _ _ _ ks =>
    if k = 1 ∨ k = 4 ∨ k = 5 then t.data.toList else if k = 2 ∨ k = 3 then [32]
    else if k = 6 ∨ k = 7 ∨ k = 8 ∨ k = 9 ∨ k = 10 ∨ k = 11 then Inl.plainL ks else if k = 16 then d.data.toList else []
def Inl.plainL : List Inl → List UInt8
  | [] => []
  | x :: l => x.plain ++ Inl.plainL l
end
theorem Inl.plainL_app (l m : List Inl) : Inl.plainL (l ++ m) = Inl.plainL l ++ Inl.plainL m := by
  induction l with
  | nil => rw [Inl.plainL]; rfl
  | cons x l ih => rw [List.cons_append, Inl.plainL, Inl.plainL, ih, List.append_assoc]
theorem Inl.plainL_take (l : List Inl) (k : Nat) (x : Inl) (h : l[k]? = some x) : Inl.plainL (l.take (k + 1)) = Inl.plainL (l.take k) ++ x.plain := by
  rw [List.take_add_one, h, Inl.plainL_app]
  simp [Inl.plainL]
theorem Inl.plainL_le (l : List Inl) (k : Nat) : (Inl.plainL (l.take k)).length ≤ (Inl.plainL l).length := by
  have h : l = l.take k ++ l.drop k := (List.take_append_drop k l).symm
  have := congrArg (fun l => (Inl.plainL l).length) h
  rw [Inl.plainL_app] at this
  simp at this
  omega
theorem Inl.plain_le (l : List Inl) (k : Nat) (x : Inl) (h : l[k]? = some x) : (Inl.plainL (l.take k)).length + x.plain.length ≤ (Inl.plainL l).length := by
  have h1 := Inl.plainL_le l (k + 1)
  rw [Inl.plainL_take l k x h, List.length_append] at h1
  exact h1

variable {ok : Nat → Prop} {w : World}
/-- The cells of the k-th inline, as the walk names them. -/
structure InCells (w : World) (b o : Nat) (k : Int) (t d ti : ByteArray) (id : ByteArray) (vc vp va vi vk : Value) : Prop where
  c0 : w.cell? ⟨b, o, none⟩ = some (.int .i64 k)
  c1 : w.cell? ⟨b, o + 1, none⟩ = some (.string t)
  c2 : w.cell? ⟨b, o + 2, none⟩ = some (.string d)
  c3 : w.cell? ⟨b, o + 3, none⟩ = some (.string ti)
  c4 : w.cell? ⟨b, o + 4, none⟩ = some (.string id)
  c5 : w.cell? ⟨b, o + 5, none⟩ = some vc
  c6 : w.cell? ⟨b, o + 6, none⟩ = some vp
  c7 : w.cell? ⟨b, o + 7, none⟩ = some va
  c8 : w.cell? ⟨b, o + 8, none⟩ = some vi
  c9 : w.cell? ⟨b, o + 9, none⟩ = some vk
theorem InCells.of {w : World} {b o : Nat} {cs : List Value} {k : Int} {t d ti id : ByteArray} {vc vp va vi vk : Value} (hcs : cs = [.int .i64 k, .string t, .string d, .string ti, .string id, vc, vp, va, vi, vk]) (h : ∀ j u, cs[j]? = some u → w.cell? ⟨b, o + j, none⟩ = some u) : InCells w b o k t d ti id vc vp va vi vk := by
  subst hcs
  exact ⟨h 0 _ rfl, h 1 _ rfl, h 2 _ rfl, h 3 _ rfl, h 4 _ rfl, h 5 _ rfl, h 6 _ rfl, h 7 _ rfl, h 8 _ rfl, h 9 _ rfl⟩
/-- A slice of inlines: its k-th one. -/
theorem inls_at {l : List Inl} {a : Option Addr} {cap : Nat} (h : SlAt ok w 10 (l.map Inl.d) a cap) {k : Nat} {kd : Int} {t d ti : ByteArray} {at_ : At} {ar : List ByteArray} {ci : List Ci} {ks : List Inl} (hk : l[k]? = some (.mk kd t d ti at_ ar ci ks)) :
    ∃ b off vc vp va vi vk, a = some ⟨b, off, none⟩ ∧ ok b ∧ b < w.heap.size ∧ InCells w b (off + k * 10) kd t d ti at_.id vc vp va vi vk ∧ InR ok w at_ ar ci ks vc vp va vi vk := by
  have hlt : k < l.length := (List.getElem?_eq_some_iff.1 hk).1
  obtain ⟨b, off, ha, hok, hb, hc⟩ := h.at_ (by simpa using Nat.lt_of_le_of_lt (Nat.zero_le _) hlt)
  obtain ⟨r, hr, hl, hcell⟩ := hc k _ (by rw [List.getElem?_map, hk]; rfl)
  obtain ⟨vc, vp, va, vi, vk, hcs, hR⟩ := Inl.open_ hr
  exact ⟨b, off, vc, vp, va, vi, vk, ha, hok, hb, InCells.of hcs (fun j u hu => by rw [Nat.add_assoc]; exact hcell j u hu), hR⟩
structure BlCells (w : World) (b o : Nat) (k lv : Int) (i t d ti : ByteArray) (id : ByteArray) (vc vp vl vk : Value) : Prop where
  c0 : w.cell? ⟨b, o, none⟩ = some (.int .i64 k)
  c1 : w.cell? ⟨b, o + 1, none⟩ = some (.int .i64 lv)
  c2 : w.cell? ⟨b, o + 2, none⟩ = some (.string i)
  c3 : w.cell? ⟨b, o + 3, none⟩ = some (.string t)
  c4 : w.cell? ⟨b, o + 4, none⟩ = some (.string d)
  c5 : w.cell? ⟨b, o + 5, none⟩ = some (.string ti)
  c6 : w.cell? ⟨b, o + 6, none⟩ = some (.string id)
  c7 : w.cell? ⟨b, o + 7, none⟩ = some vc
  c8 : w.cell? ⟨b, o + 8, none⟩ = some vp
  c9 : w.cell? ⟨b, o + 9, none⟩ = some vl
  c10 : w.cell? ⟨b, o + 10, none⟩ = some vk
theorem BlCells.of {w : World} {b o : Nat} {cs : List Value} {k lv : Int} {i t d ti id : ByteArray} {vc vp vl vk : Value} (hcs : cs = [.int .i64 k, .int .i64 lv, .string i, .string t, .string d, .string ti, .string id, vc, vp, vl, vk]) (h : ∀ j u, cs[j]? = some u → w.cell? ⟨b, o + j, none⟩ = some u) : BlCells w b o k lv i t d ti id vc vp vl vk := by
  subst hcs
  exact ⟨h 0 _ rfl, h 1 _ rfl, h 2 _ rfl, h 3 _ rfl, h 4 _ rfl, h 5 _ rfl, h 6 _ rfl, h 7 _ rfl, h 8 _ rfl, h 9 _ rfl, h 10 _ rfl⟩
theorem blks_at {l : List Blk} {a : Option Addr} {cap : Nat} (h : SlAt ok w 11 (l.map Blk.d) a cap) {k : Nat} {kd lv : Int} {i t d ti : ByteArray} {at_ : At} {li : List Inl} {ks : List Blk} (hk : l[k]? = some (.mk kd lv i t d ti at_ li ks)) :
    ∃ b off vc vp vl vk, a = some ⟨b, off, none⟩ ∧ ok b ∧ b < w.heap.size ∧ BlCells w b (off + k * 11) kd lv i t d ti at_.id vc vp vl vk ∧ BlR ok w at_ li ks vc vp vl vk := by
  have hlt : k < l.length := (List.getElem?_eq_some_iff.1 hk).1
  obtain ⟨b, off, ha, hok, hb, hc⟩ := h.at_ (by simpa using Nat.lt_of_le_of_lt (Nat.zero_le _) hlt)
  obtain ⟨r, hr, hl, hcell⟩ := hc k _ (by rw [List.getElem?_map, hk]; rfl)
  obtain ⟨vc, vp, vl, vk, hcs, hR⟩ := Blk.open_ hr
  exact ⟨b, off, vc, vp, vl, vk, ha, hok, hb, BlCells.of hcs (fun j u hu => by rw [Nat.add_assoc]; exact hcell j u hu), hR⟩
end Go.Proofs.YtjolhiofllpejaaDoor
