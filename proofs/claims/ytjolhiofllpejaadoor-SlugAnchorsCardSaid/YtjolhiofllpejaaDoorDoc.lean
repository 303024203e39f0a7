/- The document's data, as plain data and in memory. -/
import Derived.Test.YtjolhiofllpejaaDoorRd
namespace Go.Proofs.YtjolhiofllpejaaDoor
open Go.RowKit

structure Pr where
  key : ByteArray
  val : ByteArray
deriving DecidableEq
structure Ci where
  key : ByteArray
  pre : ByteArray
  suf : ByteArray
  bare : Bool
deriving DecidableEq
structure At where
  id : ByteArray
  cls : List ByteArray
  prs : List Pr
deriving DecidableEq
inductive Inl where
  | mk (kind : Int) (text dest title : ByteArray) (at_ : At) (args : List ByteArray) (cites : List Ci) (kids : List Inl)
inductive Blk where
  | mk (kind level : Int) (info text dest title : ByteArray) (at_ : At) (line : List Inl) (kids : List Blk)

def Pr.d (p : Pr) : D := .st [.str p.key, .str p.val]
def Ci.d (c : Ci) : D := .st [.str c.key, .str c.pre, .str c.suf, .bool c.bare]
def At.ds (a : At) : List D := [.str a.id, strsD a.cls, .sl 2 (a.prs.map Pr.d)]
mutual
def Inl.d : Inl → D
  | .mk k t d ti a ar ci ks => .st [.int .i64 k, .str t, .str d, .str ti, .st a.ds, strsD ar, .sl 4 (ci.map Ci.d), .sl 10 (Inl.dl ks)]
def Inl.dl : List Inl → List D
  | [] => []
  | x :: l => x.d :: Inl.dl l
end
theorem Inl.dl_map : ∀ (l : List Inl), Inl.dl l = l.map Inl.d
  | [] => by unfold Inl.dl; rfl
  | x :: l => by rw [Inl.dl, Inl.dl_map l]; rfl
mutual
def Blk.d : Blk → D
  | .mk k lv i t d ti a li ks => .st [.int .i64 k, .int .i64 lv, .str i, .str t, .str d, .str ti, .st a.ds, .sl 10 (li.map Inl.d), .sl 11 (Blk.dl ks)]
def Blk.dl : List Blk → List D
  | [] => []
  | x :: l => x.d :: Blk.dl l
end
theorem Blk.dl_map : ∀ (l : List Blk), Blk.dl l = l.map Blk.d
  | [] => by unfold Blk.dl; rfl
  | x :: l => by rw [Blk.dl, Blk.dl_map l]; rfl

def inlsD (l : List Inl) : D := .sl 10 (l.map Inl.d)
def blksD (l : List Blk) : D := .sl 11 (l.map Blk.d)
def prsD (l : List Pr) : D := .sl 2 (l.map Pr.d)
def cisD (l : List Ci) : D := .sl 4 (l.map Ci.d)

variable {ok : Nat → Prop} {w : World}

theorem Pr.open_ {p : Pr} {cs : List Value} (h : Rd ok w p.d cs) : cs = [.string p.key, .string p.val] := by
  unfold Pr.d at h
  obtain ⟨_, g0, rfl⟩ := h.st_open
  obtain ⟨_, _, rfl, h1, g1⟩ := g0.cons_open
  obtain ⟨_, _, rfl, h2, g2⟩ := g1.cons_open
  obtain rfl := g2.nil_open
  obtain rfl := h1.str_open
  obtain rfl := h2.str_open
  rfl
theorem Ci.open_ {p : Ci} {cs : List Value} (h : Rd ok w p.d cs) : cs = [.string p.key, .string p.pre, .string p.suf, .bool p.bare] := by
  unfold Ci.d at h
  obtain ⟨_, g0, rfl⟩ := h.st_open
  obtain ⟨_, _, rfl, h1, g1⟩ := g0.cons_open
  obtain ⟨_, _, rfl, h2, g2⟩ := g1.cons_open
  obtain ⟨_, _, rfl, h3, g3⟩ := g2.cons_open
  obtain ⟨_, _, rfl, h4, g4⟩ := g3.cons_open
  obtain rfl := g4.nil_open
  obtain rfl := h1.str_open
  obtain rfl := h2.str_open
  obtain rfl := h3.str_open
  obtain rfl := h4.bool_open
  rfl
theorem Pr.mk_ (ok : Nat → Prop) (w : World) (p : Pr) : Rd ok w p.d [.string p.key, .string p.val] :=
  Rd.st_mk (rows := [[.string p.key], [.string p.val]]) (.cons (Rd.str_mk _ _ _) (.cons (Rd.str_mk _ _ _) .none))
theorem Ci.mk_ (ok : Nat → Prop) (w : World) (p : Ci) : Rd ok w p.d [.string p.key, .string p.pre, .string p.suf, .bool p.bare] :=
  Rd.st_mk (rows := [[.string p.key], [.string p.pre], [.string p.suf], [.bool p.bare]]) (.cons (Rd.str_mk _ _ _) (.cons (Rd.str_mk _ _ _) (.cons (Rd.str_mk _ _ _) (.cons (Rd.bool_mk _ _ _) .none))))

/-- A slice value that reads as a datum. -/
theorem Rd.sl_one {k : Nat} {l : List D} {cs : List Value} (h : Rd ok w (.sl k l) cs) : ∃ v, cs = [v] ∧ Rd ok w (.sl k l) [v] := by
  obtain ⟨a, cap, rfl, _⟩ := h.sl_open
  exact ⟨_, rfl, h⟩

/-- What attributes read as: the cells of the two slices. -/
structure AtR (ok : Nat → Prop) (w : World) (a : At) (vc vp : Value) : Prop where
  cls : Rd ok w (strsD a.cls) [vc]
  prs : Rd ok w (prsD a.prs) [vp]
theorem At.open_ {a : At} {cs : List Value} (h : Rd ok w (.st a.ds) cs) : ∃ vc vp, cs = [.string a.id, vc, vp] ∧ AtR ok w a vc vp := by
  unfold At.ds at h
  obtain ⟨_, g0, rfl⟩ := h.st_open
  obtain ⟨_, _, rfl, h1, g1⟩ := g0.cons_open
  obtain ⟨_, _, rfl, h2, g2⟩ := g1.cons_open
  obtain ⟨_, _, rfl, h3, g3⟩ := g2.cons_open
  obtain ⟨vc, rfl, h2⟩ := Rd.sl_one h2
  obtain ⟨vp, rfl, h3⟩ := Rd.sl_one h3
  obtain rfl := g3.nil_open
  obtain rfl := h1.str_open
  exact ⟨vc, vp, rfl, h2, h3⟩
theorem At.mk_ {a : At} {vc vp : Value} (h : AtR ok w a vc vp) : Rd ok w (.st a.ds) [.string a.id, vc, vp] :=
  Rd.st_mk (rows := [[.string a.id], [vc], [vp]]) (.cons (Rd.str_mk _ _ _) (.cons h.cls (.cons h.prs .none)))

/-- What an inline reads as: the cells of its slices. -/
structure InR (ok : Nat → Prop) (w : World) (at_ : At) (args : List ByteArray) (cites : List Ci) (kids : List Inl) (vc vp va vi vk : Value) : Prop where
  at_ : AtR ok w at_ vc vp
  args : Rd ok w (strsD args) [va]
  cites : Rd ok w (cisD cites) [vi]
  kids : Rd ok w (inlsD kids) [vk]
theorem Inl.open_ {k : Int} {t d ti : ByteArray} {a : At} {ar : List ByteArray} {ci : List Ci} {ks : List Inl} {cs : List Value} (h : Rd ok w (Inl.mk k t d ti a ar ci ks).d cs) :
    ∃ vc vp va vi vk, cs = [.int .i64 k, .string t, .string d, .string ti, .string a.id, vc, vp, va, vi, vk] ∧ InR ok w a ar ci ks vc vp va vi vk := by
  unfold Inl.d at h
  obtain ⟨_, g0, rfl⟩ := h.st_open
  obtain ⟨_, _, rfl, h1, g1⟩ := g0.cons_open
  obtain ⟨_, _, rfl, h2, g2⟩ := g1.cons_open
  obtain ⟨_, _, rfl, h3, g3⟩ := g2.cons_open
  obtain ⟨_, _, rfl, h4, g4⟩ := g3.cons_open
  obtain ⟨_, _, rfl, h5, g5⟩ := g4.cons_open
  obtain ⟨_, _, rfl, h6, g6⟩ := g5.cons_open
  obtain ⟨_, _, rfl, h7, g7⟩ := g6.cons_open
  obtain ⟨_, _, rfl, h8, g8⟩ := g7.cons_open
  obtain ⟨vc, vp, rfl, ha⟩ := At.open_ h5
  obtain ⟨va, rfl, h6⟩ := Rd.sl_one h6
  obtain ⟨vi, rfl, h7⟩ := Rd.sl_one h7
  obtain ⟨vk, rfl, h8⟩ := Rd.sl_one h8
  rw [Inl.dl_map] at h8
  obtain rfl := g8.nil_open
  obtain rfl := h1.int_open
  obtain rfl := h2.str_open
  obtain rfl := h3.str_open
  obtain rfl := h4.str_open
  exact ⟨vc, vp, va, vi, vk, rfl, ha, h6, h7, h8⟩
theorem Inl.mk_ (k : Int) (t d ti : ByteArray) {a : At} {ar : List ByteArray} {ci : List Ci} {ks : List Inl} {vc vp va vi vk : Value} (h : InR ok w a ar ci ks vc vp va vi vk) :
    Rd ok w (Inl.mk k t d ti a ar ci ks).d [.int .i64 k, .string t, .string d, .string ti, .string a.id, vc, vp, va, vi, vk] := by
  unfold Inl.d
  rw [Inl.dl_map]
  exact Rd.st_mk (rows := [[.int .i64 k], [.string t], [.string d], [.string ti], [.string a.id, vc, vp], [va], [vi], [vk]])
    (.cons (Rd.int_mk _ _ _ _) (.cons (Rd.str_mk _ _ _) (.cons (Rd.str_mk _ _ _) (.cons (Rd.str_mk _ _ _) (.cons (At.mk_ h.at_) (.cons h.args (.cons h.cites (.cons h.kids .none))))))))

structure BlR (ok : Nat → Prop) (w : World) (at_ : At) (line : List Inl) (kids : List Blk) (vc vp vl vk : Value) : Prop where
  at_ : AtR ok w at_ vc vp
  line : Rd ok w (inlsD line) [vl]
  kids : Rd ok w (blksD kids) [vk]
theorem Blk.open_ {k lv : Int} {i t d ti : ByteArray} {a : At} {li : List Inl} {ks : List Blk} {cs : List Value} (h : Rd ok w (Blk.mk k lv i t d ti a li ks).d cs) :
    ∃ vc vp vl vk, cs = [.int .i64 k, .int .i64 lv, .string i, .string t, .string d, .string ti, .string a.id, vc, vp, vl, vk] ∧ BlR ok w a li ks vc vp vl vk := by
  unfold Blk.d at h
  obtain ⟨_, g0, rfl⟩ := h.st_open
  obtain ⟨_, _, rfl, h1, g1⟩ := g0.cons_open
  obtain ⟨_, _, rfl, h2, g2⟩ := g1.cons_open
  obtain ⟨_, _, rfl, h3, g3⟩ := g2.cons_open
  obtain ⟨_, _, rfl, h4, g4⟩ := g3.cons_open
  obtain ⟨_, _, rfl, h5, g5⟩ := g4.cons_open
  obtain ⟨_, _, rfl, h6, g6⟩ := g5.cons_open
  obtain ⟨_, _, rfl, h7, g7⟩ := g6.cons_open
  obtain ⟨_, _, rfl, h8, g8⟩ := g7.cons_open
  obtain ⟨_, _, rfl, h9, g9⟩ := g8.cons_open
  obtain ⟨vc, vp, rfl, ha⟩ := At.open_ h7
  obtain ⟨vl, rfl, h8⟩ := Rd.sl_one h8
  obtain ⟨vk, rfl, h9⟩ := Rd.sl_one h9
  rw [Blk.dl_map] at h9
  obtain rfl := g9.nil_open
  obtain rfl := h1.int_open
  obtain rfl := h2.int_open
  obtain rfl := h3.str_open
  obtain rfl := h4.str_open
  obtain rfl := h5.str_open
  obtain rfl := h6.str_open
  exact ⟨vc, vp, vl, vk, rfl, ha, h8, h9⟩
theorem Blk.mk_ (k lv : Int) (i t d ti : ByteArray) {a : At} {li : List Inl} {ks : List Blk} {vc vp vl vk : Value} (h : BlR ok w a li ks vc vp vl vk) :
    Rd ok w (Blk.mk k lv i t d ti a li ks).d [.int .i64 k, .int .i64 lv, .string i, .string t, .string d, .string ti, .string a.id, vc, vp, vl, vk] := by
  unfold Blk.d
  rw [Blk.dl_map]
  exact Rd.st_mk (rows := [[.int .i64 k], [.int .i64 lv], [.string i], [.string t], [.string d], [.string ti], [.string a.id, vc, vp], [vl], [vk]])
    (.cons (Rd.int_mk _ _ _ _) (.cons (Rd.int_mk _ _ _ _) (.cons (Rd.str_mk _ _ _) (.cons (Rd.str_mk _ _ _) (.cons (Rd.str_mk _ _ _) (.cons (Rd.str_mk _ _ _) (.cons (At.mk_ h.at_) (.cons h.line (.cons h.kids .none)))))))))
end Go.Proofs.YtjolhiofllpejaaDoor
