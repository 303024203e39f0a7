/- Plain part: different anchors for texts: the first free number. Maps of the call's own with texts as keys: a set (bool elements). Words for copies of inlines and blocks: what is not too long; blocks that are known whole. Plain laws on anchors: how long they are; what is used when the k-th one is looked for. The contract of slug.Of. Contracts of slug.copyAttr and slug.copyLine. The anchors that are left, in the box that slug.Anchors$1 takes them out of; which blocks get them. The contract of count.copyLine. A row that a call builds: what its elements read lies below U; laws for append of one element and of a slice. Maps of the call's own from numbers to numbers; the contract of toc.treatments. -/
import Derived.Test.YtlbioncagkkkoaaGreatDoorKPlFold
import Derived.Test.YtlbioncagkkkoaaGreatDoorKName
import Derived.Lib.ItoaNum
import Derived.Maps.Own
import Derived.Maps.OwnOps
import Derived.Maps.Views
import Derived.Maps.Keyed
import Derived.StringKeys
import Derived.Test.YtlbioncagkkkoaaGreatDoorKAppend
import Derived.Test.YtlbioncagkkkoaaGreatDoorKRFoldR
import Derived.Deep.RegionHeld3
import Derived.Deep.RegionWith
import Derived.Deep.DeepCutAuto
import Derived.Maps.AppendAt
import Derived.Deep.AppendLies
set_option maxHeartbeats 8000000
set_option maxRecDepth 100000
open Go.Lib (hid)
namespace Go.Proofs.YtlbioncagkkkoaaGreatDoor
def valD (l:List UInt8):Nat:=l.foldl (fun a c=>a*10+(c.toNat-48)) 0
theorem valD_snoc (l:List UInt8) (c:UInt8):valD (l++[c])=valD l*10+(c.toNat-48):=by simp [valD]
theorem valD_dec (n:Nat):valD (Lib.decDigits n)=n:=by
 induction n using Nat.strongRecOn with
 | _ n ih=>
  rw [Lib.decDigits]
  split
  ·have:(UInt8.ofNat (48+n)).toNat=48+n:=by simp;omega
   simp only [valD,List.foldl_cons,List.foldl_nil,this];omega
  ·rw [valD_snoc,ih (n/10) (by omega)]
   have:(UInt8.ofNat (48+n%10)).toNat=48+n%10:=by simp;omega
   rw [this];omega
def q1d (T:List ByteArray) (x:ByteArray):Bool:=T.any fun y=>decide (y=x)
theorem hasB_iff (T:List ByteArray) (x:ByteArray):q1d T x=true↔x∈T:=by
 unfold q1d
 rw [List.any_eq_true]
 constructor
 ·rintro ⟨y,hy,h⟩;rw [<- of_decide_eq_true h];exact hy
 ·intro h;exact ⟨x,h,decide_eq_true rfl⟩
theorem hasB_no (T:List ByteArray) (x:ByteArray):q1d T x=false↔x ∉ T:=by
 rw [<- hasB_iff,Bool.not_eq_true]
open Go.RowKit Go.Maps
set_option linter.unusedVariables false
set_option linter.unusedSimpArgs false
theorem keyS:Keyed Tryz.prog 9:=string_keyed Tryz.underlying9
theorem zeroB (w:World):(zeroValue 4).run Tryz.prog w=.ok (.bool false) w:=by kernel_rfl
theorem zeroI (w:World):(zeroValue 3).run Tryz.prog w=.ok (.int .i64 0) w:=by kernel_rfl
def sKey (s:ByteArray):Lit:=.string s.data.toList
theorem sKey_of (s:ByteArray) (hs:s.size<=maxLen):keyOf Tryz.prog 9 (.string s)=some (sKey s):=WideMaps.keyOf_string_mk Tryz.underlying9 hs
theorem sKey_inj (s t:ByteArray) (h:sKey s=sKey t):s=t:=by
 unfold sKey at h
 injection h with h
 exact ByteArray.ext (Array.toList_inj.1 h)
theorem plainB_inv {P:Program} {e:TypeId} (he:P.underlying e=some .bool) {v:Value} {z:DataW Unit × List MemPlace} (h:plainElem P e v=some z):∃ x,v=.bool x/\z=(.lit (.bool x),[]):=by
 unfold plainElem at h
 rw [he] at h
 cases v<;>simp at h
 exact ⟨_,rfl,h.symm⟩
def SetAt (w:World) (b n:Nat) (S:List ByteArray):Prop:=
 ∃ D:DataW Unit,w.ownsMap Tryz.prog 9 (plainElem Tryz.prog 4) b n D/\∀ s:ByteArray,D.atKey (sKey s) (.lit (.bool false))=.lit (.bool (q1d S s))
theorem owns_isMap {w:World} {k:TypeId} {R:Value->Option (DataW Unit × List MemPlace)} {b n:Nat} {D:DataW Unit} (h:w.ownsMap Tryz.prog k R b n D):IsMap D:=by
 obtain ⟨es,c,_,_,_,rfl⟩:=h
 exact ⟨_,rfl⟩
theorem sKey_lit (s:ByteArray):WideAt.IsKeyLit (sKey s):=by
 unfold sKey
 simp [WideAt.IsKeyLit]
theorem SetAt.look {w:World} {b n:Nat} {S:List ByteArray} (h:SetAt w b n S) (s:ByteArray) (hs:s.size<=maxLen) :
  (Instr.lookup 112 (.map (some b)) (.string s) false).run Tryz.prog w=.ok (.bool (q1d S s)) w:=by
 obtain ⟨D,hD,hat⟩:=h
 obtain ⟨v,ps,hrun,hv⟩:=hD.lookup keyS Tryz.underlying112 (zeroB w) (plainElem_bool Tryz.underlying4 false) (sKey_of s hs)
 obtain ⟨x,rfl,hx⟩:=plainB_inv Tryz.underlying4 hv
 rw [hat s] at hx
 simp only [Prod.mk.injEq] at hx
 have:q1d S s=x:=Lit.bool.inj (DataW.lit.inj hx.1)
 subst this;exact hrun
theorem SetAt.put {w:World} {b n:Nat} {S:List ByteArray} (h:SetAt w b n S) (s:ByteArray) (hs:s.size<=maxLen) (hn:n<maxLen) :
  ∃ w',(Instr.mapUpdate 112 (.map (some b)) (.string s) (.bool true)).run Tryz.prog w=.ok () w'/\SetAt w' b (n+1) (s::S)/\w.grownBy w' (some b):=by
 obtain ⟨D,hD,hat⟩:=h
 obtain ⟨w',hrun,hD',hg⟩:=hD.update keyS Tryz.underlying112 hn (sKey_of s hs) (plainElem_bool Tryz.underlying4 true)
 refine ⟨w',hrun,⟨_,hD',fun t=>?_⟩,hg⟩
 by_cases e:t=s
 ·subst e
  rw [atKey_put_same (owns_isMap hD) (sKey_lit t)]
  simp [q1d]
 ·rw [atKey_put_other (fun h=>e (sKey_inj _ _ h)),hat t]
  have:q1d (s::S) t=q1d S t:=by simp [q1d,show ¬ s=t from fun h=>e h.symm]
  rw [this]
theorem SetAt.made (w:World):SetAt (w.alloc (.map #[] 0)) w.heap.size 0 []:=
 ⟨_,World.ownsMap_made w _ _ _,fun s=>rfl⟩
theorem SetAt.kept {w w':World} {b n:Nat} {S:List ByteArray} {row:Option Nat} (h:SetAt w b n S) (hg:w.grownBy w' row) (hne:some b≠row):SetAt w' b n S:=by
 obtain ⟨D,hD,hat⟩:=h
 exact ⟨D,hD.kept hg hne,hat⟩
theorem q02 {w w':World} (hb:Below w.heap.size w w'):w.grownBy w' none:=⟨hb.os,hb.tape,hb.output,hb.size,fun i hi _=>hb.block i hi⟩
theorem SetAt.below {w w':World} {b n:Nat} {S:List ByteArray} (h:SetAt w b n S) (hb:Below w.heap.size w w'):SetAt w' b n S:=h.kept (q02 hb) (by simp)
open Go.RowKit
theorem infoS:(Tryz.prog.info? 9).map (fun i=>(i.zero,i.size,i.bytes))=some (some (.string ByteArray.empty),1,16):=by kernel_rfl
theorem str_ne {x y:ByteArray} (h:y≠x):(y.toList==x.toList)=false:=by
 rw [beq_eq_false_iff_ne]
 intro e
 apply h
 apply ByteArray.ext
 apply Array.toList_inj.1
 rw [<- Lib.toList_data,<- Lib.toList_data,e]
theorem hasB_snoc (l:List ByteArray) (k:Nat) (y x:ByteArray) (h:l[k]?=some y):q1d (l.take (k+1)) x=(q1d (l.take k) x||decide (y=x)):=by
 unfold q1d;rw [List.take_add_one,h];simp
theorem hasB_take (l:List ByteArray) (k:Nat) (x:ByteArray) (h:q1d (l.take k) x=true):q1d l x=true:=by
 rw [hasB_iff] at *;exact List.mem_of_mem_take h
theorem infoPr:(Tryz.prog.info? 58).map (fun i=>(i.zero,i.size,i.bytes))=some (some (.agg #[.string ByteArray.empty,.string ByteArray.empty]),2,32):=by kernel_rfl
theorem q20 (w:World) (B:Nat) (e:TypeId) (k:Nat):w.ownsRow B e k (.slice none 0 0) 0 []:=⟨by simp,.inl ⟨rfl,rfl⟩⟩
def CpS (w w':World) (id:ByteArray) (vc vp:Value):Prop:=
 w'.cell? ⟨w.heap.size,0,none⟩=some (.string id)/\w'.cell? ⟨w.heap.size,1,none⟩=some vc/\w'.cell? ⟨w.heap.size,2,none⟩=some vp/\Below w.heap.size w w'
theorem CpS.grown {w w1 w2:World} {id:ByteArray} {vc vp:Value} (h:CpS w w1 id vc vp) (hg:w1.grownBy w2 none):CpS w w2 id vc vp:=
 ⟨q0m hg h.1 (by simp),q0m hg h.2.1 (by simp),q0m hg h.2.2.1 (by simp),h.2.2.2.grown hg h.2.2.2.size (by simp)⟩
theorem CpS.set {w w1:World} {id:ByteArray} {vc vp:Value} (h:CpS w w1 id vc vp) (o:Nat) (u:Value):CpS w (w1.setCell ⟨w.heap.size+1,o,none⟩ u) id vc vp:=
 ⟨by rw [World.cell?_setCell_other _ _ _ _ (by simp)];exact h.1,by rw [World.cell?_setCell_other _ _ _ _ (by simp)];exact h.2.1,by rw [World.cell?_setCell_other _ _ _ _ (by simp)];exact h.2.2.1,h.2.2.2.setCell (p:=⟨w.heap.size+1,o,none⟩) (by simp) u⟩
def RB (w w':World):Prop:=w'.heap[w.heap.size+1]?=some (.cells #[.string ⟨#[]⟩,.slice none 0 0,.slice none 0 0] 44 (0,0))
theorem RB.grown {w w1 w2:World} (h:RB w w1) (hg:w1.grownBy w2 none):RB w w2:=(hg.block _ (by unfold RB at h;exact (Array.getElem?_eq_some_iff.1 h).1) (by simp)).trans h
theorem RB.cells {w w':World} (h:RB w w'):w'.cell? ⟨w.heap.size+1,0,none⟩=some (.string ⟨#[]⟩)/\w'.cell? ⟨w.heap.size+1,1,none⟩=some (.slice none 0 0)/\w'.cell? ⟨w.heap.size+1,2,none⟩=some (.slice none 0 0)/\w'.frozen? ⟨w.heap.size+1,0,none⟩=false/\w'.frozen? ⟨w.heap.size+1,1,none⟩=false/\w'.frozen? ⟨w.heap.size+1,2,none⟩=false:=by
 unfold RB at h
 simp [World.cell?,World.frozen?,h]
theorem q1g {w:World} {B:Nat} {e:TypeId} {k:Nat} {v:Value} {n:Nat} {xs:List Value} (h:w.ownsRow B e k v n xs) (p:Addr) (u:Value) (hne:v.ownBlock≠some p.block):(w.setCell p u).ownsRow B e k v n xs:=by
 refine ⟨h.1,?_⟩
 rcases h.2 with h0 | ⟨g,cap,cur,rfl,hg,hh,r⟩
 ·exact .inl h0
 ·exact .inr ⟨g,cap,cur,rfl,hg,(Below.heap_setCell w p u g (fun e'=>hne (by rw [<- e'];rfl))).trans hh,r⟩
theorem own_rb {w w':World} {B:Nat} {e:TypeId} {k:Nat} {v:Value} {n:Nat} {xs:List Value} (h:w'.ownsRow B e k v n xs) (hr:RB w w') (hne:e≠44):v.ownBlock≠some (w.heap.size+1):=by
 rcases h.2 with ⟨rfl,_⟩ | ⟨g,cap,cur,rfl,hg,hh,r⟩
 ·simp [Value.ownBlock]
 ·intro he
  have:g=w.heap.size+1:=by simpa [Value.ownBlock] using he
  subst this
  unfold RB at hr
  rw [hr] at hh
  injection hh with hh
  injection hh with _ ht
  exact hne ht.symm
theorem RdL.strs_any {ok ok':Nat->Prop} {w w':World} {l:List ByteArray} {rows:List (List Value)} (h:RdL ok w (l.map D.str) rows):RdL ok' w' (l.map D.str) rows:=by
 rw [RdL.strs_rows l rows h];exact RdL.strs l
theorem RdL.prs_any {ok ok':Nat->Prop} {w w':World}:∀ {l:List Pr} {rows:List (List Value)},RdL ok w (l.map Pr.d) rows->RdL ok' w' (l.map Pr.d) rows
 | [],_,h=>by rw [h.nil_open];exact RdL.none
 | p::l,_,h=>by
  obtain ⟨r,rs,rfl,h1,h2⟩:=RdL.cons_open (d:=p.d) (ds:=l.map Pr.d) h
  rw [Pr.open_ h1]
  exact RdL.cons (Pr.mk_ ok' w' p) (RdL.prs_any h2)
theorem RdL.cis_any {ok ok':Nat->Prop} {w w':World}:∀ {l:List Ci} {rows:List (List Value)},RdL ok w (l.map Ci.d) rows->RdL ok' w' (l.map Ci.d) rows
 | [],_,h=>by rw [h.nil_open];exact RdL.none
 | p::l,_,h=>by
  obtain ⟨r,rs,rfl,h1,h2⟩:=RdL.cons_open (d:=p.d) (ds:=l.map Ci.d) h
  rw [Ci.open_ h1]
  exact RdL.cons (Ci.mk_ ok' w' p) (RdL.cis_any h2)
theorem infoIn:(Tryz.prog.info? 47).map (fun i=>(i.zero,i.size,i.bytes))=some (some (.agg #[.int .i64 0,.string ByteArray.empty,.string ByteArray.empty,.string ByteArray.empty,.string ByteArray.empty,.slice none 0 0,.slice none 0 0,.slice none 0 0,.slice none 0 0,.slice none 0 0]),10,192):=by kernel_rfl
theorem infoCi:(Tryz.prog.info? 96).map (fun i=>(i.zero,i.size,i.bytes))=some (some (.agg #[.string ByteArray.empty,.string ByteArray.empty,.string ByteArray.empty,.bool false]),4,56):=by kernel_rfl
mutual
def Inl.bd:Inl->Prop
 | .mk _ _ _ _ a ar ci ks=>a.cls.length<=1000000/\a.prs.length<=1000000/\ar.length<=1000000/\ci.length<=1000000/\Inl.bdL ks
def Inl.bdL:List Inl->Prop
 | []=>True
 | x::l=>x.bd/\Inl.bdL l
end
theorem Inl.bdL_get:∀ (l:List Inl) (k:Nat) (x:Inl),Inl.bdL l->l[k]?=some x->x.bd
 | [],_,_,_,h=>by simp at h
 | y::l,0,x,hb,h=>by simp at h;subst h;rw [Inl.bdL] at hb;exact hb.1
 | y::l,k+1,x,hb,h=>by rw [Inl.bdL] at hb;exact Inl.bdL_get l k x hb.2 (by simpa using h)
theorem Inl.sz_pos (x:Inl):1<=x.sz:=by cases x;rw [Inl.sz];omega
theorem Inl.len_le:∀ (l:List Inl),l.length<=Inl.szL l
 | []=>by simp
 | x::l=>by have:=Inl.len_le l;have:=x.sz_pos;rw [Inl.szL];simp;omega
def PB (p:Nat) (cs:List Value) (w:World):Prop:=w.heap[p]?=some (.cells cs.toArray 47 (0,0))
theorem PB.cell {p:Nat} {cs:List Value} {w:World} (h:PB p cs w) (j:Nat) (u:Value) (hu:cs[j]?=some u):w.cell? ⟨p,j,none⟩=some u:=by
 unfold PB at h
 simp [World.cell?,h,hu]
theorem PB.free {p:Nat} {cs:List Value} {w:World} (h:PB p cs w) (j:Nat):w.frozen? ⟨p,j,none⟩=false:=by
 unfold PB at h
 simp [World.frozen?,h]
theorem PB.set {p:Nat} {cs:List Value} {w:World} (h:PB p cs w) (j:Nat) (u:Value):PB p (cs.set j u) (w.setCell ⟨p,j,none⟩ u):=by
 unfold PB at h ⊢
 simp [World.setCell,Array.getElem?_modify,h]
theorem PB.grown {p:Nat} {cs:List Value} {w w':World} (h:PB p cs w) (hg:w.grownBy w' none):PB p cs w':=(hg.block p (by unfold PB at h;exact (Array.getElem?_eq_some_iff.1 h).1) (by simp)).trans h
theorem PB.lt {p:Nat} {cs:List Value} {w:World} (h:PB p cs w):p<w.heap.size:=by unfold PB at h;exact (Array.getElem?_eq_some_iff.1 h).1
structure CL (w:World) (p:Nat) (cs:List Value) (v:Value) (n:Nat) (rows:List (List Value)) (l:List Inl) (wr:World):Prop where
 own:wr.ownsRow w.heap.size 47 10 v n rows.flatten
 red:RdL (fun b=>w.heap.size<=b/\v.ownBlock≠some b/\b≠p) wr (l.map Inl.d) rows
 pb:PB p cs wr
 bel:Below w.heap.size w wr
theorem CL.grown {w:World} {p:Nat} {cs:List Value} {v:Value} {n:Nat} {rows:List (List Value)} {l:List Inl} {wr w':World} (h:CL w p cs v n rows l wr) (hg:wr.grownBy w' none):CL w p cs v n rows l w':=
 ⟨h.own.kept hg (by cases v.ownBlock<;>simp),RdL.keep (fun b hb hlt=>⟨hb,hg.block b hlt (by simp)⟩) _ _ h.red,h.pb.grown hg,h.bel.grown hg h.bel.size (by simp)⟩
theorem CL.set {w:World} {p:Nat} {cs:List Value} {v:Value} {n:Nat} {rows:List (List Value)} {l:List Inl} {wr:World} (h:CL w p cs v n rows l wr) (hp:w.heap.size<=p) (hv:v.ownBlock≠some p) (j:Nat) (u:Value):CL w p (cs.set j u) v n rows l (wr.setCell ⟨p,j,none⟩ u):=
 ⟨q1g h.own ⟨p,j,none⟩ u hv,RdL.keep (fun b hb hlt=>⟨hb,Below.heap_setCell wr ⟨p,j,none⟩ u b hb.2.2⟩) _ _ h.red,h.pb.set j u,h.bel.setCell (p:=⟨p,j,none⟩) hp u⟩
def Above (p:Nat) (w w':World):Prop:=∀ b,p<b->b<w.heap.size->w'.heap[b]?=w.heap[b]?
theorem Above.grown {p:Nat} {w w':World} (hg:w.grownBy w' none):Above p w w':=fun b _ hlt=>hg.block b hlt (by simp)
theorem Above.set {p:Nat} {w:World} (j:Nat) (u:Value):Above p w (w.setCell ⟨p,j,none⟩ u):=fun b hb _=>Below.heap_setCell w ⟨p,j,none⟩ u b (by show b≠p;omega)
theorem Rd.above {p:Nat} {w w':World} {d:D} {cs:List Value} (h:Rd (p<·) w d cs) (ha:Above p w w'):Rd (p<·) w' d cs:=
 Rd.keep (fun b hb hlt=>⟨hb,ha b hb hlt⟩) d cs h
theorem Rd.weaken {ok ok':Nat->Prop} {w:World} {d:D} {cs:List Value} (h:Rd ok w d cs) (hk:∀ b,ok b->ok' b):Rd ok' w d cs:=
 Rd.keep (fun b hb _=>⟨hk b hb,rfl⟩) d cs h
theorem AtR.above {p:Nat} {w w':World} {a:At} {vc vp:Value} (h:AtR (p<·) w a vc vp) (ha:Above p w w'):AtR (p<·) w' a vc vp:=⟨h.cls.above ha,h.prs.above ha⟩
theorem AtR.weaken {ok ok':Nat->Prop} {w:World} {a:At} {vc vp:Value} (h:AtR ok w a vc vp) (hk:∀ b,ok b->ok' b):AtR ok' w a vc vp:=⟨h.cls.weaken hk,h.prs.weaken hk⟩
theorem AtR.below {B:Nat} {w w':World} {a:At} {vc vp:Value} (h:AtR (·<B) w a vc vp) (hb:Below B w w'):AtR (·<B) w' a vc vp:=⟨h.cls.below hb,h.prs.below hb⟩
theorem InCells.below {w w':World} {b o:Nat} {k:Int} {t d ti id:ByteArray} {vc vp va vi vk:Value} (h:InCells w b o k t d ti id vc vp va vi vk) (hb:Below w.heap.size w w'):InCells w' b o k t d ti id vc vp va vi vk:=by
 have hl:=q0c h.c0
 have f:∀ q,w'.cell? ⟨b,q,none⟩=w.cell? ⟨b,q,none⟩:=fun q=>hb.cell (p:=⟨b,q,none⟩) hl
 obtain ⟨c0,c1,c2,c3,c4,c5,c6,c7,c8,c9⟩:=h
 exact ⟨by rw [f];exact c0,by rw [f];exact c1,by rw [f];exact c2,by rw [f];exact c3,by rw [f];exact c4,by rw [f];exact c5,by rw [f];exact c6,by rw [f];exact c7,by rw [f];exact c8,by rw [f];exact c9⟩
def LcRel (w wr:World) (l:List Inl) (v vi:Value):Prop:=
 ∃ (k:Nat) (rows:List (List Value)),k<=l.length/\vi=.int .i64 k/\wr.ownsRow w.heap.size 47 10 v k rows.flatten/\RdL (fun b=>w.heap.size<=b/\v.ownBlock≠some b) wr ((l.take k).map Inl.d) rows/\(∀ r∈rows,r.length=10)/\Below w.heap.size w wr
def LcPost (w:World) (l:List Inl) (e:Ending) (w':World):Prop:=∃ v,e=.returned v/\Rd (w.heap.size<=·) w' (q0w l) [v]/\Below w.heap.size w w'
theorem infoBl:(Tryz.prog.info? 53).map (fun i=>(i.zero,i.size,i.bytes))=some (some (.agg #[.int .i64 0,.int .i64 0,.string ByteArray.empty,.string ByteArray.empty,.string ByteArray.empty,.string ByteArray.empty,.string ByteArray.empty,.slice none 0 0,.slice none 0 0,.slice none 0 0,.slice none 0 0]),11,192):=by kernel_rfl
mutual
def Blk.bd:Blk->Prop
 | .mk _ _ _ _ _ _ a li ks=>a.cls.length<=1000000/\a.prs.length<=1000000/\Inl.bdL li/\Inl.szL li<=1000000/\Blk.bdL ks
def Blk.bdL:List Blk->Prop
 | []=>True
 | x::l=>x.bd/\Blk.bdL l
end
theorem Blk.bdL_get:∀ (l:List Blk) (k:Nat) (x:Blk),Blk.bdL l->l[k]?=some x->x.bd
 | [],_,_,_,h=>by simp at h
 | y::l,0,x,hb,h=>by simp at h;subst h;rw [Blk.bdL] at hb;exact hb.1
 | y::l,k+1,x,hb,h=>by rw [Blk.bdL] at hb;exact Blk.bdL_get l k x hb.2 (by simpa using h)
theorem Blk.sz_pos (x:Blk):1<=x.sz:=by cases x;rw [Blk.sz];omega
theorem Blk.len_le:∀ (l:List Blk),l.length<=Blk.szL l
 | []=>by simp
 | x::l=>by have:=Blk.len_le l;have:=x.sz_pos;rw [Blk.szL];simp;omega
section
variable {p:Nat} {cs:List Value} {w w':World}
end
theorem Rd.sl_form {ok:Nat->Prop} {w:World} {k:Nat} {l:List D} {v:Value} (h:Rd ok w (.sl k l) [v]):∃ a n c,v=.slice a n c:=by
 obtain ⟨a',c',h',_⟩:=Rd.sl_open h
 exact ⟨_,_,_,by simpa using h'⟩
open Go.RowKit
theorem dec_len (n:Nat):(Lib.decDigits n).length<=n+1:=by
 induction n using Nat.strongRecOn with
 | _ n ih=>
  rw [Lib.decDigits]
  split
  ·simp
  ·have:=ih (n/10) (by omega)
   simp;omega
open Go.RowKit
open Go.RowKit
open Go.RowKit
open Go.RowKit
theorem cCopyLine_any (n:Nat):∀ (l:List Inl) (B:Nat) (v:Value) (w:World),Inl.szL l<=n->n<=1000000->Rd (·<B) w (q0w l) [v]->B<=w.heap.size->Inl.bdL l ->
  Calls Tryz.prog 50 #[v] w (LcPost w l):=by
 induction n using Nat.strongRecOn with
 | _ n ih=>
  intro l B v w hn hnm hrd hB hbd
  obtain ⟨iS,hiS,hzS0,hzS1,hzS2⟩:=info_parts infoS
  obtain ⟨iC,hiC,hzC0,hzC1,hzC2⟩:=info_parts infoCi
  obtain ⟨iP,hiP,hzP0,hzP1,hzP2⟩:=info_parts infoPr
  obtain ⟨iI,hiI,hzI0,hzI1,hzI2⟩:=info_parts infoIn
  obtain ⟨a,cap,hv,hs⟩:=Rd.sl_open hrd
  obtain rfl:v=.slice a l.length cap:=by simpa using hv
  have hcap:l.length<=cap:=by simpa using hs.le
  have hll:=Inl.len_le l
  have hmx:=hs.max
  have HS:=hid hs
  have IH:=hid ih
  have HBD:=hid hbd
  have HR0:Hid (RdL (fun b=>w.heap.size<=b/\(Value.slice none 0 0).ownBlock≠some b) w ((l.take 0).map Inl.d) []):=RdL.none
  clear hs hv hrd ih hbd
  unfold maxLen at hmx
  go_enter Tryz.func50,Tryz.ntmps50
  go_wp2
  go_loopw [3,8] (fun v vi wr=>LcRel w wr l v vi) (fun _ i _=>l.length-(intOf i).toNat)
  case atStart=>exact ⟨0,[],Nat.zero_le _,rfl,q20 _ _ _ _,HR0.out,by simp,Below.refl _ _⟩
  case round=>
   obtain ⟨k,rows,hk,rfl,hown,hred,hrl,hbel⟩:=hrel
   by_cases hlt:k<l.length
   ·obtain ⟨x,hx⟩:∃ x,l[k]?=some x:=⟨_,List.getElem?_eq_getElem hlt⟩
    obtain ⟨kd,t,d,ti,at_,ar,ci,ks⟩:=x
    obtain ⟨g,off,vc,vp,va,vi,vk,rfl,hok,hbl,hc,hR⟩:=q1b HS.out hx
    obtain ⟨c0,c1,c2,c3,c4,c5,c6,c7,c8,c9⟩:=hc.below hbel
    clear hc
    have hb1:=Inl.bdL_get l k _ HBD.out hx
    rw [Inl.bd] at hb1
    obtain ⟨hn1,hn2,hn3,hn4,hn5⟩:=hb1
    have hsz:=Inl.szL_get l k _ hx
    rw [Inl.sz] at hsz
    obtain ⟨av,cv,rfl⟩:=q09 hown
    obtain ⟨Ac,cc,rowsc,rfl,hc1,hc2,hc3,hc4,hc5⟩:=Rd.reads hR.at_.cls
    obtain ⟨Ap,cp,rowsp,rfl,hq1,hq2,hq3,hq4,hq5⟩:=Rd.reads hR.at_.prs
    obtain ⟨Aa,ca,rowsa,rfl,ha1,ha2,ha3,ha4,ha5⟩:=Rd.reads hR.args
    obtain ⟨Ai,cci,rowsi,rfl,hi1,hi2,hi3,hi4,hi5⟩:=Rd.reads hR.cites
    obtain ⟨ak,nk,ck,rfl⟩:∃ ac nc cc,vk=.slice ac nc cc:=by obtain ⟨a',c',h',_⟩:=Rd.sl_open hR.kids;exact ⟨_,_,_,by simpa using h'⟩
    have HR:=hid hR
    have HC3:=hid hc3
    have HC4:=hid hc4
    have HC5:=hid hc5
    have HP3:=hid hq3
    have HP4:=hid hq4
    have HP5:=hid hq5
    have HA3:=hid ha3
    have HA4:=hid ha4
    have HA5:=hid ha5
    have HI3:=hid hi3
    have HI4:=hid hi4
    have HI5:=hid hi5
    have HRL:=hid hrl
    have HX:=hid hx
    have HOWN:=hid hown
    have HRED:=hid hred
    have hsz1:=hbel.size
    clear hR hc3 hc4 hc5 hq3 hq4 hq5 ha3 ha4 ha5 hi3 hi4 hi5 hrl hx hown hred
    go_upto_region 5 with (fail)
    obtain ⟨p,hp⟩:∃ p,p=wr.heap.size:=⟨_,rfl⟩
    obtain ⟨wA,hwA⟩:∃ wA,wA=wr.alloc (.cells #[.int .i64 kd,.string t,.string d,.string ti,.string at_.id,.slice Ac (at_.cls.map D.str).length cc,.slice Ap (at_.prs.map Pr.d).length cp,.slice Aa (ar.map D.str).length ca,.slice Ai (ci.map Ci.d).length cci,.slice ak nk ck] 47):=⟨_,rfl⟩
    have hpv:(Value.slice av k cv).ownBlock≠some p:=by rw [hp];exact own_ne HOWN.out (Nat.le_refl _)
    have hpw:w.heap.size<=p:=by rw [hp];exact hsz1
    have hvp:∀ g,(Value.slice av k cv).ownBlock=some g->g<p:=fun g hg=>by rw [hp];exact (HOWN.out.lt g hg).2
    have HVP:=hid hvp
    clear hvp
    have CA:CL w p [.int .i64 kd,.string t,.string d,.string ti,.string at_.id,.slice Ac (at_.cls.map D.str).length cc,.slice Ap (at_.prs.map Pr.d).length cp,.slice Aa (ar.map D.str).length ca,.slice Ai (ci.map Ci.d).length cci,.slice ak nk ck] (.slice av k cv) k rows (l.take k) wA:=by
     rw [hwA,hp]
     refine ⟨HOWN.out.alloc _,RdL.keep (fun b hb hlt'=>⟨⟨hb.1,hb.2,by omega⟩,Below.heap_alloc _ _ b hlt'⟩) _ _ HRED.out,?_,hbel.alloc hbel.size _⟩
     exact heap_alloc_new wr _
    have hpA:wA.heap.size=p+1:=by rw [hwA,hp];simp
    have HPA:=hid hpA
    rw [List.length_map,List.length_map,List.length_map,List.length_map] at CA hwA
    rw [List.length_map] at hc1 hq1
    rw [<- hwA,<- hp]
    clear hwA hp HOWN HRED c0 c1 c2 c3 c4 c5 c6 c7 c8 c9 hbel hsz1 hbl hpA
    have HCA:=hid CA
    have d5:=CA.pb.cell 5 _ rfl
    have hlA:=CA.pb.lt
    have rc:=HC5.out.below (CA.bel.mono hB)
    rw [List.length_map] at rc
    have one0:∀ u∈rowsc.flatten,u.oneCell'=true:=by
     intro u hu
     rw [RdL.strs_rows _ _ HC3.out,strs_flat] at hu
     obtain ⟨s,_,rfl⟩:=List.mem_map.1 hu
     rfl
    have RC:=hid rc
    have ONE0:=hid one0
    clear CA rc one0
    go_wp2_with (at_builtin;refine q08 _ rfl (.const (.slice none 0 0)) (.tmp 14) 40 rfl (p+1) 9 iS _ 1 16 Tryz.underlying40 hiS hzS0 hzS1 hzS2 rfl (by decide) (.slice none 0 0) 0 [] rfl (q20 _ _ _ _) B Ac at_.cls.length cc rowsc.flatten rfl RC.out ONE0.out ?x1 ?x2 ?x3 ?_)
    case x1=>unfold maxLen;omega
    case x2=>omega
    case x3=>omega
    intro vc1 w0b hoC hgC _
    (try simp only [Nat.zero_add,List.nil_append] at hoC)
    obtain ⟨ac1,cc1,rfl⟩:=q09 hoC
    have C0b:=HCA.out.grown (show World.grownBy _ w0b none from hgC)
    have HC0b:=hid C0b
    have HOC:=hid hoC
    have d5:=C0b.pb.cell 5 _ rfl
    have f5:=C0b.pb.free 5
    clear hoC hgC C0b HCA RC ONE0 hlA
    go_upto_region 6 with (fail)
    obtain ⟨w1,hw1⟩:∃ w1,w1=w0b.setCell ⟨p,5,none⟩ (.slice ac1 at_.cls.length cc1):=⟨_,rfl⟩
    have C1:CL w p [.int .i64 kd,.string t,.string d,.string ti,.string at_.id,.slice ac1 at_.cls.length cc1,.slice Ap at_.prs.length cp,.slice Aa ar.length ca,.slice Ai ci.length cci,.slice ak nk ck] (.slice av k cv) k rows (l.take k) w1:=by
     rw [hw1];exact HC0b.out.set hpw hpv 5 _
    have RC1:Hid (Rd (p<·) w1 (strsD at_.cls) [.slice ac1 at_.cls.length cc1]):=by
     show Rd _ _ _ _
     rw [hw1]
     have hne:(Value.slice ac1 at_.cls.length cc1).ownBlock≠some p:=fun e=>by have:=(HOC.out.lt p e).1;omega
     have ho:=q1g HOC.out ⟨p,5,none⟩ (.slice ac1 at_.cls.length cc1) hne
     refine Rd.sl_own (rows:=rowsc) (B:=p+1) (e:=9) ?_ HC3.out.strs_any HC4.out (fun g hg=>(ho.lt g hg).1)
     rw [List.length_map];exact ho
    rw [<- hw1]
    clear hw1 d5 f5 HC0b HOC HC5
    have HC1:=hid C1
    have d6:=C1.pb.cell 6 _ rfl
    have hl1:=C1.pb.lt
    have rp:=HP5.out.below (C1.bel.mono hB)
    rw [List.length_map] at rp
    have one4:∀ u∈rowsp.flatten,u.oneCell'=true:=by
     intro u hu
     obtain ⟨r,hr,hu⟩:=List.mem_flatten.1 hu
     obtain ⟨j,hj,rfl⟩:=List.mem_iff_getElem.1 hr
     have hj2:j<(at_.prs.map Pr.d).length:=by rw [<- HP3.out.len];exact hj
     obtain ⟨r',hr',hd⟩:=HP3.out.get j _ (List.getElem?_eq_getElem hj2)
     rw [List.getElem?_eq_getElem hj] at hr'
     obtain rfl:=Option.some.inj hr'
     rw [List.getElem_map] at hd
     rw [Pr.open_ hd] at hu
     simp at hu
     rcases hu with rfl | rfl<;>rfl
    have RP:=hid rp
    have ONE4:=hid one4
    clear C1 rp one4
    go_wp2_with (at_builtin;refine q08 _ rfl (.const (.slice none 0 0)) (.tmp 20) 22 rfl (p+1) 58 iP _ 2 32 Tryz.underlying22 hiP hzP0 hzP1 hzP2 rfl (by decide) (.slice none 0 0) 0 [] rfl (q20 _ _ _ _) B Ap at_.prs.length cp rowsp.flatten rfl RP.out ONE4.out ?y1 ?y2 ?y3 ?_)
    case y1=>unfold maxLen;omega
    case y2=>omega
    case y3=>omega
    intro vp1 w1b hoP hgP _
    (try simp only [Nat.zero_add,List.nil_append] at hoP)
    obtain ⟨ap1,cp1,rfl⟩:=q09 hoP
    have C1b:=HC1.out.grown (show World.grownBy _ w1b none from hgP)
    have HC1b:=hid C1b
    have RC1b:=hid (RC1.out.above (Above.grown (show World.grownBy _ w1b none from hgP)))
    have HOP:=hid hoP
    have d6:=C1b.pb.cell 6 _ rfl
    have f6:=C1b.pb.free 6
    clear hoP hgP C1b HC1 RC1 RP ONE4 hl1
    go_upto_region 7 with (fail)
    obtain ⟨w2,hw2⟩:∃ w2,w2=w1b.setCell ⟨p,6,none⟩ (.slice ap1 at_.prs.length cp1):=⟨_,rfl⟩
    have C2:CL w p [.int .i64 kd,.string t,.string d,.string ti,.string at_.id,.slice ac1 at_.cls.length cc1,.slice ap1 at_.prs.length cp1,.slice Aa ar.length ca,.slice Ai ci.length cci,.slice ak nk ck] (.slice av k cv) k rows (l.take k) w2:=by
     rw [hw2];exact HC1b.out.set hpw hpv 6 _
    have AT2:Hid (AtR (p<·) w2 at_ (.slice ac1 at_.cls.length cc1) (.slice ap1 at_.prs.length cp1)):=by
     show AtR _ _ _ _ _
     rw [hw2]
     have hne:(Value.slice ap1 at_.prs.length cp1).ownBlock≠some p:=fun e=>by have:=(HOP.out.lt p e).1;omega
     have ho:=q1g HOP.out ⟨p,6,none⟩ (.slice ap1 at_.prs.length cp1) hne
     refine ⟨RC1b.out.above (Above.set 6 _),Rd.sl_own (rows:=rowsp) (B:=p+1) (e:=58) ?_ HP3.out.prs_any HP4.out (fun g hg=>(ho.lt g hg).1)⟩
     rw [List.length_map];exact ho
    rw [<- hw2]
    clear hw2 d6 f6 HC1b RC1b HOP HP5
    have HC2:=hid C2
    have d7:=C2.pb.cell 7 _ rfl
    have hl2:=C2.pb.lt
    have ra:=HA5.out.below (C2.bel.mono hB)
    rw [List.length_map] at ra
    have one1:∀ u∈rowsa.flatten,u.oneCell'=true:=by
     intro u hu
     rw [RdL.strs_rows _ _ HA3.out,strs_flat] at hu
     obtain ⟨s,_,rfl⟩:=List.mem_map.1 hu
     rfl
    have RA:=hid ra
    have ONE1:=hid one1
    clear C2 ra one1
    go_wp2_with (at_builtin;refine q08 _ rfl (.const (.slice none 0 0)) (.tmp 25) 40 rfl (p+1) 9 iS _ 1 16 Tryz.underlying40 hiS hzS0 hzS1 hzS2 rfl (by decide) (.slice none 0 0) 0 [] rfl (q20 _ _ _ _) B Aa ar.length ca rowsa.flatten rfl RA.out ONE1.out ?a1 ?a2 ?a3 ?_)
    case a1=>unfold maxLen;omega
    case a2=>omega
    case a3=>omega
    intro va1 w2b hoA hgA _
    (try simp only [Nat.zero_add,List.nil_append] at hoA)
    obtain ⟨aa1,ca1,rfl⟩:=q09 hoA
    have C2b:=HC2.out.grown (show World.grownBy _ w2b none from hgA)
    have HC2b:=hid C2b
    have AT2b:=hid (AT2.out.above (Above.grown (show World.grownBy _ w2b none from hgA)))
    have HOA:=hid hoA
    have d7:=C2b.pb.cell 7 _ rfl
    have f7:=C2b.pb.free 7
    clear hoA hgA C2b HC2 AT2 RA ONE1 hl2
    go_upto_region 8 with (fail)
    obtain ⟨w3,hw3⟩:∃ w3,w3=w2b.setCell ⟨p,7,none⟩ (.slice aa1 ar.length ca1):=⟨_,rfl⟩
    have C3:CL w p [.int .i64 kd,.string t,.string d,.string ti,.string at_.id,.slice ac1 at_.cls.length cc1,.slice ap1 at_.prs.length cp1,.slice aa1 ar.length ca1,.slice Ai ci.length cci,.slice ak nk ck] (.slice av k cv) k rows (l.take k) w3:=by
     rw [hw3];exact HC2b.out.set hpw hpv 7 _
    have AT3:Hid (AtR (p<·) w3 at_ (.slice ac1 at_.cls.length cc1) (.slice ap1 at_.prs.length cp1)):=by
     show AtR _ _ _ _ _
     rw [hw3];exact AT2b.out.above (Above.set 7 _)
    have RA3:Hid (Rd (p<·) w3 (strsD ar) [.slice aa1 ar.length ca1]):=by
     show Rd _ _ _ _
     rw [hw3]
     have hne:(Value.slice aa1 ar.length ca1).ownBlock≠some p:=fun e=>by have:=(HOA.out.lt p e).1;omega
     have ho:=q1g HOA.out ⟨p,7,none⟩ (.slice aa1 ar.length ca1) hne
     refine Rd.sl_own (rows:=rowsa) (B:=p+1) (e:=9) ?_ HA3.out.strs_any HA4.out (fun g hg=>(ho.lt g hg).1)
     rw [List.length_map];exact ho
    rw [<- hw3]
    clear hw3 d7 f7 HC2b AT2b HOA HA5
    have HC3:=hid C3
    have d8:=C3.pb.cell 8 _ rfl
    have hl3:=C3.pb.lt
    have ri:=HI5.out.below (C3.bel.mono hB)
    rw [List.length_map] at ri
    have one2:∀ u∈rowsi.flatten,u.oneCell'=true:=by
     intro u hu
     obtain ⟨r,hr,hu⟩:=List.mem_flatten.1 hu
     obtain ⟨j,hj,rfl⟩:=List.mem_iff_getElem.1 hr
     have hj2:j<(ci.map Ci.d).length:=by rw [<- HI3.out.len];exact hj
     obtain ⟨r',hr',hd⟩:=HI3.out.get j _ (List.getElem?_eq_getElem hj2)
     rw [List.getElem?_eq_getElem hj] at hr'
     obtain rfl:=Option.some.inj hr'
     rw [List.getElem_map] at hd
     rw [Ci.open_ hd] at hu
     simp at hu
     rcases hu with rfl | rfl | rfl | rfl<;>rfl
    have RI:=hid ri
    have ONE2:=hid one2
    clear C3 ri one2
    go_wp2_with (at_builtin;refine q08 _ rfl (.const (.slice none 0 0)) (.tmp 29) 45 rfl (p+1) 96 iC _ 4 56 Tryz.underlying45 hiC hzC0 hzC1 hzC2 rfl (by decide) (.slice none 0 0) 0 [] rfl (q20 _ _ _ _) B Ai ci.length cci rowsi.flatten rfl RI.out ONE2.out ?b1 ?b2 ?b3 ?_)
    case b1=>unfold maxLen;omega
    case b2=>omega
    case b3=>omega
    intro vi1 w3b hoI hgI _
    (try simp only [Nat.zero_add,List.nil_append] at hoI)
    obtain ⟨ai1,ci1,rfl⟩:=q09 hoI
    have C3b:=HC3.out.grown (show World.grownBy _ w3b none from hgI)
    have HC3b:=hid C3b
    have AT3b:=hid (AT3.out.above (Above.grown (show World.grownBy _ w3b none from hgI)))
    have RA3b:=hid (RA3.out.above (Above.grown (show World.grownBy _ w3b none from hgI)))
    have HOI:=hid hoI
    have d8:=C3b.pb.cell 8 _ rfl
    have f8:=C3b.pb.free 8
    clear hoI hgI C3b HC3 AT3 RA3 RI ONE2 hl3
    go_upto_region 9 with (fail)
    obtain ⟨w4,hw4⟩:∃ w4,w4=w3b.setCell ⟨p,8,none⟩ (.slice ai1 ci.length ci1):=⟨_,rfl⟩
    have C4:CL w p [.int .i64 kd,.string t,.string d,.string ti,.string at_.id,.slice ac1 at_.cls.length cc1,.slice ap1 at_.prs.length cp1,.slice aa1 ar.length ca1,.slice ai1 ci.length ci1,.slice ak nk ck] (.slice av k cv) k rows (l.take k) w4:=by
     rw [hw4];exact HC3b.out.set hpw hpv 8 _
    have AT4:Hid (AtR (p<·) w4 at_ (.slice ac1 at_.cls.length cc1) (.slice ap1 at_.prs.length cp1)):=by
     show AtR _ _ _ _ _
     rw [hw4];exact AT3b.out.above (Above.set 8 _)
    have RA4:Hid (Rd (p<·) w4 (strsD ar) [.slice aa1 ar.length ca1]):=by
     show Rd _ _ _ _
     rw [hw4];exact RA3b.out.above (Above.set 8 _)
    have RI4:Hid (Rd (p<·) w4 (cisD ci) [.slice ai1 ci.length ci1]):=by
     show Rd _ _ _ _
     rw [hw4]
     have hne:(Value.slice ai1 ci.length ci1).ownBlock≠some p:=fun e=>by have:=(HOI.out.lt p e).1;omega
     have ho:=q1g HOI.out ⟨p,8,none⟩ (.slice ai1 ci.length ci1) hne
     refine Rd.sl_own (rows:=rowsi) (B:=p+1) (e:=96) ?_ HI3.out.cis_any HI4.out (fun g hg=>(ho.lt g hg).1)
     rw [List.length_map];exact ho
    rw [<- hw4]
    clear hw4 d8 f8 HC3b AT3b RA3b HOI HI5
    have HC4:=hid C4
    have d9:=C4.pb.cell 9 _ rfl
    have hl4:=C4.pb.lt
    have IK:=hid (IH.out (Inl.szL ks) (by omega) ks B (.slice ak nk ck) w4 (Nat.le_refl _) (by omega) (HR.out.kids.below (C4.bel.mono hB)) (Nat.le_trans hB C4.bel.size) hn5)
    clear C4
    go_wp2_with fail
    refine IK.out.mono ?_
    rintro e w5 ⟨vk1,rfl,hk1,b5⟩
    obtain ⟨ak1,nk1,ck1,rfl⟩:∃ ac nc cc,vk1=.slice ac nc cc:=by obtain ⟨a',c',h',_⟩:=Rd.sl_open hk1;exact ⟨_,_,_,by simpa using h'⟩
    have C5:=HC4.out.grown (q02 b5)
    have HC5:=hid C5
    have AT5:=hid (AT4.out.above (Above.grown (q02 b5)))
    have RA5:=hid (RA4.out.above (Above.grown (q02 b5)))
    have RI5:=hid (RI4.out.above (Above.grown (q02 b5)))
    have RK5:=hid (hk1.weaken (ok':=(p<·)) (fun b hb=>by omega))
    have d9:=C5.pb.cell 9 _ rfl
    have f9:=C5.pb.free 9
    clear C5 HC4 AT4 RA4 RI4 IK hk1 b5 hl4
    go_upto_region 10 with (fail)
    obtain ⟨w6,hw6⟩:∃ w6,w6=w5.setCell ⟨p,9,none⟩ (.slice ak1 nk1 ck1):=⟨_,rfl⟩
    have C6:CL w p [.int .i64 kd,.string t,.string d,.string ti,.string at_.id,.slice ac1 at_.cls.length cc1,.slice ap1 at_.prs.length cp1,.slice aa1 ar.length ca1,.slice ai1 ci.length ci1,.slice ak1 nk1 ck1] (.slice av k cv) k rows (l.take k) w6:=by
     rw [hw6];exact HC5.out.set hpw hpv 9 _
    have IN6:Hid (InR (p<·) w6 at_ ar ci ks (.slice ac1 at_.cls.length cc1) (.slice ap1 at_.prs.length cp1) (.slice aa1 ar.length ca1) (.slice ai1 ci.length ci1) (.slice ak1 nk1 ck1)):=by
     show InR _ _ _ _ _ _ _ _ _ _ _
     rw [hw6]
     exact ⟨AT5.out.above (Above.set 9 _),RA5.out.above (Above.set 9 _),RI5.out.above (Above.set 9 _),RK5.out.above (Above.set 9 _)⟩
    rw [<- hw6]
    clear hw6 d9 f9 HC5 AT5 RA5 RI5 RK5
    have HC6:=hid C6
    have e0:=C6.pb.cell 0 _ rfl
    have e1:=C6.pb.cell 1 _ rfl
    have e2:=C6.pb.cell 2 _ rfl
    have e3:=C6.pb.cell 3 _ rfl
    have e4:=C6.pb.cell 4 _ rfl
    have e5:=C6.pb.cell 5 _ rfl
    have e6:=C6.pb.cell 6 _ rfl
    have e7:=C6.pb.cell 7 _ rfl
    have e8:=C6.pb.cell 8 _ rfl
    have e9:=C6.pb.cell 9 _ rfl
    have hb6:=C6.bel.size
    clear C6
    go_wp2_with (at_builtin;refine q08 _ rfl (.tmp 36) (.tmp 38) 38 rfl w.heap.size 47 iI _ 10 192 Tryz.underlying38 hiI hzI0 hzI1 hzI2 rfl (by decide) (.slice av k cv) k rows.flatten rfl (HC6.out.own.alloc _) (w6.heap.size+1) (some ⟨w6.heap.size,0,none⟩) 1 1 [.int .i64 kd,.string t,.string d,.string ti,.string at_.id,.slice ac1 at_.cls.length cc1,.slice ap1 at_.prs.length cp1,.slice aa1 ar.length ca1,.slice ai1 ci.length ci1,.slice ak1 nk1 ck1] rfl ?g1 ?g2 ?g3 ?g4 ?g5 ?_)
    case g1=>exact ⟨rfl,fun _=>⟨_,rfl,by simp,q0o w6 [.int .i64 kd,.string t,.string d,.string ti,.string at_.id,.slice ac1 at_.cls.length cc1,.slice ap1 at_.prs.length cp1,.slice aa1 ar.length ca1,.slice ai1 ci.length ci1,.slice ak1 nk1 ck1] _⟩⟩
    case g2=>intro u hu;simp at hu;rcases hu with rfl | rfl | rfl | rfl | rfl | rfl | rfl | rfl | rfl | rfl<;>rfl
    case g3=>unfold maxLen;omega
    case g4=>omega
    case g5=>simp;omega
    intro v' w7 hown' hgrow hat
    have b7:Below w.heap.size w w7:=below_app HC6.out.bel hb6 HC6.out.own hgrow
    have RED:Hid (RdL (fun b=>w.heap.size<=b/\v'.ownBlock≠some b) w7 ((l.take (k+1)).map Inl.d) (rows++[[.int .i64 kd,.string t,.string d,.string ti,.string at_.id,.slice ac1 at_.cls.length cc1,.slice ap1 at_.prs.length cp1,.slice aa1 ar.length ca1,.slice ai1 ci.length ci1,.slice ak1 nk1 ck1]])):=by
     have hv':∀ b,b<w6.heap.size->(Value.slice av k cv).ownBlock≠some b->v'.ownBlock≠some b:=by
      intro b hb hne
      rcases hat with e | e
      ·rw [e];exact hne
      ·rw [e];intro h;have:=Option.some.inj h;omega
     have hh:∀ b,b<w6.heap.size->(Value.slice av k cv).ownBlock≠some b->w7.heap[b]?=w6.heap[b]?:=fun b hb hne=>
      (hgrow.block b (by rw [World.size_alloc];omega) (fun e=>hne e.symm)).trans (Below.heap_alloc _ _ b hb)
     have e1:(l.take (k+1)).map Inl.d=(l.take k).map Inl.d++[(Inl.mk kd t d ti at_ ar ci ks).d]:=by
      rw [List.take_add_one,HX.out];simp
     show RdL _ _ _ _
     rw [e1]
     refine RdL.app (RdL.keep (fun b hb hlt'=>⟨⟨hb.1,hv' b hlt' hb.2.1⟩,hh b hlt' hb.2.1⟩) _ _ HC6.out.red) (RdL.one ?_)
     refine Rd.keep (fun b hb hlt'=>?_) _ _ (Inl.mk_ kd t d ti IN6.out)
     have hne:(Value.slice av k cv).ownBlock≠some b:=fun e=>by have:=HVP.out b e;omega
     exact ⟨⟨by omega,hv' b hlt' hne⟩,hh b hlt' hne⟩
    have HOW:=hid hown'
    clear hown' hgrow hat e0 e1 e2 e3 e4 e5 e6 e7 e8 e9
    go_wp2
    go_roundw
    case rel=>
     refine ⟨k+1,rows++[[.int .i64 kd,.string t,.string d,.string ti,.string at_.id,.slice ac1 at_.cls.length cc1,.slice ap1 at_.prs.length cp1,.slice aa1 ar.length ca1,.slice ai1 ci.length ci1,.slice ak1 nk1 ck1]],by omega,by go_num,?_,RED.out,?_,b7⟩
     ·rw [List.flatten_append];simpa using HOW.out
     ·intro r hr
      rcases List.mem_append.1 hr with hr | hr
      ·exact HRL.out r hr
      ·simp at hr;subst hr;rfl
    case measure=>simp [intOf];omega
   ·have hkl:k=l.length:=by omega
    subst hkl
    rw [List.take_length] at hred
    have HO:=hid hown
    have HRE:=hid hred
    have HRL:=hid hrl
    clear hown hred hrl
    go_wp2
    go_ret
    refine ⟨_,rfl,Rd.sl_own (rows:=rows) (B:=w.heap.size) (e:=47) ?_ (RdL.keep (fun b hb _=>⟨hb.1,rfl⟩) _ _ HRE.out) HRL.out (fun g hg=>(HO.out.lt g hg).1),hbel⟩
    rw [List.length_map];exact HO.out
open Go.RowKit
structure RowU (T:TypeId) (k:Nat) (ok:Nat->Prop) (U:Nat) (w0:World) (ds:List D) (rows:List (List Value)) (v:Value) (w:World):Prop where
 own:w.ownsRow w0.heap.size T k v ds.length rows.flatten
 red:RdL (fun b=>(ok b\/w0.heap.size<=b)/\v.ownBlock≠some b/\b<U) w ds rows
 len:∀ r∈rows,r.length=k
 bel:Below w0.heap.size w0 w
 oU:∀ g,v.ownBlock=some g->g<U
 le0:w0.heap.size<=U
 leU:U<=w.heap.size
section
variable {T:TypeId} {k U:Nat} {ok:Nat->Prop} {w0 w w':World} {ds es:List D} {rows rows2:List (List Value)} {v v':Value}
theorem RowU.nil (T:TypeId) (k:Nat) (ok:Nat->Prop) (w0:World):RowU T k ok w0.heap.size w0 [] [] (.slice none 0 0) w0:=
 ⟨⟨by simp,.inl ⟨rfl,rfl⟩⟩,RdL.none,by simp,Below.refl _ _,by simp [Value.ownBlock],Nat.le_refl _,Nat.le_refl _⟩
theorem RowU.up (h:RowU T k ok U w0 ds rows v w) {U':Nat} (h1:U<=U') (h2:U'<=w.heap.size):RowU T k ok U' w0 ds rows v w:=
 ⟨h.own,RdL.keep (fun b hb _=>⟨⟨hb.1,hb.2.1,by omega⟩,rfl⟩) _ _ h.red,h.len,h.bel,fun g hg=>Nat.lt_of_lt_of_le (h.oU g hg) h1,Nat.le_trans h.le0 h1,h2⟩
theorem RowU.top (h:RowU T k ok U w0 ds rows v w):RowU T k ok w.heap.size w0 ds rows v w:=h.up h.leU (Nat.le_refl _)
theorem RowU.grown (h:RowU T k ok U w0 ds rows v w) (hg:w.grownBy w' none):RowU T k ok U w0 ds rows v w':=
 ⟨h.own.kept hg (by cases v.ownBlock<;>simp),RdL.keep (fun b hb hlt=>⟨hb,hg.block b hlt (by simp)⟩) _ _ h.red,h.len,h.bel.grown hg h.bel.size (by simp),h.oU,h.le0,Nat.le_trans h.leU hg.size⟩
theorem RowU.below (h:RowU T k ok U w0 ds rows v w) (hb:Below w.heap.size w w'):RowU T k ok U w0 ds rows v w':=h.grown (q02 hb)
theorem RowU.drew (h:RowU T k ok U w0 ds rows v w):RowU T k ok U w0 ds rows v w.drew:=h.grown ⟨rfl,rfl,rfl,Nat.le_refl _,fun _ _ _=>rfl⟩
theorem RowU.alloc (h:RowU T k ok U w0 ds rows v w) (o:Obj):RowU T k ok U w0 ds rows v (w.alloc o):=h.grown (World.grownBy_alloc _ _ none)
theorem RowU.ne (h:RowU T k ok U w0 ds rows v w) {p:Nat} (hp:U<=p):v.ownBlock≠some p:=fun e=>by have:=h.oU p e;omega
theorem RowU.same (h:RowU T k ok U w0 ds rows v w) (hs:w.heap.size<=w'.heap.size) (hos:w'.os=w.os/\w'.tape=w.tape/\w'.output=w.output) (hb:∀ b,b<U->w'.heap[b]?=w.heap[b]?):RowU T k ok U w0 ds rows v w':=by
 have hl:=h.leU
 have hl0:=h.le0
 refine ⟨?_,RdL.keep (fun b hb' hlt=>⟨hb',hb b hb'.2.2⟩) _ _ h.red,h.len,⟨hos.1.trans h.bel.os,hos.2.1.trans h.bel.tape,hos.2.2.trans h.bel.output,Nat.le_trans h.bel.size hs,fun b hlt=>(hb b (by omega)).trans (h.bel.block b hlt)⟩,h.oU,h.le0,Nat.le_trans hl hs⟩
 obtain ⟨h1,h2⟩:=h.own
 refine ⟨h1,?_⟩
 rcases h2 with h2 | ⟨g,cap,cur,rfl,r2,r3,r4⟩
 ·exact .inl h2
 ·exact .inr ⟨g,cap,cur,rfl,r2,(hb g (h.oU g rfl)).trans r3,r4⟩
theorem RowU.set (h:RowU T k ok U w0 ds rows v w) {p:Nat} (hp:U<=p) (j:Nat) (u:Value):RowU T k ok U w0 ds rows v (w.setCell ⟨p,j,none⟩ u):=
 h.same (by simp [World.setCell]) ⟨rfl,rfl,rfl⟩ (fun b hb=>Below.heap_setCell w ⟨p,j,none⟩ u b (by show b≠p;omega))
theorem RowU.cap (h:RowU T k ok U w0 ds rows v w) {n:Nat} (hn:ds.length=n):∃ a c,v=.slice a n c/\n<=c/\c<=maxLen:=by
 subst hn
 rcases h.own.2 with ⟨h1,h2⟩ | ⟨g,cap,cur,h1,_,_,h2,h3,_⟩
 ·exact ⟨none,0,by rw [h1,h2],by omega,Nat.zero_le _⟩
 ·exact ⟨_,cap,h1,h2,h3⟩
theorem RowU.put {w1:World} (h:RowU T k ok U w0 ds rows v w) (hB:∀ b,ok b->b<w0.heap.size) (hes:RdL (fun b=>ok b\/U<=b) w1 es rows2) (hl2:∀ r∈rows2,r.length=k) (hw1:w.grownBy w1 none)
  (hown:w'.ownsRow w0.heap.size T k v' (ds.length+es.length) (rows.flatten++rows2.flatten)) (hg:w1.grownBy w' v.ownBlock) (hat:v'.ownBlock=v.ownBlock\/v'.ownBlock=some w1.heap.size) :
  RowU T k ok w'.heap.size w0 (ds++es) (rows++rows2) v' w':=by
 have hs:=hg.size
 have hs1:=hw1.size
 have h0:=h.le0
 have h1:=h.leU
 have hV:∀ g,v.ownBlock=some g->w0.heap.size<=g/\g<U:=fun g e=>⟨(h.own.lt g e).1,h.oU g e⟩
 have hv':∀ b,b<w1.heap.size->v.ownBlock≠some b->v'.ownBlock≠some b:=by
  intro b hb hne
  rcases hat with e | e
  ·rw [e];exact hne
  ·rw [e];intro h;have:=Option.some.inj h;omega
 have hh:∀ b,b<w.heap.size->v.ownBlock≠some b->w'.heap[b]?=w.heap[b]?:=fun b hb hne=>
  (hg.block b (by omega) (fun e=>hne e.symm)).trans (hw1.block b hb (by simp))
 refine ⟨by rw [List.length_append,List.flatten_append];exact hown,?_,?_,?_,fun g e=>(hown.lt g e).2,by omega,Nat.le_refl _⟩
 ·refine RdL.app (RdL.keep (fun b hb hlt=>⟨⟨hb.1,hv' b (by omega) hb.2.1,by omega⟩,hh b hlt hb.2.1⟩) _ _ h.red) (RdL.keep (fun b hb hlt=>?_) _ _ hes)
  have hne:v.ownBlock≠some b:=fun e=>by
   have:=hV b e
   rcases hb with hb | hb
   ·have:=hB b hb;omega
   ·omega
  exact ⟨⟨hb.imp id (fun h=>by omega),hv' b hlt hne,by omega⟩,hg.block b hlt (fun e=>hne e.symm)⟩
 ·intro r hr
  rcases List.mem_append.1 hr with hr | hr
  ·exact h.len r hr
  ·exact hl2 r hr
 ·refine (h.bel.grown hw1 h.bel.size (by simp)).grown hg (by have:=h.bel.size;omega) (fun g e=>(hV g e).1)
theorem RowU.rd (h:RowU T k ok U w0 ds rows v w):Rd (fun b=>ok b\/w0.heap.size<=b) w (.sl k ds) [v]:=
 Rd.sl_own h.own (RdL.keep (fun b hb _=>⟨hb.1,rfl⟩) _ _ h.red) h.len (fun g hg=>.inr (h.own.lt g hg).1)
theorem RowU.rd0 (h:RowU T k (fun _=>False) U w0 ds rows v w):Rd (w0.heap.size<=·) w (.sl k ds) [v]:=h.rd.weaken (fun b hb=>hb.elim False.elim id)
theorem Rd.readsG {ok:Nat->Prop} {l:List D} (h:Rd ok w (.sl k l) [v]):∃ A cap rows,v=.slice A l.length cap/\l.length<=cap/\cap<=maxLen/\RdL ok w l rows/\(∀ r∈rows,r.length=k)/\Reads w w.heap.size k A l.length rows.flatten:=by
 unfold Rd at h
 obtain ⟨a,cap,rows,h1,h2,h3,h4,h5,h6⟩:=h
 refine ⟨a,cap,rows,by simpa using h1,h2,h3,h4,h5,?_,fun hp=>?_⟩
 ·rw [flat_len k rows h5,h4.len]
 ·rcases h6 with h6 | ⟨b,off,h7,h8,hb,h9⟩
  ·omega
  ·refine ⟨⟨b,off,none⟩,h7,hb,fun j u hu=>?_⟩
   have e:((⟨b,off,none⟩:Addr).add j)=⟨b,off+j,none⟩:=by unfold Addr.add;split<;>simp_all
   rw [e];exact h9 j u hu
theorem Rd.up0 {ok:Nat->Prop} {d:D} {cs:List Value} (h:Rd ok w d cs) (hb:Below w.heap.size w w'):Rd ok w' d cs:=Rd.keep (fun b h1 h2=>⟨h1,hb.block b h2⟩) _ _ h
theorem Rd.inside {ok:Nat->Prop} {d:D} {cs:List Value} (h:Rd ok w d cs):Rd (fun b=>ok b/\b<w.heap.size) w d cs:=Rd.keep (fun b h1 h2=>⟨⟨h1,h2⟩,rfl⟩) _ _ h
theorem SlAt.up0 {ok:Nat->Prop} {l:List D} {a:Option Addr} {cap:Nat} (h:SlAt ok w k l a cap) (hb:Below w.heap.size w w'):SlAt ok w' k l a cap:=
 ⟨h.le,h.max,fun hl=>by
  obtain ⟨b,off,h1,h2,h3,h4⟩:=h.at_ hl
  refine ⟨b,off,h1,h2,Nat.lt_of_lt_of_le h3 hb.size,fun i d hd=>?_⟩
  obtain ⟨r,g1,g2,g3⟩:=h4 i d hd
  exact ⟨r,g1.up0 hb,g2,fun j u hu=>(hb.cell (p:=⟨b,_,none⟩) h3).trans (g3 j u hu)⟩⟩
theorem q0p {n:Nat} {ops:Array Oper} {rest:List Oper} {o:Oper} {a:Act} {Q:Exit->Act->World->Prop} (hgd:o.guard=none) (s x:Operand) (t:TypeId)
  (ho:o.op=.call { callee:=.builtin .append,args:=#[s,x],argTypes:=#[t,t] })
  (i:TypeInfo) (z:Value) (bytes:Nat) (ht:Tryz.prog.underlying t=some (.slice T)) (hi:Tryz.prog.info? T=some i) (hz:i.zero=some z)
  (hsize:i.size=k) (hby:i.bytes=bytes) (hzs:z.cells.size=k) (hsz:0<k)
  (h:RowU T k ok U w0 ds rows v w) (hB:∀ b,ok b->b<w0.heap.size) (d:D) (r:List Value) (hx:Rd (fun b=>ok b\/U<=b) w d r) (hr:r.length=k) (h1:∀ u∈r,u.oneCell'=true) (hdn:ds.length=n) (hn:n<=10000000) (hb200:bytes<=1000)
  (hs:a.eval s=v) (hxe:a.eval x=.slice (some ⟨w.heap.size,0,none⟩) 1 1)
  (hK:∀ a' c' w',RowU T k ok w'.heap.size w0 (ds++[d]) (rows++[r]) (.slice a' (n+1) c') w'->(w.alloc (.cells r.toArray T)).grownBy w' v.ownBlock->wpList Tryz.prog ops Q rest (a.put o.dst (.slice a' (n+1) c')) w') :
  wpList Tryz.prog ops Q (o::rest) a (w.alloc (.cells r.toArray T)):=by
 subst hdn
 have hmul:(ds.length+1)*bytes<=140737488355328:=Nat.le_trans (Nat.mul_le_mul (show ds.length+1<=10000001 by omega) hb200) (by omega)
 refine wpList_append_own_at _ hgd s x t ho w0.heap.size T i z k bytes ht hi hz hsize hby hzs hsz v ds.length rows.flatten hs (h.own.alloc _) ⟨w.heap.size,0,none⟩ 1 1 r hxe (by omega) (q0o w r T) h1 (by unfold maxLen;omega) hmul (by have:=h.bel.size;simp;omega) ?_
 intro v' w' hown hg _ hat
 obtain ⟨a',c',rfl⟩:=q09 hown
 refine hK a' c' w' ?_ hg
 refine h.put hB (rows2:=[r]) (es:=[d]) (RdL.one (Rd.keep (fun b hb hlt=>⟨hb,Below.heap_alloc w _ b hlt⟩) _ _ hx)) (by simp [hr]) (World.grownBy_alloc w _ none) (by simpa using hown) hg hat
theorem wpList_putA {n:Nat} {ops:Array Oper} {rest:List Oper} {o:Oper} {a:Act} {Q:Exit->Act->World->Prop} (hgd:o.guard=none) (s x:Operand) (t:TypeId)
  (ho:o.op=.call { callee:=.builtin .append,args:=#[s,x],argTypes:=#[t,t] })
  (i:TypeInfo) (z:Value) (bytes:Nat) (ht:Tryz.prog.underlying t=some (.slice T)) (hi:Tryz.prog.info? T=some i) (hz:i.zero=some z)
  (hsize:i.size=k) (hby:i.bytes=bytes) (hzs:z.cells.size=k) (hsz:0<k)
  (h:RowU T k ok U w0 ds rows v w) (hB:∀ b,ok b->b<w0.heap.size) (d:D) (r:List Value) (hx:Rd (fun b=>ok b\/U<=b) w d r) (hr:r.length=k) (h1:∀ u∈r,u.oneCell'=true) (hdn:ds.length=n) (hn:n<=10000000) (hb200:bytes<=1000)
  (hs:a.eval s=v) (hxe:a.eval x=.slice (some ⟨w.heap.size,0,none⟩) 1 1)
  (hK:∀ a' c' w',RowU T k ok w'.heap.size w0 (ds++[d]) (rows++[r]) (.slice a' (n+1) c') w'->(w.alloc (.cells r.toArray T)).grownBy w' v.ownBlock->((Value.slice a' (n+1) c').ownBlock=v.ownBlock\/(Value.slice a' (n+1) c').ownBlock=some (w.heap.size+1))->wpList Tryz.prog ops Q rest (a.put o.dst (.slice a' (n+1) c')) w') :
  wpList Tryz.prog ops Q (o::rest) a (w.alloc (.cells r.toArray T)):=by
 subst hdn
 have hmul:(ds.length+1)*bytes<=140737488355328:=Nat.le_trans (Nat.mul_le_mul (show ds.length+1<=10000001 by omega) hb200) (by omega)
 refine wpList_append_own_at _ hgd s x t ho w0.heap.size T i z k bytes ht hi hz hsize hby hzs hsz v ds.length rows.flatten hs (h.own.alloc _) ⟨w.heap.size,0,none⟩ 1 1 r hxe (by omega) (q0o w r T) h1 (by unfold maxLen;omega) hmul (by have:=h.bel.size;simp;omega) ?_
 intro v' w' hown hg _ hat
 obtain ⟨a',c',rfl⟩:=q09 hown
 refine hK a' c' w' ?_ hg (by simpa using hat)
 refine h.put hB (rows2:=[r]) (es:=[d]) (RdL.one (Rd.keep (fun b hb hlt=>⟨hb,Below.heap_alloc w _ b hlt⟩) _ _ hx)) (by simp [hr]) (World.grownBy_alloc w _ none) (by simpa using hown) hg hat
theorem wpList_puts {n m:Nat} {ops:Array Oper} {rest:List Oper} {o:Oper} {a:Act} {Q:Exit->Act->World->Prop} (hgd:o.guard=none) (s x:Operand) (t:TypeId)
  (ho:o.op=.call { callee:=.builtin .append,args:=#[s,x],argTypes:=#[t,t] })
  (i:TypeInfo) (z:Value) (bytes:Nat) (ht:Tryz.prog.underlying t=some (.slice T)) (hi:Tryz.prog.info? T=some i) (hz:i.zero=some z)
  (hsize:i.size=k) (hby:i.bytes=bytes) (hzs:z.cells.size=k) (hsz:0<k)
  (h:RowU T k ok U w0 ds rows v w) (hB:∀ b,ok b->b<w0.heap.size) (vx:Value) (hx:Rd (fun b=>ok b\/U<=b) w (.sl k es) [vx]) (h1:∀ (rs:List (List Value)) (ok':Nat->Prop),RdL ok' w es rs->∀ u∈rs.flatten,u.oneCell'=true) (hdn:ds.length=n) (hem:es.length=m) (hn:n+m<=10000000) (hb200:bytes<=1000)
  (hs:a.eval s=v) (hxe:a.eval x=vx)
  (hK:∀ a' c' rows' w',RowU T k ok w'.heap.size w0 (ds++es) rows' (.slice a' (n+m) c') w'->w.grownBy w' v.ownBlock->wpList Tryz.prog ops Q rest (a.put o.dst (.slice a' (n+m) c')) w') :
  wpList Tryz.prog ops Q (o::rest) a w:=by
 subst hdn hem
 obtain ⟨A,c,rs,rfl,h2,h3,h4,h5,h6⟩:=Rd.readsG hx
 have hmul:(ds.length+es.length)*bytes<=140737488355328:=Nat.le_trans (Nat.mul_le_mul hn hb200) (by omega)
 refine q08 _ hgd s x t ho w0.heap.size T i z k bytes ht hi hz hsize hby hzs hsz v ds.length rows.flatten hs h.own w.heap.size A es.length c rs.flatten hxe h6 (h1 rs _ h4) (by unfold maxLen;omega) hmul (by have:=h.bel.size;omega) ?_
 intro v' w' hown hg hat
 obtain ⟨a',c',rfl⟩:=q09 hown
 exact hK a' c' _ w' (h.put hB h4 h5 (World.grownBy.refl w none) hown hg hat) hg
theorem step_put {n:Nat} {ops:Array Oper} {o:Oper} {a:Act} {K:Act->World->Prop} {Q:Exit->Act->World->Prop} {E:Prop} (hgd:o.guard=none) (s x:Operand) (t:TypeId)
  (ho:o.op=.call { callee:=.builtin .append,args:=#[s,x],argTypes:=#[t,t] })
  (i:TypeInfo) (z:Value) (bytes:Nat) (ht:Tryz.prog.underlying t=some (.slice T)) (hi:Tryz.prog.info? T=some i) (hz:i.zero=some z)
  (hsize:i.size=k) (hby:i.bytes=bytes) (hzs:z.cells.size=k) (hsz:0<k)
  (h:RowU T k ok U w0 ds rows v w) (hB:∀ b,ok b->b<w0.heap.size) (d:D) (r:List Value) (hx:Rd (fun b=>ok b\/U<=b) w d r) (hr:r.length=k) (h1:∀ u∈r,u.oneCell'=true) (hdn:ds.length=n) (hn:n<=10000000) (hb200:bytes<=1000)
  (hs:a.eval s=v) (hxe:a.eval x=.slice (some ⟨w.heap.size,0,none⟩) 1 1)
  (hK:∀ a' c' w',RowU T k ok w'.heap.size w0 (ds++[d]) (rows++[r]) (.slice a' (n+1) c') w'->(w.alloc (.cells r.toArray T)).grownBy w' v.ownBlock->K (a.put o.dst (.slice a' (n+1) c')) w') :
  if Region.wanted o (yielded ops a.tmps)=true then Oper.wp Tryz.prog o a (w.alloc (.cells r.toArray T)) K Q else E:=by
 subst hdn
 have hmul:(ds.length+1)*bytes<=140737488355328:=Nat.le_trans (Nat.mul_le_mul (show ds.length+1<=10000001 by omega) hb200) (by omega)
 refine step_append_lies _ hgd s x t ho w0.heap.size T i z k bytes ht hi hz hsize hby hzs hsz v ds.length rows.flatten hs (h.own.alloc _) ⟨w.heap.size,0,none⟩ 1 1 r hxe (by omega) (q0o w r T) h1 (by omega) (by unfold maxLen;omega) hmul (by have:=h.bel.size;simp;omega) (w.heap.size+1) (by simp) ?_
 intro g cap w' hown hg hat _
 refine hK _ _ w' ?_ hg
 refine h.put hB (rows2:=[r]) (es:=[d]) (RdL.one (Rd.keep (fun b hb hlt=>⟨hb,Below.heap_alloc w _ b hlt⟩) _ _ hx)) (by simp [hr]) (World.grownBy_alloc w _ none) (by simpa using hown) hg (hat.elim (fun e=>.inl (by rw [e];rfl)) (fun e=>.inr (by rw [e];simp [Value.ownBlock])))
theorem step_puts {n m:Nat} {ops:Array Oper} {o:Oper} {a:Act} {K:Act->World->Prop} {Q:Exit->Act->World->Prop} {E:Prop} (hgd:o.guard=none) (s x:Operand) (t:TypeId)
  (ho:o.op=.call { callee:=.builtin .append,args:=#[s,x],argTypes:=#[t,t] })
  (i:TypeInfo) (z:Value) (bytes:Nat) (ht:Tryz.prog.underlying t=some (.slice T)) (hi:Tryz.prog.info? T=some i) (hz:i.zero=some z)
  (hsize:i.size=k) (hby:i.bytes=bytes) (hzs:z.cells.size=k) (hsz:0<k)
  (h:RowU T k ok U w0 ds rows v w) (hB:∀ b,ok b->b<w0.heap.size) (vx:Value) (hx:Rd (fun b=>ok b\/U<=b) w (.sl k es) [vx]) (h1:∀ (rs:List (List Value)) (ok':Nat->Prop),RdL ok' w es rs->∀ u∈rs.flatten,u.oneCell'=true) (hdn:ds.length=n) (hem:es.length=m) (hn:n+m<=10000000) (hb200:bytes<=1000)
  (hs:a.eval s=v) (hxe:a.eval x=vx)
  (hK:∀ a' c' rows' w',RowU T k ok w'.heap.size w0 (ds++es) rows' (.slice a' (n+m) c') w'->w.grownBy w' v.ownBlock->K (a.put o.dst (.slice a' (n+m) c')) w') :
  if Region.wanted o (yielded ops a.tmps)=true then Oper.wp Tryz.prog o a w K Q else E:=by
 subst hdn hem
 obtain ⟨A,c,rs,rfl,h2,h3,h4,h5,h6⟩:=Rd.readsG hx
 have hmul:(ds.length+es.length)*bytes<=140737488355328:=Nat.le_trans (Nat.mul_le_mul hn hb200) (by omega)
 refine step_append_any _ hgd s x t ho w0.heap.size T i z k bytes ht hi hz hsize hby hzs hsz v ds.length rows.flatten hs h.own w.heap.size A es.length c rs.flatten hxe h6 (h1 rs _ h4) (by unfold maxLen;omega) hmul (by have:=h.bel.size;omega) ?_
 intro v' w' hown hg hat
 obtain ⟨a',c',rfl⟩:=q09 hown
 exact hK a' c' _ w' (h.put hB h4 h5 (World.grownBy.refl w none) hown hg hat) hg
def cutW (n:Nat) (w:World):World:={ w with heap:=w.heap.extract 0 n }
theorem q17 {n:Nat} {w:World} (h:n<=w.heap.size):(cutW n w).heap.size=n:=by
 show (w.heap.extract 0 n).size=n
 rw [Array.size_extract];omega
theorem cutW_get {n:Nat} {w:World} (h:n<=w.heap.size) {b:Nat} (hb:b<n):(cutW n w).heap[b]?=w.heap[b]?:=by
 show (w.heap.extract 0 n)[b]?=w.heap[b]?
 rw [Array.getElem?_extract]
 simp;omega
theorem cutW_below {n:Nat} {w:World} (h:n<=w.heap.size):Below n (cutW n w) w:=
 ⟨rfl,rfl,rfl,by rw [q17 h];exact h,fun b hb=>(cutW_get h hb).symm⟩
theorem RowU.base (h:RowU T k (fun _=>False) U w0 ds rows v w):RowU T k (fun _=>False) U (cutW w0.heap.size w) ds rows v w:=by
 have hz:=q17 (w:=w) h.bel.size
 have hb:=cutW_below (w:=w) h.bel.size
 exact ⟨by rw [hz];exact h.own,by rw [hz];exact h.red,h.len,by rw [hz];exact hb,h.oU,by rw [hz];exact h.le0,h.leU⟩
theorem RowU.hop {p n0:Nat} (h:RowU T k (fun _=>False) U (cutW n0 w) ds rows v w) (hn:n0<=w.heap.size) (hp:p<n0) (hg:w.grownBy w' (some p)):RowU T k (fun _=>False) U (cutW n0 w') ds rows v w':=by
 have hz:=q17 (w:=w) hn
 have hn':n0<=w'.heap.size:=Nat.le_trans hn hg.size
 have hz':=q17 (w:=w') hn'
 have h0:=h.own
 have h1:=h.red
 have h2:=h.le0
 rw [hz] at h0 h1 h2
 refine ⟨?_,?_,h.len,?_,h.oU,by rw [hz'];exact h2,Nat.le_trans h.leU hg.size⟩
 ·rw [hz']
  exact h0.kept hg (.inr (fun e=>by have:=(h0.lt p e).1;omega))
 ·rw [hz']
  exact RdL.keep (fun b hb hlt=>⟨hb,hg.block b hlt (fun e=>by have e1:=Option.some.inj e;rcases hb.1 with h3 | h3;exact h3.elim;omega)⟩) _ _ h1
 ·rw [hz'];exact cutW_below hn'
theorem RowU.hop2 {p:Nat} (h:RowU T k (fun _=>False) U w0 ds rows v w) (hp:p<w0.heap.size) (hg:w.grownBy w' (some p)):∃ w0',w0'.heap.size=w0.heap.size/\RowU T k (fun _=>False) U w0' ds rows v w':=
 ⟨_,q17 (Nat.le_trans h.bel.size hg.size),h.base.hop h.bel.size hp hg⟩
theorem RowU.hopG {p:Nat} (h:RowU T k ok U w0 ds rows v w) (hp:p<w0.heap.size) (hno:¬ ok p) (hg:w.grownBy w' (some p)):∃ w0',w0'.heap.size=w0.heap.size/\RowU T k ok U w0' ds rows v w':=by
 have hn':w0.heap.size<=w'.heap.size:=Nat.le_trans h.bel.size hg.size
 have hz':=q17 (w:=w') hn'
 refine ⟨cutW w0.heap.size w',hz',?_,?_,h.len,?_,h.oU,by rw [hz'];exact h.le0,Nat.le_trans h.leU hg.size⟩
 ·rw [hz']
  exact h.own.kept hg (.inr (fun e=>by have:=(h.own.lt p e).1;omega))
 ·rw [hz']
  exact RdL.keep (fun b hb hlt=>⟨hb,hg.block b hlt (fun e=>by
   have e1:=Option.some.inj e
   subst e1
   rcases hb.1 with h3 | h3
   ·exact hno h3
   ·omega)⟩) _ _ h.red
 ·rw [hz'];exact cutW_below hn'
theorem RowU.lit {n1:Nat} {d:D} {r:List Value} (hr:r.length=k) (hx:Rd (n1<=·) w d r):RowU T k (fun b=>n1<=b/\b<w.heap.size) (w.heap.size+1) (cutW w.heap.size (w.alloc (.cells r.toArray T))) [d] [r] (.slice (some ⟨w.heap.size,0,none⟩) 1 1) (w.alloc (.cells r.toArray T)):=by
 have hs:(w.alloc (.cells r.toArray T)).heap.size=w.heap.size+1:=World.size_alloc _ _
 have hz:=q17 (w:=w.alloc (.cells r.toArray T)) (n:=w.heap.size) (by omega)
 refine ⟨?_,?_,by simp [hr],by rw [hz];exact cutW_below (by omega),?_,by omega,by omega⟩
 ·refine ⟨by simp [hr],.inr ⟨w.heap.size,1,r.toArray,rfl,by omega,?_,by simp,by unfold maxLen;omega,?_,?_⟩⟩
  ·exact heap_alloc_new w _
  ·simp [hr]
  ·subst hr;simp
 ·refine RdL.one (Rd.keep (fun b hb hlt=>⟨⟨.inl ⟨hb,hlt⟩,fun e=>?_,by omega⟩,Below.heap_alloc w _ b hlt⟩) _ _ hx)
  have e1:w.heap.size=b:=by simpa [Value.ownBlock] using e
  omega
 ·intro g hg
  have e1:w.heap.size=g:=by simpa [Value.ownBlock] using hg
  omega
end
open Go.RowKit Go.Maps
theorem keyI:Keyed Tryz.prog 3:=int_keyed Tryz.underlying3
def iKey (n:Int):Lit:=.int .i64 n
theorem iKey_inj (a b:Int) (h:iKey a=iKey b):a=b:=(Lit.int.inj h).2
theorem iKey_lit (a:Int):WideAt.IsKeyLit (iKey a):=by
 unfold iKey;simp [WideAt.IsKeyLit]
def IntAt (w:World) (b n:Nat) (f:Int->Int):Prop:=
 ∃ D:DataW Unit,w.ownsMap Tryz.prog 3 (plainElem Tryz.prog 3) b n D/\∀ s:Int,D.atKey (iKey s) (.lit (.int .i64 0))=.lit (.int .i64 (f s))
theorem IntAt.look {w:World} {b n:Nat} {f:Int->Int} (h:IntAt w b n f) (s:Int) (hs:(Lit.int .i64 s).wf=true) :
  (Instr.lookup 62 (.map (some b)) (.int .i64 s) false).run Tryz.prog w=.ok (.int .i64 (f s)) w:=by
 obtain ⟨D,hD,hat⟩:=h
 obtain ⟨c,hrun,hc,_⟩:=hD.lookup_int keyI Tryz.underlying62 Tryz.underlying3 (zeroI w) (keyOf_int_mk Tryz.underlying3 hs)
 have hc':=hat s
 unfold iKey at hc'
 rw [hc'] at hc
 have:f s=c:=(Lit.int.inj (DataW.lit.inj hc)).2
 subst this;exact hrun
theorem IntAt.put {w:World} {b n:Nat} {f:Int->Int} (h:IntAt w b n f) (s x:Int) (hs:(Lit.int .i64 s).wf=true) (hn:n<maxLen) (hx:(Lit.int .i64 x).wf=true) :
  ∃ w',(Instr.mapUpdate 62 (.map (some b)) (.int .i64 s) (.int .i64 x)).run Tryz.prog w=.ok () w'/\IntAt w' b (n+1) (fun t=>if t=s then x else f t)/\w.grownBy w' (some b):=by
 obtain ⟨D,hD,hat⟩:=h
 obtain ⟨w',hrun,hD',hg⟩:=hD.update keyI Tryz.underlying62 hn (keyOf_int_mk Tryz.underlying3 hs) (plainElem_int Tryz.underlying3 hx)
 refine ⟨w',hrun,⟨_,hD',fun t=>?_⟩,hg⟩
 by_cases e:t=s
 ·subst e
  show (D.put (iKey t) _).atKey _ _=_
  rw [atKey_put_same (owns_isMap hD) (iKey_lit t)]
  show _=DataW.lit (.int .i64 (if t=t then x else f t))
  rw [if_pos rfl]
 ·show (D.put (iKey s) _).atKey _ _=_
  rw [atKey_put_other (fun h=>e (iKey_inj _ _ h)),hat t]
  show _=DataW.lit (.int .i64 (if t=s then x else f t))
  rw [if_neg e]
theorem IntAt.made (w:World):IntAt (w.alloc (.map #[] 0)) w.heap.size 0 (fun _=>0):=
 ⟨_,World.ownsMap_made w _ _ _,fun s=>rfl⟩
theorem IntAt.kept {w w':World} {b n:Nat} {f:Int->Int} {row:Option Nat} (h:IntAt w b n f) (hg:w.grownBy w' row) (hne:some b≠row):IntAt w' b n f:=by
 obtain ⟨D,hD,hat⟩:=h
 exact ⟨D,hD.kept hg hne,hat⟩
theorem IntAt.lt {w:World} {b n:Nat} {f:Int->Int} (h:IntAt w b n f):b<w.heap.size:=by
 obtain ⟨D,hD,_⟩:=h;exact hD.lt
theorem IntAt.below {w w':World} {b n:Nat} {f:Int->Int} (h:IntAt w b n f) (hb:Below w.heap.size w w'):IntAt w' b n f:=h.kept (q02 hb) (by simp)
theorem IntAt.congr {w:World} {b n:Nat} {f g:Int->Int} (h:IntAt w b n f) (he:∀ x,f x=g x):IntAt w b n g:=by rw [<- funext he];exact h
def howF (k:Int):Int:=
 if k=9\/k=11 then 1 else if k=12\/k=14\/k=13 then 2 else if k=2\/k=3 then 3 else if k=16 then 4 else if k=10 then 5 else if k=6\/k=7\/k=8 then 6 else 0
theorem treatments_any (w:World) :
  Calls Tryz.prog 25 #[] w fun e w'=>e=.returned (.map (some w.heap.size))/\IntAt w' w.heap.size 12 howF/\Below w.heap.size w w':=by
 have A0:=IntAt.made w
 have g0:Below w.heap.size w (w.alloc (.map #[] 0)):=(Below.refl _ _).alloc (Nat.le_refl _) _
 have hz0:w.heap.size<=(w.alloc (.map #[] 0)).heap.size:=by simp
 obtain ⟨w1,r1,A1,g1⟩:=A0.put 9 1 (by decide) (by decide) (by decide)
 obtain ⟨w2,r2,A2,g2⟩:=A1.put 11 1 (by decide) (by decide) (by decide)
 obtain ⟨w3,r3,A3,g3⟩:=A2.put 12 2 (by decide) (by decide) (by decide)
 obtain ⟨w4,r4,A4,g4⟩:=A3.put 14 2 (by decide) (by decide) (by decide)
 obtain ⟨w5,r5,A5,g5⟩:=A4.put 13 2 (by decide) (by decide) (by decide)
 obtain ⟨w6,r6,A6,g6⟩:=A5.put 2 3 (by decide) (by decide) (by decide)
 obtain ⟨w7,r7,A7,g7⟩:=A6.put 3 3 (by decide) (by decide) (by decide)
 obtain ⟨w8,r8,A8,g8⟩:=A7.put 16 4 (by decide) (by decide) (by decide)
 obtain ⟨w9,r9,A9,g9⟩:=A8.put 10 5 (by decide) (by decide) (by decide)
 obtain ⟨w10,r10,A10,g10⟩:=A9.put 6 6 (by decide) (by decide) (by decide)
 obtain ⟨w11,r11,A11,g11⟩:=A10.put 7 6 (by decide) (by decide) (by decide)
 obtain ⟨w12,r12,A12,g12⟩:=A11.put 8 6 (by decide) (by decide) (by decide)
 have gg:=q05 (q05 (q05 (q05 (q05 (q05 g1 g2) (q05 g3 g4)) (q05 g5 g6)) (q05 g7 g8)) (q05 g9 g10)) (q05 g11 g12)
 have HB:=hid (g0.grown gg hz0 (fun j hj=>by rw [<- Option.some.inj hj];exact Nat.le_refl _))
 have HA:=hid (A12.congr (g:=howF) (fun x=>by
  unfold howF
  by_cases h1:x=8;· subst h1;rfl
  by_cases h2:x=7;· subst h2;rfl
  by_cases h3:x=6;· subst h3;rfl
  by_cases h4:x=10;· subst h4;rfl
  by_cases h5:x=16;· subst h5;rfl
  by_cases h6:x=3;· subst h6;rfl
  by_cases h7:x=2;· subst h7;rfl
  by_cases h8:x=13;· subst h8;rfl
  by_cases h9:x=14;· subst h9;rfl
  by_cases h10:x=12;· subst h10;rfl
  by_cases h11:x=11;· subst h11;rfl
  by_cases h12:x=9;· subst h12;rfl
  simp [h1,h2,h3,h4,h5,h6,h7,h8,h9,h10,h11,h12]))
 clear A0 A1 A2 A3 A4 A5 A6 A7 A8 A9 A10 A11 A12 g0 g1 g2 g3 g4 g5 g6 g7 g8 g9 g10 g11 g12 gg hz0
 have mk:=@run_makeMap Tryz.prog
 go_enter Tryz.func25,Tryz.ntmps25
 go_wp2
 go_wp2
 go_ret
 exact ⟨rfl,HA.out,HB.out⟩
end Go.Proofs.YtlbioncagkkkoaaGreatDoor

