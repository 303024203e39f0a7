/- Plain part: different anchors for texts: the first free number. Maps of the call's own with texts as keys: a set (bool elements). Words for copies of inlines and blocks: what is not too long; blocks that are known whole. Plain laws on anchors: how long they are; what is used when the k-th one is looked for. The contract of slug.Of. Contracts of slices.Clone at the three types, and of tree.copyAttr. The contract of tree.copyAttr. tree.Inlines$1: what is collected, and the words for its walk. A row that a call builds: what its elements read lies below U; laws for append of one element and of a slice. Contracts of slug.copyAttr and slug.copyLine. The anchors that are left, in the box that slug.Anchors$1 takes them out of; which blocks get them. The contract of count.copyLine. -/
import Derived.Test.YtkfnkeflalcphaaGreatDoorKRFoldR
import Derived.Deep.RegionHeld3
set_option maxHeartbeats 4000000
set_option maxRecDepth 100000
open Go.Lib (hid)
namespace Go.Proofs.YtkfnkeflalcphaaGreatDoor
open Go.RowKit.Below renaming refl->jD7,heap_setCell->jE1,heap_alloc->jE2
open Nat renaming le_refl->jD8,le_trans->jD9
open List renaming length_append->jDq,length_map->jDx
open Option.some renaming inj->jE0
open Go.World renaming size_alloc->jE5
open Go renaming World->jG9,Value->jGk
def dS (T:List ByteArray) (x:ByteArray):Bool:=T.any fun y=>decide (y=x)
theorem xZ (T:List ByteArray) (x:ByteArray):dS T x=true↔x∈T:=by
 unfold dS;rw [List.any_eq_true];constructor
 ·rintro ⟨y,hy,h⟩;rw [<- of_decide_eq_true h];exact hy
 ·intro h;exact ⟨x,h,decide_eq_true rfl⟩
open Go.RowKit Go.Maps
set_option linter.unusedVariables false
set_option linter.unusedSimpArgs false
theorem jq7:Keyed Tryz.prog 9:=string_keyed Tryz.underlying9
theorem jq8 (w:jG9):(zeroValue 4).run Tryz.prog w=.ok (.bool false) w:=by kernel_rfl
def Jw (s:ByteArray):Lit:=.string s.data.toList
theorem Mg (s:ByteArray) (hs:s.size<=maxLen):keyOf Tryz.prog 9 (.string s)=some (Jw s):=WideMaps.keyOf_string_mk Tryz.underlying9 hs
theorem QT (s t:ByteArray) (h:Jw s=Jw t):s=t:=by
 unfold Jw at h;injection h with h
 exact ByteArray.ext (Array.toList_inj.1 h)
theorem Jy {P:Program} {e:TypeId} (he:P.underlying e=some .bool) {v:jGk} {z:DataW Unit × List MemPlace} (h:plainElem P e v=some z):∃ x,v=.bool x/\z=(.lit (.bool x),[]):=by
 unfold plainElem at h;rw [he] at h;cases v<;>simp at h
 exact ⟨_,rfl,h.symm⟩
def fA (w:jG9) (b n:Nat) (S:List ByteArray):Prop:=
 ∃ D:DataW Unit,w.ownsMap Tryz.prog 9 (plainElem Tryz.prog 4) b n D/\∀ s:ByteArray,D.atKey (Jw s) (.lit (.bool false))=.lit (.bool (dS S s))
theorem Jz {w:jG9} {k:TypeId} {R:jGk->Option (DataW Unit × List MemPlace)} {b n:Nat} {D:DataW Unit} (h:w.ownsMap Tryz.prog k R b n D):IsMap D:=by obtain ⟨es,c,_,_,_,rfl⟩:=h;exact ⟨_,rfl⟩
theorem QU (s:ByteArray):WideAt.IsKeyLit (Jw s):=by unfold Jw;simp [WideAt.IsKeyLit]
theorem fA.look {w:jG9} {b n:Nat} {S:List ByteArray} (h:fA w b n S) (s:ByteArray) (hs:s.size<=maxLen) : (Instr.lookup 127 (.map (some b)) (.string s) false).run Tryz.prog w=.ok (.bool (dS S s)) w:=by obtain ⟨D,hD,hat⟩:=h;obtain ⟨v,ps,hrun,hv⟩:=hD.lookup jq7 Tryz.underlying127 (jq8 w) (plainElem_bool Tryz.underlying4 false) (Mg s hs);obtain ⟨x,rfl,hx⟩:=Jy Tryz.underlying4 hv;rw [hat s] at hx;simp only [Prod.mk.injEq] at hx;have:dS S s=x:=Lit.bool.inj (DataW.lit.inj hx.1);subst this;exact hrun
theorem fA.put {w:jG9} {b n:Nat} {S:List ByteArray} (h:fA w b n S) (s:ByteArray) (hs:s.size<=maxLen) (hn:n<maxLen) : ∃ w',(Instr.mapUpdate 127 (.map (some b)) (.string s) (.bool true)).run Tryz.prog w=.ok () w'/\fA w' b (n+1) (s::S)/\w.grownBy w' (some b):=by
 obtain ⟨D,hD,hat⟩:=h;obtain ⟨w',hrun,hD',hg⟩:=hD.update jq7 Tryz.underlying127 hn (Mg s hs) (plainElem_bool Tryz.underlying4 true);refine ⟨w',hrun,⟨_,hD',fun t=>?_⟩,hg⟩;by_cases e:t=s
 ·subst e;rw [atKey_put_same (Jz hD) (QU t)];simp [dS]
 ·rw [atKey_put_other (fun h=>e (QT _ _ h)),hat t];have:dS (s::S) t=dS S t:=by simp [dS,show ¬ s=t from fun h=>e h.symm]
  rw [this]
theorem fA.made (w:jG9):fA (w.alloc (.map #[] 0)) w.heap.size 0 []:=
 ⟨_,World.ownsMap_made w _ _ _,fun s=>rfl⟩
theorem fA.kept {w w':jG9} {b n:Nat} {S:List ByteArray} {row:Option Nat} (h:fA w b n S) (hg:w.grownBy w' row) (hne:some b≠row):fA w' b n S:=by obtain ⟨D,hD,hat⟩:=h;exact ⟨D,hD.kept hg hne,hat⟩
theorem Qd {w w':jG9} (hb:Below w.heap.size w w'):w.grownBy w' none:=⟨hb.os,hb.tape,hb.output,hb.size,fun i hi _=>hb.block i hi⟩
theorem fA.below {w w':jG9} {b n:Nat} {S:List ByteArray} (h:fA w b n S) (hb:Below w.heap.size w w'):fA w' b n S:=h.kept (Qd hb) (by simp)
open Go.RowKit
theorem Gb:(Tryz.prog.info? 9).map (fun i=>(i.zero,i.size,i.bytes))=some (some (.string ByteArray.empty),1,16):=by kernel_rfl
theorem Ee {x y:ByteArray} (h:y≠x):(y.toList==x.toList)=false:=by rw [beq_eq_false_iff_ne];intro e;apply h;apply ByteArray.ext;apply Array.toList_inj.1;rw [<- Lib.toList_data,<- Lib.toList_data,e]
theorem Cg (l:List ByteArray) (k:Nat) (y x:ByteArray) (h:l[k]?=some y):dS (l.take (k+1)) x=(dS (l.take k) x||decide (y=x)):=by unfold dS;rw [List.take_add_one,h];simp
theorem Ch (l:List ByteArray) (k:Nat) (x:ByteArray) (h:dS (l.take k) x=true):dS l x=true:=by rw [xZ] at *;exact List.mem_of_mem_take h
theorem kN:(Tryz.prog.info? 61).map (fun i=>(i.zero,i.size,i.bytes))=some (some (.agg #[.string ByteArray.empty,.string ByteArray.empty]),2,32):=by kernel_rfl
theorem sw (w:jG9) (B:Nat) (e:TypeId) (k:Nat):w.ownsRow B e k (.slice none 0 0) 0 []:=⟨by simp,.inl ⟨rfl,rfl⟩⟩
def RB (w w':jG9):Prop:=w'.heap[w.heap.size+1]?=some (.cells #[.string ⟨#[]⟩,.slice none 0 0,.slice none 0 0] 45 (0,0))
theorem Ef {w:jG9} {B:Nat} {e:TypeId} {k:Nat} {v:jGk} {n:Nat} {xs:List jGk} (h:w.ownsRow B e k v n xs) (p:Addr) (u:jGk) (hne:v.ownBlock≠some p.block):(w.setCell p u).ownsRow B e k v n xs:=by
 refine ⟨h.1,?_⟩;rcases h.2 with h0 | ⟨g,cap,cur,rfl,hg,hh,r⟩
 ·exact .inl h0
 ·exact .inr ⟨g,cap,cur,rfl,hg,(jE1 w p u g (fun e'=>hne (by rw [<- e'];rfl))).trans hh,r⟩
theorem aR.QV {ok ok':Nat->Prop} {w w':jG9} {l:List ByteArray} {rows:List (List jGk)} (h:aR ok w (l.map D.str) rows):aR ok' w' (l.map D.str) rows:=by rw [aR.oP l rows h];exact aR.strs l
theorem aR.Mh {ok ok':Nat->Prop} {w w':jG9}:∀ {l:List Pr} {rows:List (List jGk)},aR ok w (l.map Pr.d) rows->aR ok' w' (l.map Pr.d) rows
 | [],_,h=>by rw [h.dV];exact aR.none
 | p::l,_,h=>by
  obtain ⟨r,rs,rfl,h1,h2⟩:=aR.aI (d:=p.d) (ds:=l.map Pr.d) h;rw [Pr.open_ h1];exact aR.cons (Pr.dJ ok' w' p) (aR.Mh h2)
theorem aR.Mi {ok ok':Nat->Prop} {w w':jG9}:∀ {l:List Ci} {rows:List (List jGk)},aR ok w (l.map Ci.d) rows->aR ok' w' (l.map Ci.d) rows
 | [],_,h=>by rw [h.dV];exact aR.none
 | p::l,_,h=>by
  obtain ⟨r,rs,rfl,h1,h2⟩:=aR.aI (d:=p.d) (ds:=l.map Ci.d) h;rw [Ci.open_ h1];exact aR.cons (Ci.dJ ok' w' p) (aR.Mi h2)
theorem QW:(Tryz.prog.info? 66).map (fun i=>(i.zero,i.size,i.bytes))=some (some (.agg #[.int .i64 0,.string ByteArray.empty,.string ByteArray.empty,.string ByteArray.empty,.string ByteArray.empty,.slice none 0 0,.slice none 0 0,.slice none 0 0,.slice none 0 0,.slice none 0 0]),10,192):=by kernel_rfl
theorem jk3:(Tryz.prog.info? 121).map (fun i=>(i.zero,i.size,i.bytes))=some (some (.agg #[.string ByteArray.empty,.string ByteArray.empty,.string ByteArray.empty,.bool false]),4,56):=by kernel_rfl
mutual
def aj.bd:aj->Prop
 | .mk _ _ _ _ a ar ci ks=>a.cls.length<=1000000/\a.aD.length<=1000000/\ar.length<=1000000/\ci.length<=1000000/\aj.uw ks
def aj.uw:List aj->Prop
 | []=>True
 | x::l=>x.bd/\aj.uw l
end
theorem aj.sD:∀ (l:List aj) (k:Nat) (x:aj),aj.uw l->l[k]?=some x->x.bd
 | [],_,_,_,h=>by simp at h
 | y::l,0,x,hb,h=>by simp at h;subst h;rw [aj.uw] at hb;exact hb.1
 | y::l,k+1,x,hb,h=>by rw [aj.uw] at hb;exact aj.sD l k x hb.2 (by simpa using h)
theorem aj.JA (x:aj):1<=x.sz:=by cases x;rw [aj.sz];omega
theorem aj.fF:∀ (l:List aj),l.length<=aj.aY l
 | []=>by simp
 | x::l=>by have:=aj.fF l;have:=x.JA;rw [aj.aY];simp;omega
def PB (p:Nat) (cs:List jGk) (w:jG9):Prop:=w.heap[p]?=some (.cells cs.toArray 66 (0,0))
theorem PB.cell {p:Nat} {cs:List jGk} {w:jG9} (h:PB p cs w) (j:Nat) (u:jGk) (hu:cs[j]?=some u):w.cell? ⟨p,j,none⟩=some u:=by unfold PB at h;simp [World.cell?,h,hu]
theorem PB.free {p:Nat} {cs:List jGk} {w:jG9} (h:PB p cs w) (j:Nat):w.frozen? ⟨p,j,none⟩=false:=by unfold PB at h;simp [World.frozen?,h]
theorem PB.set {p:Nat} {cs:List jGk} {w:jG9} (h:PB p cs w) (j:Nat) (u:jGk):PB p (cs.set j u) (w.setCell ⟨p,j,none⟩ u):=by unfold PB at h ⊢;exact Gc
theorem PB.grown {p:Nat} {cs:List jGk} {w w':jG9} (h:PB p cs w) (hg:w.grownBy w' none):PB p cs w':=(hg.block p (by unfold PB at h;exact (Array.getElem?_eq_some_iff.1 h).1) (by simp)).trans h
theorem PB.lt {p:Nat} {cs:List jGk} {w:jG9} (h:PB p cs w):p<w.heap.size:=by unfold PB at h;exact (Array.getElem?_eq_some_iff.1 h).1
structure CL (w:jG9) (p:Nat) (cs:List jGk) (v:jGk) (n:Nat) (rows:List (List jGk)) (l:List aj) (wr:jG9):Prop where
 own:wr.ownsRow w.heap.size 66 10 v n rows.flatten
 red:aR (fun b=>w.heap.size<=b/\v.ownBlock≠some b/\b≠p) wr (l.map aj.d) rows
 pb:PB p cs wr
 aM:Below w.heap.size w wr
def fK (p:Nat) (w w':jG9):Prop:=∀ b,p<b->b<w.heap.size->w'.heap[b]?=w.heap[b]?
theorem fK.grown {p:Nat} {w w':jG9} (hg:w.grownBy w' none):fK p w w':=fun b _ hlt=>hg.block b hlt (by simp)
theorem fK.set {p:Nat} {w:jG9} (j:Nat) (u:jGk):fK p w (w.setCell ⟨p,j,none⟩ u):=fun b hb _=>jE1 w ⟨p,j,none⟩ u b (by show b≠p;omega)
theorem Rd.above {p:Nat} {w w':jG9} {d:D} {cs:List jGk} (h:Rd (p<·) w d cs) (ha:fK p w w'):Rd (p<·) w' d cs:=
 Rd.keep (fun b hb hlt=>⟨hb,ha b hb hlt⟩) d cs h
theorem Rd.weaken {ok ok':Nat->Prop} {w:jG9} {d:D} {cs:List jGk} (h:Rd ok w d cs) (hk:∀ b,ok b->ok' b):Rd ok' w d cs:=
 Rd.keep (fun b hb _=>⟨hk b hb,rfl⟩) d cs h
theorem AtR.above {p:Nat} {w w':jG9} {a:At} {vc vp:jGk} (h:AtR (p<·) w a vc vp) (ha:fK p w w'):AtR (p<·) w' a vc vp:=⟨h.cls.above ha,h.aD.above ha⟩
theorem AtR.weaken {ok ok':Nat->Prop} {w:jG9} {a:At} {vc vp:jGk} (h:AtR ok w a vc vp) (hk:∀ b,ok b->ok' b):AtR ok' w a vc vp:=⟨h.cls.weaken hk,h.aD.weaken hk⟩
theorem AtR.below {B:Nat} {w w':jG9} {a:At} {vc vp:jGk} (h:AtR (·<B) w a vc vp) (hb:Below B w w'):AtR (·<B) w' a vc vp:=⟨h.cls.below hb,h.aD.below hb⟩
theorem gy.below {w w':jG9} {b o:Nat} {k:Int} {t d ti id:ByteArray} {vc vp va vi vk:jGk} (h:gy w b o k t d ti id vc vp va vi vk) (hb:Below w.heap.size w w'):gy w' b o k t d ti id vc vp va vi vk:=by
 have hl:=qw h.c0;have f:∀ q,w'.cell? ⟨b,q,none⟩=w.cell? ⟨b,q,none⟩:=fun q=>hb.cell (p:=⟨b,q,none⟩) hl
 obtain ⟨c0,c1,c2,c3,c4,c5,c6,c7,c8,c9⟩:=h;exact ⟨by rw [f];exact c0,by rw [f];exact c1,by rw [f];exact c2,by rw [f];exact c3,by rw [f];exact c4,by rw [f];exact c5,by rw [f];exact c6,by rw [f];exact c7,by rw [f];exact c8,by rw [f];exact c9⟩
mutual
def ah.bd:ah->Prop
 | .mk _ _ _ _ _ _ a li ks=>a.cls.length<=1000000/\a.aD.length<=1000000/\aj.uw li/\aj.aY li<=1000000/\ah.uw ks
def ah.uw:List ah->Prop
 | []=>True
 | x::l=>x.bd/\ah.uw l
end
theorem ah.sD:∀ (l:List ah) (k:Nat) (x:ah),ah.uw l->l[k]?=some x->x.bd
 | [],_,_,_,h=>by simp at h
 | y::l,0,x,hb,h=>by simp at h;subst h;rw [ah.uw] at hb;exact hb.1
 | y::l,k+1,x,hb,h=>by rw [ah.uw] at hb;exact ah.sD l k x hb.2 (by simpa using h)
theorem ah.JA (x:ah):1<=x.sz:=by cases x;rw [ah.sz];omega
theorem ah.fF:∀ (l:List ah),l.length<=ah.aY l
 | []=>by simp
 | x::l=>by have:=ah.fF l;have:=x.JA;rw [ah.aY];simp;omega
section
variable {p:Nat} {cs:List jGk} {w w':jG9}
end
theorem Rd.au {ok:Nat->Prop} {w:jG9} {k:Nat} {l:List D} {v:jGk} (h:Rd ok w (.sl k l) [v]):∃ a n c,v=.slice a n c:=by obtain ⟨a',c',h',_⟩:=Rd.ay h;exact ⟨_,_,_,by simpa using h'⟩
open Go.RowKit
theorem Wj (n:Nat):(Lib.decDigits n).length<=n+1:=by
 induction n using Nat.strongRecOn with
 | _ n ih=>
  rw [Lib.decDigits];split
  ·simp
  ·have:=ih (n/10) (by omega);simp;omega
open Go.RowKit
open Go.RowKit
theorem qO {w:jG9} {B k n:Nat} {xs:List jGk} (h:Reads w B k none n xs):n=0:=by
 rcases Nat.eq_zero_or_pos n with h0 | h0
 ·exact h0
 ·obtain ⟨_,e,_⟩:=h.2 h0;cases e
theorem QX {ok:Nat->Prop} {w:jG9} {l:List ByteArray} {rows:List (List jGk)} (h:aR ok w (l.map D.str) rows):∀ u∈rows.flatten,u.oneCell'=true:=by intro u hu;rw [aR.oP _ _ h,oQ] at hu;obtain ⟨s,_,rfl⟩:=List.mem_map.1 hu;rfl
theorem yg {ok:Nat->Prop} {w:jG9}:∀ {l:List D} {rows:List (List jGk)},aR ok w l rows->(∀ d∈l,∀ r,Rd ok w d r->∀ u∈r,u.oneCell'=true)->∀ u∈rows.flatten,u.oneCell'=true
 | [],_,h,_=>by rw [h.dV];simp
 | d::ds,_,h,hk=>by
  obtain ⟨r,rs,rfl,h1,h2⟩:=h.aI;intro u hu;rw [List.flatten_cons] at hu;rcases List.mem_append.1 hu with hu | hu
  ·exact hk d (by simp) r h1 u hu
  ·exact yg h2 (fun d' hd'=>hk d' (by simp [hd'])) u hu
theorem Wm {ok:Nat->Prop} {w:jG9} {l:List Pr} {rows:List (List jGk)} (h:aR ok w (l.map Pr.d) rows):∀ u∈rows.flatten,u.oneCell'=true:=
 yg h fun d hd r hr u hu=>by
  obtain ⟨p,_,rfl⟩:=List.mem_map.1 hd;rw [Pr.open_ hr] at hu;simp at hu;rcases hu with rfl | rfl<;>rfl
theorem Wn {ok:Nat->Prop} {w:jG9} {l:List Ci} {rows:List (List jGk)} (h:aR ok w (l.map Ci.d) rows):∀ u∈rows.flatten,u.oneCell'=true:=
 yg h fun d hd r hr u hu=>by
  obtain ⟨p,_,rfl⟩:=List.mem_map.1 hd;rw [Ci.open_ hr] at hu;simp at hu;rcases hu with rfl | rfl | rfl | rfl<;>rfl
def JB (w:jG9) (d:D) (e:Ending) (w':jG9):Prop:=∃ v,e=.returned v/\Rd (w.heap.size<=·) w' d [v]/\Below w.heap.size w w'
theorem qP (w:jG9) (e:TypeId) (k:Nat):(w.alloc (.cells #[] e)).ownsRow w.heap.size e k (.slice (some ⟨w.heap.size,0,none⟩) 0 0) 0 []:=
 ⟨by simp,.inr ⟨w.heap.size,0,#[],rfl,jD8 _,heap_alloc_new w _,jD8 _,Nat.zero_le _,by simp,by simp⟩⟩
theorem QY{P Q:Prop}(q:Q)(h:Nonempty Q->P:=by
 intro qQ;have b1:Below w.heap.size w w1:=((Below.refl _ w).alloc (Nat.le_refl _) _).grown hg (by simp) (fun j hj=>by have e:w.heap.size=j:=Option.some.inj hj;omega);have HO:=hid hown;revert b1 HO;exact qQ.elim fun x=>x):P:=h ⟨q⟩
theorem QZ{P:Prop}(h:P:=by
 go_wp2;go_ret;exact ⟨_,rfl,Rd.aC _ _ _,Below.refl _ _⟩):P:=h
theorem yh (l:List ByteArray) (B:Nat) (v:jGk) (w:jG9) (h:Rd (·<B) w (jZ l) [v]) (hB:B<=w.heap.size) (hl:l.length<=1000000) : Calls Tryz.prog 83 #[v] w (JB w (jZ l)):=by
 obtain ⟨i0,hi,hz0,hz1,hz2⟩:=info_parts Gb;obtain ⟨A,cap,rows,rfl,h1,h2,h3,h4,h5⟩:=Rd.reads h;rw [jDx] at h1 h5;have e:(l.map D.str).length=l.length:=jDx _;rw [e];unfold maxLen at h2;have H3:=hid h3;have H4:=hid h4;have H5:=hid (h5.more hB);have H1:=hid (QX h3);clear h h3 h4 h5 e;cases A with
 | none=>
  have h0:l=[]:=List.length_eq_zero_iff.1 (qO H5.out);subst h0;have hq:=fun (w:jG9) (a:Option Addr) (n c:Nat)=>Lib.run_eql_slice_nil (P:=Tryz.prog) w _ _ a n c 0 0 Tryz.underlying43
  go_enter Tryz.func83,Tryz.ntmps83;exact QZ
 | some ad=>
  have hq:=fun (w:jG9) (a:Option Addr) (n c:Nat)=>Lib.run_eql_slice_nil (P:=Tryz.prog) w _ _ a n c 0 0 Tryz.underlying43
  go_enter Tryz.func83,Tryz.ntmps83;go_wp2_with (at_builtin;refine Ma _ rfl (.tmp 5) (.tmp 6) 43 rfl w.heap.size 9 i0 _ 1 16 Tryz.underlying43 hi hz0 hz1 hz2 rfl (by decide) (.slice (some ⟨w.heap.size,0,none⟩) 0 0) 0 [] rfl (qP w _ _) w.heap.size (some ad) l.length cap rows.flatten rfl (H5.out.below ((jD7 _ w).alloc (jD8 _) _)) H1.out ?a1 ?a2 ?a3 ?_)
  case a1=>unfold maxLen;omega
  case a2=>omega
  case a3=>simp
  intro v' w1 hown hg _
  (try simp only [Nat.zero_add,List.nil_append] at hown)
  refine QY ?_;intro b1 HO;clear hown hg;go_wp2;go_ret;refine ⟨_,rfl,Rd.fG (rows:=rows) (B:=w.heap.size) (e:=9) ?_ (aR.QV H3.out) H4.out (fun g hg=>(HO.out.lt g hg).1),b1⟩;rw [jDx];exact HO.out
theorem JD (l:List Ci) (B:Nat) (v:jGk) (w:jG9) (h:Rd (·<B) w (Oa l) [v]) (hB:B<=w.heap.size) (hl:l.length<=1000000) : Calls Tryz.prog 84 #[v] w (JB w (Oa l)):=by
 obtain ⟨i0,hi,hz0,hz1,hz2⟩:=info_parts jk3;obtain ⟨A,cap,rows,rfl,h1,h2,h3,h4,h5⟩:=Rd.reads h;rw [jDx] at h1 h5;have e:(l.map Ci.d).length=l.length:=jDx _;rw [e];unfold maxLen at h2;have H3:=hid h3;have H4:=hid h4;have H5:=hid (h5.more hB);have H1:=hid (Wn h3);clear h h3 h4 h5 e;cases A with
 | none=>
  have h0:l=[]:=List.length_eq_zero_iff.1 (qO H5.out);subst h0;have hq:=fun (w:jG9) (a:Option Addr) (n c:Nat)=>Lib.run_eql_slice_nil (P:=Tryz.prog) w _ _ a n c 0 0 Tryz.underlying64
  go_enter Tryz.func84,Tryz.ntmps84;exact QZ
 | some ad=>
  have hq:=fun (w:jG9) (a:Option Addr) (n c:Nat)=>Lib.run_eql_slice_nil (P:=Tryz.prog) w _ _ a n c 0 0 Tryz.underlying64
  go_enter Tryz.func84,Tryz.ntmps84;go_wp2_with (at_builtin;refine Ma _ rfl (.tmp 5) (.tmp 6) 64 rfl w.heap.size 121 i0 _ 4 56 Tryz.underlying64 hi hz0 hz1 hz2 rfl (by decide) (.slice (some ⟨w.heap.size,0,none⟩) 0 0) 0 [] rfl (qP w _ _) w.heap.size (some ad) l.length cap rows.flatten rfl (H5.out.below ((jD7 _ w).alloc (jD8 _) _)) H1.out ?a1 ?a2 ?a3 ?_)
  case a1=>unfold maxLen;omega
  case a2=>omega
  case a3=>simp
  intro v' w1 hown hg _
  (try simp only [Nat.zero_add,List.nil_append] at hown)
  refine QY ?_;intro b1 HO;clear hown hg;go_wp2;go_ret;refine ⟨_,rfl,Rd.fG (rows:=rows) (B:=w.heap.size) (e:=121) ?_ (aR.Mi H3.out) H4.out (fun g hg=>(HO.out.lt g hg).1),b1⟩;rw [jDx];exact HO.out
theorem JE (l:List Pr) (B:Nat) (v:jGk) (w:jG9) (h:Rd (·<B) w (q32 l) [v]) (hB:B<=w.heap.size) (hl:l.length<=1000000) : Calls Tryz.prog 135 #[v] w (JB w (q32 l)):=by
 obtain ⟨i0,hi,hz0,hz1,hz2⟩:=info_parts kN;obtain ⟨A,cap,rows,rfl,h1,h2,h3,h4,h5⟩:=Rd.reads h;rw [jDx] at h1 h5;have e:(l.map Pr.d).length=l.length:=jDx _;rw [e];unfold maxLen at h2;have H3:=hid h3;have H4:=hid h4;have H5:=hid (h5.more hB);have H1:=hid (Wm h3);clear h h3 h4 h5 e;cases A with
 | none=>
  have h0:l=[]:=List.length_eq_zero_iff.1 (qO H5.out);subst h0;have hq:=fun (w:jG9) (a:Option Addr) (n c:Nat)=>Lib.run_eql_slice_nil (P:=Tryz.prog) w _ _ a n c 0 0 Tryz.underlying24
  go_enter Tryz.func135,Tryz.ntmps135;exact QZ
 | some ad=>
  have hq:=fun (w:jG9) (a:Option Addr) (n c:Nat)=>Lib.run_eql_slice_nil (P:=Tryz.prog) w _ _ a n c 0 0 Tryz.underlying24
  go_enter Tryz.func135,Tryz.ntmps135;go_wp2_with (at_builtin;refine Ma _ rfl (.tmp 5) (.tmp 6) 24 rfl w.heap.size 61 i0 _ 2 32 Tryz.underlying24 hi hz0 hz1 hz2 rfl (by decide) (.slice (some ⟨w.heap.size,0,none⟩) 0 0) 0 [] rfl (qP w _ _) w.heap.size (some ad) l.length cap rows.flatten rfl (H5.out.below ((jD7 _ w).alloc (jD8 _) _)) H1.out ?a1 ?a2 ?a3 ?_)
  case a1=>unfold maxLen;omega
  case a2=>omega
  case a3=>simp
  intro v' w1 hown hg _
  (try simp only [Nat.zero_add,List.nil_append] at hown)
  refine QY ?_;intro b1 HO;clear hown hg;go_wp2;go_ret;refine ⟨_,rfl,Rd.fG (rows:=rows) (B:=w.heap.size) (e:=61) ?_ (aR.Mh H3.out) H4.out (fun g hg=>(HO.out.lt g hg).1),b1⟩;rw [jDx];exact HO.out
open Go.RowKit
def AB (p:Nat) (cs:List jGk) (w:jG9):Prop:=w.heap[p]?=some (.cells cs.toArray 45 (0,0))
section
variable {p:Nat} {cs:List jGk} {w w':jG9}
theorem AB.cell (h:AB p cs w) (j:Nat) (u:jGk) (hu:cs[j]?=some u):w.cell? ⟨p,j,none⟩=some u:=by unfold AB at h;simp [World.cell?,h,hu]
theorem AB.free (h:AB p cs w) (j:Nat):w.frozen? ⟨p,j,none⟩=false:=by unfold AB at h;simp [World.frozen?,h]
theorem AB.set (h:AB p cs w) (j:Nat) (u:jGk):AB p (cs.set j u) (w.setCell ⟨p,j,none⟩ u):=by unfold AB at h ⊢;exact Gc
theorem AB.far (h:AB p cs w) {q:Nat} (hq:p≠q) (j:Nat) (u:jGk):AB p cs (w.setCell ⟨q,j,none⟩ u):=(jE1 w ⟨q,j,none⟩ u p hq).trans h
theorem AB.lt (h:AB p cs w):p<w.heap.size:=by unfold AB at h;exact (Array.getElem?_eq_some_iff.1 h).1
theorem AB.grown (h:AB p cs w) (hg:w.grownBy w' none):AB p cs w':=(hg.block p h.lt (by simp)).trans h
end
theorem Bn (at_:At) (vc vp:jGk) (B:Nat) (w:jG9) (h:AtR (·<B) w at_ vc vp) (hB:B<=w.heap.size) (hc:at_.cls.length<=1000000) (hp:at_.aD.length<=1000000) : Calls Tryz.prog 82 #[.agg #[.string at_.id,vc,vp]] w fun e w'=>∃ Qe Qf,e=.returned (.agg #[.string at_.id,Qe,Qf])/\AtR (w.heap.size<=·) w' at_ Qe Qf/\Below w.heap.size w w':=by
 obtain ⟨ac,nc,cc,rfl⟩:=Rd.au h.cls;obtain ⟨ap,np,cp,rfl⟩:=Rd.au h.aD;have HA:=hid h;clear h;go_enter Tryz.func82,Tryz.ntmps82;go_upto_region 1 with (fail)
 obtain ⟨w0,hw0⟩:∃ w0,w0=(w.alloc (.cells #[.string at_.id,.slice ac nc cc,.slice ap np cp] 45)).alloc (.cells #[.string ⟨#[]⟩,.slice none 0 0,.slice none 0 0] 45):=⟨_,rfl⟩;have P0:AB w.heap.size [.string at_.id,.slice ac nc cc,.slice ap np cp] w0:=by rw [hw0];exact (jE2 _ _ _ (by simp)).trans (heap_alloc_new w _)
 have Q0:AB (w.heap.size+1) [.string ⟨#[]⟩,.slice none 0 0,.slice none 0 0] w0:=by rw [hw0];have:=heap_alloc_new (w.alloc (.cells #[.string at_.id,.slice ac nc cc,.slice ap np cp] 45)) (.cells #[.string ⟨#[]⟩,.slice none 0 0,.slice none 0 0] 45);rw [jE5] at this;exact this
 have b0:Below w.heap.size w w0:=by rw [hw0];exact ((jD7 _ w).alloc (jD8 _) _).alloc (by simp) _
 have hs0:w.heap.size+2<=w0.heap.size:=by rw [hw0];simp
 rw [<- hw0];clear hw0;have CS:=hid (yh at_.cls B _ w0 (HA.out.cls.below (b0.mono hB)) (jD9 hB b0.size) hc);have d1:=P0.cell 1 _ rfl;have HP0:=hid P0;have HQ0:=hid Q0;clear P0 Q0;go_wp2_with fail
 refine CS.out.mono ?_;rintro e w1 ⟨v1,rfl,hr1,b1⟩;obtain ⟨a1,n1,c1,rfl⟩:=Rd.au hr1;have P1:=HP0.out.grown (Qd b1);have Q1:=HQ0.out.grown (Qd b1);have HP1:=hid P1;have HQ1:=hid Q1;have HR1:=hid (hr1.weaken (ok':=((w.heap.size+1)<·)) (fun b hb=>by omega));have hb1:=q01 b0 b1;have hs1:w.heap.size+2<=w1.heap.size:=jD9 hs0 b1.size;have d1:=P1.cell 1 _ rfl;have f1:=P1.free 1;clear P1 Q1 HP0 HQ0 CS hr1 b0 b1 hs0;go_upto_region 2 with (fail)
 obtain ⟨w2,hw2⟩:∃ w2,w2=w1.setCell ⟨w.heap.size,1,none⟩ (.slice a1 n1 c1):=⟨_,rfl⟩;have P2:AB w.heap.size [.string at_.id,.slice a1 n1 c1,.slice ap np cp] w2:=by rw [hw2];exact HP1.out.set 1 _
 have Q2:AB (w.heap.size+1) [.string ⟨#[]⟩,.slice none 0 0,.slice none 0 0] w2:=by rw [hw2];exact HQ1.out.far (by omega) 1 _
 have R2:Hid (Rd ((w.heap.size+1)<·) w2 (jZ at_.cls) [.slice a1 n1 c1]):=by show Rd _ _ _ _;rw [hw2];exact Rd.keep (fun b hb hlt=>⟨hb,jE1 w1 ⟨w.heap.size,1,none⟩ _ b (by show b≠w.heap.size;omega)⟩) _ _ HR1.out
 have b2:Below w.heap.size w w2:=by rw [hw2];exact hb1.setCell (p:=⟨w.heap.size,1,none⟩) (jD8 _) _
 have hs2:w.heap.size+2<=w2.heap.size:=by rw [hw2];simpa [World.setCell] using hs1
 rw [<- hw2];clear hw2 HP1 HQ1 HR1 hb1 hs1 d1 f1;have CP:=hid (JE at_.aD B _ w2 (HA.out.aD.below (b2.mono hB)) (jD9 hB b2.size) hp);have d2:=P2.cell 2 _ rfl;have HP2:=hid P2;have Qg:=hid Q2;clear P2 Q2;go_wp2_with fail
 refine CP.out.mono ?_;rintro e w3 ⟨v3,rfl,hr3,b3⟩;obtain ⟨a3,n3,c3,rfl⟩:=Rd.au hr3;have P3:=HP2.out.grown (Qd b3);have Q3:=Qg.out.grown (Qd b3);have HP3:=hid (P3.set 2 (.slice a3 n3 c3));have VP:=hid (Q3.far (q:=w.heap.size) (by omega) 2 (.slice a3 n3 c3));have HR3:=hid (hr3.weaken (ok':=((w.heap.size+1)<·)) (fun b hb=>by omega));have HS3:=hid (Rd.keep (ok':=((w.heap.size+1)<·)) (fun b hb hlt=>⟨hb,b3.block b hlt⟩) _ _ R2.out);have hb3:=q01 b2 b3;have d2:=P3.cell 2 _ rfl;have f2:=P3.free 2;clear P3 Q3 HP2 Qg CP hr3 b2 b3 R2 hs2;go_upto_region 3 with (fail)
 obtain ⟨w4,hw4⟩:∃ w4,w4=w3.setCell ⟨w.heap.size,2,none⟩ (.slice a3 n3 c3):=⟨_,rfl⟩;rw [<- hw4] at HP3 VP;have K4:∀ b,w.heap.size+1<b->b<w3.heap.size->w4.heap[b]?=w3.heap[b]?:=fun b hb _=>by rw [hw4];exact jE1 w3 ⟨w.heap.size,2,none⟩ _ b (by show b≠w.heap.size;omega)
 have R4:=hid (Rd.keep (w':=w4) (ok':=((w.heap.size+1)<·)) (fun b hb hlt=>⟨hb,K4 b hb hlt⟩) _ _ HR3.out);have S4:=hid (Rd.keep (w':=w4) (ok':=((w.heap.size+1)<·)) (fun b hb hlt=>⟨hb,K4 b hb hlt⟩) _ _ HS3.out);have b4:Below w.heap.size w w4:=by rw [hw4];exact hb3.setCell (p:=⟨w.heap.size,2,none⟩) (jD8 _) _
 rw [<- hw4];clear hw4 K4 HR3 HS3 hb3 d2 f2;have q0:=HP3.out.cell 0 _ rfl;have q1:=HP3.out.cell 1 _ rfl;have q2:=HP3.out.cell 2 _ rfl;have r0:=VP.out.cell 0 _ rfl;have r1:=VP.out.cell 1 _ rfl;have r2:=VP.out.cell 2 _ rfl;have g0:=VP.out.free 0;have g1:=VP.out.free 1;have g2:=VP.out.free 2;have FB:=hid (fun u0 u1 u2=>((b4.setCell (p:=⟨w.heap.size+1,0,none⟩) (by simp) u0).setCell (p:=⟨w.heap.size+1,1,none⟩) (by simp) u1).setCell (p:=⟨w.heap.size+1,2,none⟩) (by simp) u2);have AV:∀ (d:D) (cs:List jGk),Rd ((w.heap.size+1)<·) w4 d cs->∀ u0 u1 u2,Rd (w.heap.size<=·) (((w4.setCell ⟨w.heap.size+1,0,none⟩ u0).setCell ⟨w.heap.size+1,1,none⟩ u1).setCell ⟨w.heap.size+1,2,none⟩ u2) d cs:=fun d cs hd u0 u1 u2=>
  (((hd.above (fK.set 0 u0)).above (fK.set 1 u1)).above (fK.set 2 u2)).weaken (fun b hb=>by omega)
 have HAV:=hid AV;clear AV b4;go_wp2;exact bodyPost_ret (v:=.agg #[.string at_.id,.slice a1 n1 c1,.slice a3 n3 c3]) (by simp [results,Tryz.results82,go_sem,r0,r1,r2]) rfl ⟨_,_,rfl,⟨HAV.out _ _ S4.out _ _ _,HAV.out _ _ R4.out _ _ _⟩,FB.out _ _ _⟩
open Go.RowKit
mutual
def aj.deep:aj->List aj
 | .mk k t d ti a ar ci ks=>.mk k t d ti a ar ci ks::aj.aP ks
def aj.aP:List aj->List aj
 | []=>[]
 | x::l=>x.deep++aj.aP l
end
theorem aj.uF (l m:List aj):aj.aP (l++m)=aj.aP l++aj.aP m:=by
 induction l with
 | nil=>rw [aj.aP];rfl
 | cons x l ih=>rw [List.cons_append,aj.aP,aj.aP,ih,List.append_assoc]
theorem aj.yj (l:List aj) (k:Nat) (x:aj) (h:l[k]?=some x):aj.aP (l.take (k+1))=aj.aP (l.take k)++x.deep:=by rw [List.take_add_one,h,aj.uF];simp [aj.aP]
mutual
theorem aj.Gd:∀ (x:aj),x.deep.length=x.sz
 | .mk _ _ _ _ _ _ _ ks=>by rw [aj.deep,aj.sz,List.length_cons,aj.fM ks];omega
theorem aj.fM:∀ (l:List aj),(aj.aP l).length=aj.aY l
 | []=>by rw [aj.aP,aj.aY];rfl
 | x::l=>by rw [aj.aP,aj.aY,jDq,aj.Gd x,aj.fM l]
end
def VQ (bo bi:Nat):jGk:=.func (.func 81) #[] #[.pointer (some ⟨bo,0,none⟩),.pointer (some ⟨bi,0,none⟩)]
def okO (B0 B:Nat) (vo:jGk) (p:Nat) (b:Nat):Prop:=b<B0\/(B<=b/\vo.ownBlock≠some b/\b≠p)
structure OL (B0 B bo bi p:Nat) (vo:jGk) (acc:List aj) (rows:List (List jGk)) (wr:jG9):Prop where
 bx:wr.heap[bo]?=some (.cells #[vo] 46 (0,0))
 fn:wr.heap[bi]?=some (.cells #[VQ bo bi] 116 (0,0))
 own:wr.ownsRow B 66 10 vo acc.length rows.flatten
 red:aR (okO B0 B vo p) wr (acc.map aj.d) rows
 len:∀ r∈rows,r.length=10
 Zg:B<=wr.heap.size
section
variable {B0 B bo bi p:Nat} {vo:jGk} {acc:List aj} {rows:List (List jGk)} {wr w':jG9}
theorem OL.grown (h:OL B0 B bo bi p vo acc rows wr) (hg:wr.grownBy w' none):OL B0 B bo bi p vo acc rows w':=
 ⟨(hg.block bo (Array.getElem?_eq_some_iff.1 h.bx).1 (by simp)).trans h.bx,(hg.block bi (Array.getElem?_eq_some_iff.1 h.fn).1 (by simp)).trans h.fn,h.own.kept hg (by cases vo.ownBlock<;>simp),aR.keep (fun b hb hlt=>⟨hb,hg.block b hlt (by simp)⟩) _ _ h.red,h.len,jD9 h.Zg hg.size⟩
theorem OL.set (h:OL B0 B bo bi p vo acc rows wr) (ho:bo<B) (hi:bi<B) (h0:B0<=B) (hp:B<=p) (hv:vo.ownBlock≠some p) (j:Nat) (u:jGk):OL B0 B bo bi p vo acc rows (wr.setCell ⟨p,j,none⟩ u):=
 ⟨(jE1 wr ⟨p,j,none⟩ u bo (by show bo≠p;omega)).trans h.bx,(jE1 wr ⟨p,j,none⟩ u bi (by show bi≠p;omega)).trans h.fn,Ef h.own ⟨p,j,none⟩ u hv,
  aR.keep (fun b hb hlt=>⟨hb,jE1 wr ⟨p,j,none⟩ u b (by show b≠p;rcases hb with hb | hb;omega;exact hb.2.2)⟩) _ _ h.red,h.len,by have:=h.Zg;simpa [World.setCell] using this⟩
end
def fO (bo:Nat) (vo:jGk) (w w':jG9):Prop:=w.heap.size<=w'.heap.size/\w'.os=w.os/\w'.tape=w.tape/\w'.output=w.output/\∀ b,b<w.heap.size->b≠bo->vo.ownBlock≠some b->w'.heap[b]?=w.heap[b]?
theorem fO.below {bo B0 B:Nat} {vo:jGk} {w w':jG9} (h:fO bo vo w w') (h0:B0<=bo) (h1:bo<w.heap.size) (hv:∀ g,vo.ownBlock=some g->B<=g) (hB:B0<=B):Below B0 w w':=
 ⟨h.2.1,h.2.2.1,h.2.2.2.1,h.1,fun b hb=>h.2.2.2.2 b (by omega) (by omega) (fun e=>by have:=hv b e;omega)⟩
def jy (B0 B bo bi:Nat) (vo:jGk) (w:jG9) (out:List aj) (wr:jG9):Prop:=
 ∃ vo' rows',OL B0 B bo bi bo vo' out rows' wr/\fO bo vo w wr/\(vo'.ownBlock=vo.ownBlock\/∃ g,w.heap.size<=g/\vo'.ownBlock=some g)
def Zh (B0 B bo bi:Nat) (vo:jGk) (w:jG9) (acc l:List aj) (vi:jGk) (wr:jG9):Prop:=
 ∃ k:Nat,k<=l.length/\vi=.int .i64 k/\jy B0 B bo bi vo w (acc++aj.aP (l.take k)) wr
structure IS (B0 B bo bi p:Nat) (vo:jGk) (acc:List aj) (rows:List (List jGk)) (cs:List jGk) (wr wx:jG9):Prop where
 ol:OL B0 B bo bi p vo acc rows wx
 pb:PB p cs wx
 bl:Below p wr wx
section
variable {B0 B bo bi p:Nat} {vo:jGk} {acc:List aj} {rows:List (List jGk)} {cs:List jGk} {wr wx w':jG9}
theorem IS.grown (h:IS B0 B bo bi p vo acc rows cs wr wx) (hg:wx.grownBy w' none):IS B0 B bo bi p vo acc rows cs wr w':=
 ⟨h.ol.grown hg,h.pb.grown hg,h.bl.grown hg (by have:=h.pb.lt;omega) (by simp)⟩
theorem IS.set (h:IS B0 B bo bi p vo acc rows cs wr wx) (ho:bo<B) (hi:bi<B) (h0:B0<=B) (hp:B<=p) (hv:vo.ownBlock≠some p) (j:Nat) (u:jGk):IS B0 B bo bi p vo acc rows (cs.set j u) wr (wx.setCell ⟨p,j,none⟩ u):=
 ⟨h.ol.set ho hi h0 hp hv j u,h.pb.set j u,h.bl.setCell (p:=⟨p,j,none⟩) (jD8 _) u⟩
end
theorem iD {w:jG9} {B g m cap:Nat} {e:TypeId} {xs zs:List jGk} (h:w.ownsRow B e 10 (.slice (some ⟨g,0,none⟩) (m+1) cap) (m+1) (xs++zs)) (hx:xs.length=m*10) (j:Nat) (u:jGk) (hu:zs[j]?=some u) (hj:j<10):w.cell? ⟨g,m*10+j,none⟩=some u:=by rw [h.cellAt (m*10+j) (by omega),List.getElem?_append_right (by omega),hx,<- hu];congr 1;omega
theorem Wo {w:jG9} {B g m cap k:Nat} {e:TypeId} {xs:List jGk} (h:w.ownsRow B e k (.slice (some ⟨g,0,none⟩) (m+1) cap) (m+1) xs):m+1<=cap:=by
 rcases h.2 with ⟨h1,_⟩ | ⟨g',cap',cur,h1,_,_,h2,_⟩
 ·cases h1
 ·injection h1 with _ _ h3;omega
theorem Zi{P:Prop}(h:P:=by
 rw [hg0.block bo (by show bo<(w4.alloc o).heap.size;rw [World.size_alloc];omega) (fun e=>by have:=(hv.lt bo e.symm).1;omega)];exact (Below.heap_alloc w4 o bo (by omega)).trans hbx):P:=h
theorem jk4 {w4 w5:jG9} {B bo g m n cap k:Nat} {e t:TypeId} {xs ys:List jGk} {o:Obj} {v vx:jGk} (hbx:w4.heap[bo]?=some (.cells #[vx] t (0,0))) (h:w5.ownsRow B e k (.slice (some ⟨g,0,none⟩) m cap) m xs) (hg0:(w4.alloc o).drew.grownBy w5 v.ownBlock) (hv:w4.ownsRow B e k v n ys) (Fx:bo<B) (hs:B<=w4.heap.size):w5.cell? ⟨bo,0,none⟩=some vx/\w5.frozen? ⟨bo,0,none⟩=false/\bo≠g:=by
 have h5:w5.heap[bo]?=some (.cells #[vx] t (0,0)):=by exact Zi
 refine ⟨by simp [World.cell?,h5],by simp [World.frozen?,h5],?_⟩;have:=(h.lt g rfl).1;omega
theorem jq9 {w4 w5:jG9} {p:Nat} {cs:List jGk} {o:Obj} {v:jGk} (h:PB p cs w4) (hg:(w4.alloc o).drew.grownBy w5 v.ownBlock) (hv:v.ownBlock≠some p):PB p cs w5:=by have hl:=h.lt;unfold PB at h ⊢;rw [hg.block p (by show p<(w4.alloc o).heap.size;rw [jE5];omega) (fun e=>hv e.symm)];exact (jE2 w4 o p hl).trans h
theorem VT {w:jG9} {B g m cap:Nat} {e:TypeId} {xs zs:List jGk} (h:w.ownsRow B e 10 (.slice (some ⟨g,0,none⟩) (m+1) cap) (m+1) (xs++zs)) (hx:xs.length=m*10) (j:Nat) (u:jGk) : (w.setCell ⟨g,m*10+j,none⟩ u).ownsRow B e 10 (.slice (some ⟨g,0,none⟩) (m+1) cap) (m+1) (xs++zs.set j u):=by have:=(h.stored (m*10+j) u).1;rw [List.set_append_right _ _ (by omega),hx,Nat.add_sub_cancel_left] at this;exact this
theorem Mj {B0 B bo bi p m g cap co:Nat} {ao:Option Addr} {acc:List aj} {rows:List (List jGk)} {cs:List jGk} {wr w4 w7:jG9} {x:aj} (h:IS B0 B bo bi p (.slice ao m co) acc rows cs wr w4) (hm:m=acc.length) (Fx:bo<B) (JF:bi<B) (hoi:bo≠bi) (Og:B0<=bo) (Mk:B<=p) (hvp:∀ g,(Value.slice ao m co).ownBlock=some g->g<p) (hx:Rd (fun b=>b<B0\/p<b) w4 x.d cs) (hcs:cs.length=10) (hown:w7.ownsRow B 66 10 (.slice (some ⟨g,0,none⟩) (m+1) cap) (m+1) (rows.flatten++cs)) (hbx:w7.heap[bo]?=some (.cells #[.slice (some ⟨g,0,none⟩) (m+1) cap] 46 (0,0))) (hko:fO bo (.slice ao m co) w4 w7) (hat:(Value.slice ao m co).ownBlock=some g\/w4.heap.size<=g) : jy B0 B bo bi (.slice ao m co) w4 (acc++[x]) w7:=by
 have hs:=h.ol.Zg;have hgv:∀ b,b<w4.heap.size->(Value.slice ao m co).ownBlock≠some b->(Value.slice (some ⟨g,0,none⟩) (m+1) cap).ownBlock≠some b:=by
  intro b hb hne e;have e':g=b:=by simpa [Value.ownBlock] using e
  subst e';rcases hat with h1 | h1
  ·exact hne h1
  ·omega
 have hne:∀ b,p<b->(Value.slice ao m co).ownBlock≠some b:=fun b hb e=>by have:=hvp b e;omega
 have hlo:∀ b,b<B->(Value.slice ao m co).ownBlock≠some b:=fun b hb e=>by have:=(h.ol.own.lt b e).1;omega
 refine ⟨_,rows++[cs],⟨hbx,?_,?_,?_,?_,jD9 hs hko.1⟩,hko,?_⟩
 ·exact (hko.2.2.2.2 bi (by omega) (fun e=>hoi e.symm) (hlo bi JF)).trans h.ol.fn
 ·rw [jDq,List.length_singleton,<- hm,List.flatten_append,List.flatten_singleton];exact hown
 ·rw [List.map_append];refine aR.app (aR.keep (fun b hb hlt=>?_) _ _ h.ol.red) (aR.one ?_)
  ·rcases hb with hb | hb
   ·exact ⟨.inl hb,hko.2.2.2.2 b hlt (by omega) (hlo b (by omega))⟩
   ·exact ⟨.inr ⟨hb.1,hgv b hlt hb.2.1,by omega⟩,hko.2.2.2.2 b hlt (by omega) hb.2.1⟩
  ·refine Rd.keep (fun b hb hlt=>?_) _ _ hx;rcases hb with hb | hb
   ·exact ⟨.inl hb,hko.2.2.2.2 b hlt (by omega) (hlo b (by omega))⟩
   ·exact ⟨.inr ⟨by omega,hgv b hlt (hne b hb),by omega⟩,hko.2.2.2.2 b hlt (by omega) (hne b hb)⟩
 ·intro r hr;rw [List.mem_append,List.mem_singleton] at hr;rcases hr with hr | rfl
  ·exact h.ol.len r hr
  ·exact hcs
 ·rcases hat with h1 | h1
  ·exact .inl (by rw [h1];rfl)
  ·exact .inr ⟨g,h1,rfl⟩
def ten (w:jG9) (g o:Nat) (c0 c1 c2 c3 c4 c5 c6 c7 c8 c9:jGk):jG9:=((((((((((w.setCell ⟨g,o,none⟩ c0).setCell ⟨g,o+1,none⟩ c1).setCell ⟨g,o+2,none⟩ c2).setCell ⟨g,o+3,none⟩ c3).setCell ⟨g,o+4,none⟩ c4).setCell ⟨g,o+5,none⟩ c5).setCell ⟨g,o+6,none⟩ c6).setCell ⟨g,o+7,none⟩ c7).setCell ⟨g,o+8,none⟩ c8).setCell ⟨g,o+9,none⟩ c9)
theorem Ml {w:jG9} {B g m cap:Nat} {e:TypeId} {xs zs:List jGk} (h:w.ownsRow B e 10 (.slice (some ⟨g,0,none⟩) (m+1) cap) (m+1) (xs++zs)) (hx:xs.length=m*10) (hz:zs.length=10) (c0 c1 c2 c3 c4 c5 c6 c7 c8 c9:jGk) : (ten w g (m*10) c0 c1 c2 c3 c4 c5 c6 c7 c8 c9).ownsRow B e 10 (.slice (some ⟨g,0,none⟩) (m+1) cap) (m+1) (xs++[c0,c1,c2,c3,c4,c5,c6,c7,c8,c9]):=by
 obtain ⟨z0,z1,z2,z3,z4,z5,z6,z7,z8,z9,rfl⟩:∃ z0 z1 z2 z3 z4 z5 z6 z7 z8 z9,zs=[z0,z1,z2,z3,z4,z5,z6,z7,z8,z9]:=by
  match zs,hz with
  | [z0,z1,z2,z3,z4,z5,z6,z7,z8,z9],_=>exact ⟨_,_,_,_,_,_,_,_,_,_,rfl⟩
 have h:=VT h hx 0 c0;have h:=VT h hx 1 c1;have h:=VT h hx 2 c2;have h:=VT h hx 3 c3;have h:=VT h hx 4 c4;have h:=VT h hx 5 c5;have h:=VT h hx 6 c6;have h:=VT h hx 7 c7;have h:=VT h hx 8 c8;have h:=VT h hx 9 c9;exact h
theorem Gf (w:jG9) (g o:Nat) (c0 c1 c2 c3 c4 c5 c6 c7 c8 c9:jGk) (b:Nat) (hb:b≠g):(ten w g o c0 c1 c2 c3 c4 c5 c6 c7 c8 c9).heap[b]?=w.heap[b]?:=by
 unfold ten
 iterate 10 rw [jE1 _ _ _ b hb]
theorem fO.set {bo:Nat} {vo:jGk} {w w':jG9} (h:fO bo vo w w') (b j:Nat) (u:jGk) (hb:b=bo\/vo.ownBlock=some b\/w.heap.size<=b):fO bo vo w (w'.setCell ⟨b,j,none⟩ u):=by refine ⟨by have:=h.1;simpa [World.setCell] using this,h.2.1,h.2.2.1,h.2.2.2.1,fun c hc hne JG=>?_⟩;rw [jE1 w' ⟨b,j,none⟩ u c (by show c≠b;rintro rfl;rcases hb with hb | hb | hb;exact hne hb;exact JG hb;omega)];exact h.2.2.2.2 c hc hne JG
theorem fO.ten {bo:Nat} {vo:jGk} {w w':jG9} (h:fO bo vo w w') (b o:Nat) (hb:b=bo\/vo.ownBlock=some b\/w.heap.size<=b) (c0 c1 c2 c3 c4 c5 c6 c7 c8 c9:jGk):fO bo vo w (ten w' b o c0 c1 c2 c3 c4 c5 c6 c7 c8 c9):=
 ((((((((((h.set b _ _ hb).set b _ _ hb).set b _ _ hb).set b _ _ hb).set b _ _ hb).set b _ _ hb).set b _ _ hb).set b _ _ hb).set b _ _ hb).set b _ _ hb)
theorem fO.app {bo:Nat} {vo:jGk} {w w5:jG9} {o:Obj} (hg:(w.alloc o).drew.grownBy w5 vo.ownBlock):fO bo vo w w5:=by refine ⟨jD9 (by show _<=(w.alloc o).heap.size;rw [jE5];omega) hg.size,hg.os,hg.tape,hg.output,fun c hc hne JG=>?_⟩;rw [hg.block c (by show c<(w.alloc o).heap.size;rw [jE5];omega) (fun e=>JG e.symm)];exact jE2 w o c hc
theorem Eh {w:jG9} {bo:Nat} {v u:jGk} {t:TypeId} (h:w.heap[bo]?=some (.cells #[v] t (0,0))):(w.setCell ⟨bo,0,none⟩ u).heap[bo]?=some (.cells #[u] t (0,0)):=by exact Gc
theorem Wp {w4 w5:jG9} {B bo n k:Nat} {e t:TypeId} {ys:List jGk} {o:Obj} {v vx:jGk} (hbx:w4.heap[bo]?=some (.cells #[vx] t (0,0))) (hg0:(w4.alloc o).drew.grownBy w5 v.ownBlock) (hv:w4.ownsRow B e k v n ys) (Fx:bo<B) (hs:B<=w4.heap.size):w5.heap[bo]?=some (.cells #[vx] t (0,0)):=by exact Zi
theorem Q5 {B0 B bo bi p m g cap co:Nat} {ao:Option Addr} {acc:List aj} {rows:List (List jGk)} {wr w4 w5:jG9} {x:aj} {o:Obj} {zs:List jGk} {c0 c1 c2 c3 c4 c5 c6 c7 c8 c9:jGk} (h:IS B0 B bo bi p (.slice ao m co) acc rows [c0,c1,c2,c3,c4,c5,c6,c7,c8,c9] wr w4) (hm:m=acc.length) (Fx:bo<B) (JF:bi<B) (hoi:bo≠bi) (Og:B0<=bo) (Mk:B<=p) (hvp:∀ g,(Value.slice ao m co).ownBlock=some g->g<p) (hx:Rd (fun b=>b<B0\/p<b) w4 x.d [c0,c1,c2,c3,c4,c5,c6,c7,c8,c9]) (hown:w5.ownsRow B 66 10 (.slice (some ⟨g,0,none⟩) (m+1) cap) (m+1) (rows.flatten++zs)) (hz:zs.length=10) (hrl:rows.flatten.length=m*10) (hg:(w4.alloc o).drew.grownBy w5 (Value.slice ao m co).ownBlock) (hat:(Value.slice ao m co).ownBlock=some g\/w4.heap.size<=g) : jy B0 B bo bi (.slice ao m co) w4 (acc++[x]) ((ten w5 g (m*10) c0 c1 c2 c3 c4 c5 c6 c7 c8 c9).setCell ⟨bo,0,none⟩ (.slice (some ⟨g,0,none⟩) (m+1) cap)) /\ jy B0 B bo bi (.slice ao m co) w4 (acc++[x]) (ten (w5.setCell ⟨bo,0,none⟩ (.slice (some ⟨g,0,none⟩) (m+1) cap)) g (m*10) c0 c1 c2 c3 c4 c5 c6 c7 c8 c9):=by
 have hgb:bo≠g:=by have:=(hown.lt g rfl).1;omega
 have jqj:w5.heap[bo]?=some (.cells #[.slice ao m co] 46 (0,0)):=Wp h.ol.bx hg h.ol.own Fx h.ol.Zg;have hne:(Value.slice (some ⟨g,0,none⟩) (m+1) cap).ownBlock≠some bo:=by
  intro e;have e':g=bo:=by simpa [Value.ownBlock] using e
  exact hgb e'.symm
 have hk:fO bo (.slice ao m co) w4 w5:=fO.app hg;constructor
 ·refine Mj h hm Fx JF hoi Og Mk hvp hx rfl (Ef (Ml hown hrl hz c0 c1 c2 c3 c4 c5 c6 c7 c8 c9) ⟨bo,0,none⟩ _ hne) ?_ ((hk.ten g _ (.inr hat) c0 c1 c2 c3 c4 c5 c6 c7 c8 c9).set bo 0 _ (.inl rfl)) hat;exact Eh ((Gf w5 g _ c0 c1 c2 c3 c4 c5 c6 c7 c8 c9 bo hgb).trans jqj)
 ·refine Mj h hm Fx JF hoi Og Mk hvp hx rfl (Ml (Ef hown ⟨bo,0,none⟩ _ hne) hrl hz c0 c1 c2 c3 c4 c5 c6 c7 c8 c9) ?_ ((hk.set bo 0 _ (.inl rfl)).ten g _ (.inr hat) c0 c1 c2 c3 c4 c5 c6 c7 c8 c9) hat;exact (Gf _ g _ c0 c1 c2 c3 c4 c5 c6 c7 c8 c9 bo hgb).trans (Eh jqj)
theorem aj.Ei (l:List aj) (k:Nat) (x:aj) (h:l[k]?=some x):aj.aY (l.take k)+x.sz<=aj.aY l:=by
 have e:aj.aP l=aj.aP (l.take (k+1))++aj.aP (l.drop (k+1)):=by rw [<- aj.uF,List.take_append_drop]
 have e2:=congrArg List.length e;rw [aj.yj l k x h] at e2;simp only [jDq,aj.fM,aj.Gd] at e2;omega
theorem jy.trans {B0 B bo bi:Nat} {vo JH:jGk} {w w1:jG9} {wr:jG9} {out:List aj} (hk:fO bo vo w w1) (hor:JH.ownBlock=vo.ownBlock\/∃ g,w.heap.size<=g/\JH.ownBlock=some g) (h2:jy B0 B bo bi JH w1 out wr):jy B0 B bo bi vo w out wr:=by
 obtain ⟨vo2,aZ,hol,hk2,hor2⟩:=h2;refine ⟨vo2,aZ,hol,⟨jD9 hk.1 hk2.1,hk2.2.1.trans hk.2.1,hk2.2.2.1.trans hk.2.2.1,hk2.2.2.2.1.trans hk.2.2.2.1,fun b hb hne JG=>?_⟩,?_⟩
 ·refine (hk2.2.2.2.2 b (Nat.lt_of_lt_of_le hb hk.1) hne ?_).trans (hk.2.2.2.2 b hb hne JG);rcases hor with e | ⟨g,hg,e⟩
  ·rw [e];exact JG
  ·rw [e];intro h;have:=jE0 h;omega
 ·rcases hor2 with e | ⟨g,hg,e⟩
  ·rw [e];exact hor
  ·exact .inr ⟨g,jD9 hk.1 hg,e⟩
theorem OL.drew {B0 B bo bi p:Nat} {vo:jGk} {acc:List aj} {rows:List (List jGk)} {wr:jG9} (h:OL B0 B bo bi p vo acc rows wr):OL B0 B bo bi p vo acc rows wr.drew:=h.grown (JI ⟨rfl,rfl,rfl,jD8 _,fun _ _ _=>rfl⟩)
theorem fO.drew {bo:Nat} {vo:jGk} {w w':jG9} (h:fO bo vo w w'):fO bo vo w w'.drew:=⟨h.1,h.2.1,h.2.2.1,h.2.2.2.1,h.2.2.2.2⟩
open Go.RowKit
structure aF (T:TypeId) (k:Nat) (ok:Nat->Prop) (U:Nat) (w0:jG9) (ds:List D) (rows:List (List jGk)) (v:jGk) (w:jG9):Prop where
 own:w.ownsRow w0.heap.size T k v ds.length rows.flatten
 red:aR (fun b=>(ok b\/w0.heap.size<=b)/\v.ownBlock≠some b/\b<U) w ds rows
 len:∀ r∈rows,r.length=k
 aM:Below w0.heap.size w0 w
 oU:∀ g,v.ownBlock=some g->g<U
 Gg:w0.heap.size<=U
 JJ:U<=w.heap.size
section
variable {T:TypeId} {k U:Nat} {ok:Nat->Prop} {w0 w w':jG9} {ds es:List D} {rows aZ:List (List jGk)} {v v':jGk}
theorem aF.nil (T:TypeId) (k:Nat) (ok:Nat->Prop) (w0:jG9):aF T k ok w0.heap.size w0 [] [] (.slice none 0 0) w0:=
 ⟨⟨by simp,.inl ⟨rfl,rfl⟩⟩,aR.none,by simp,jD7 _ _,by simp [Value.ownBlock],jD8 _,jD8 _⟩
theorem aF.up (h:aF T k ok U w0 ds rows v w) {U':Nat} (h1:U<=U') (h2:U'<=w.heap.size):aF T k ok U' w0 ds rows v w:=
 ⟨h.own,aR.keep (fun b hb _=>⟨⟨hb.1,hb.2.1,by omega⟩,rfl⟩) _ _ h.red,h.len,h.aM,fun g hg=>Nat.lt_of_lt_of_le (h.oU g hg) h1,jD9 h.Gg h1,h2⟩
theorem aF.top (h:aF T k ok U w0 ds rows v w):aF T k ok w.heap.size w0 ds rows v w:=h.up h.JJ (jD8 _)
theorem aF.grown (h:aF T k ok U w0 ds rows v w) (hg:w.grownBy w' none):aF T k ok U w0 ds rows v w':=
 ⟨h.own.kept hg (by cases v.ownBlock<;>simp),aR.keep (fun b hb hlt=>⟨hb,hg.block b hlt (by simp)⟩) _ _ h.red,h.len,h.aM.grown hg h.aM.size (by simp),h.oU,h.Gg,jD9 h.JJ hg.size⟩
theorem aF.below (h:aF T k ok U w0 ds rows v w) (hb:Below w.heap.size w w'):aF T k ok U w0 ds rows v w':=h.grown (Qd hb)
theorem aF.drew (h:aF T k ok U w0 ds rows v w):aF T k ok U w0 ds rows v w.drew:=h.grown ⟨rfl,rfl,rfl,jD8 _,fun _ _ _=>rfl⟩
theorem aF.same (h:aF T k ok U w0 ds rows v w) (hs:w.heap.size<=w'.heap.size) (hos:w'.os=w.os/\w'.tape=w.tape/\w'.output=w.output) (hb:∀ b,b<U->w'.heap[b]?=w.heap[b]?):aF T k ok U w0 ds rows v w':=by
 have hl:=h.JJ;have hl0:=h.Gg;refine ⟨?_,aR.keep (fun b hb' hlt=>⟨hb',hb b hb'.2.2⟩) _ _ h.red,h.len,⟨hos.1.trans h.aM.os,hos.2.1.trans h.aM.tape,hos.2.2.trans h.aM.output,jD9 h.aM.size hs,fun b hlt=>(hb b (by omega)).trans (h.aM.block b hlt)⟩,h.oU,h.Gg,jD9 hl hs⟩;obtain ⟨h1,h2⟩:=h.own;refine ⟨h1,?_⟩;rcases h2 with h2 | ⟨g,cap,cur,rfl,r2,r3,r4⟩
 ·exact .inl h2
 ·exact .inr ⟨g,cap,cur,rfl,r2,(hb g (h.oU g rfl)).trans r3,r4⟩
theorem aF.slice (h:aF T k ok U w0 ds rows v w):∃ a c,v=.slice a ds.length c:=kW h.own
theorem aF.cap (h:aF T k ok U w0 ds rows v w) {n:Nat} (hn:ds.length=n):∃ a c,v=.slice a n c/\n<=c/\c<=maxLen:=by
 subst hn;rcases h.own.2 with ⟨h1,h2⟩ | ⟨g,cap,cur,h1,_,_,h2,h3,_⟩
 ·exact ⟨none,0,by rw [h1,h2],by omega,Nat.zero_le _⟩
 ·exact ⟨_,cap,h1,h2,h3⟩
theorem aF.put {w1:jG9} (h:aF T k ok U w0 ds rows v w) (hB:∀ b,ok b->b<w0.heap.size) (hes:aR (fun b=>ok b\/U<=b) w1 es aZ) (hl2:∀ r∈aZ,r.length=k) (hw1:w.grownBy w1 none) (hown:w'.ownsRow w0.heap.size T k v' (ds.length+es.length) (rows.flatten++aZ.flatten)) (hg:w1.grownBy w' v.ownBlock) (hat:v'.ownBlock=v.ownBlock\/v'.ownBlock=some w1.heap.size) : aF T k ok w'.heap.size w0 (ds++es) (rows++aZ) v' w':=by
 have hs:=hg.size;have hs1:=hw1.size;have h0:=h.Gg;have h1:=h.JJ;have hV:∀ g,v.ownBlock=some g->w0.heap.size<=g/\g<U:=fun g e=>⟨(h.own.lt g e).1,h.oU g e⟩
 have hv':∀ b,b<w1.heap.size->v.ownBlock≠some b->v'.ownBlock≠some b:=by
  intro b hb hne;rcases hat with e | e
  ·rw [e];exact hne
  ·rw [e];intro h;have:=jE0 h;omega
 have hh:∀ b,b<w.heap.size->v.ownBlock≠some b->w'.heap[b]?=w.heap[b]?:=fun b hb hne=>
  (hg.block b (by omega) (fun e=>hne e.symm)).trans (hw1.block b hb (by simp))
 refine ⟨by rw [jDq,List.flatten_append];exact hown,?_,?_,?_,fun g e=>(hown.lt g e).2,by omega,jD8 _⟩
 ·refine aR.app (aR.keep (fun b hb hlt=>⟨⟨hb.1,hv' b (by omega) hb.2.1,by omega⟩,hh b hlt hb.2.1⟩) _ _ h.red) (aR.keep (fun b hb hlt=>?_) _ _ hes);have hne:v.ownBlock≠some b:=fun e=>by
   have:=hV b e;rcases hb with hb | hb
   ·have:=hB b hb;omega
   ·omega
  exact ⟨⟨hb.imp id (fun h=>by omega),hv' b hlt hne,by omega⟩,hg.block b hlt (fun e=>hne e.symm)⟩
 ·intro r hr;rcases List.mem_append.1 hr with hr | hr
  ·exact h.len r hr
  ·exact hl2 r hr
 ·refine (h.aM.grown hw1 h.aM.size (by simp)).grown hg (by have:=h.aM.size;omega) (fun g e=>(hV g e).1)
theorem aF.rd (h:aF T k ok U w0 ds rows v w):Rd (fun b=>ok b\/w0.heap.size<=b) w (.sl k ds) [v]:=
 Rd.fG h.own (aR.keep (fun b hb _=>⟨hb.1,rfl⟩) _ _ h.red) h.len (fun g hg=>.inr (h.own.lt g hg).1)
theorem aF.bZ (h:aF T k (fun _=>False) U w0 ds rows v w):Rd (w0.heap.size<=·) w (.sl k ds) [v]:=h.rd.weaken (fun b hb=>hb.elim False.elim id)
theorem Rd.JK {ok:Nat->Prop} {l:List D} (h:Rd ok w (.sl k l) [v]):∃ A cap rows,v=.slice A l.length cap/\l.length<=cap/\cap<=maxLen/\aR ok w l rows/\(∀ r∈rows,r.length=k)/\Reads w w.heap.size k A l.length rows.flatten:=by
 unfold Rd at h;obtain ⟨a,cap,rows,h1,h2,h3,h4,h5,h6⟩:=h;refine ⟨a,cap,rows,by simpa using h1,h2,h3,h4,h5,?_,fun hp=>?_⟩
 ·rw [kZ k rows h5,h4.len]
 ·rcases h6 with h6 | ⟨b,off,h7,h8,hb,h9⟩
  ·omega
  ·refine ⟨⟨b,off,none⟩,h7,hb,fun j u hu=>?_⟩;exact YT
theorem Rd.bC {ok:Nat->Prop} {d:D} {cs:List jGk} (h:Rd ok w d cs) (hb:Below w.heap.size w w'):Rd ok w' d cs:=Rd.keep (fun b h1 h2=>⟨h1,hb.block b h2⟩) _ _ h
theorem Rd.inside {ok:Nat->Prop} {d:D} {cs:List jGk} (h:Rd ok w d cs):Rd (fun b=>ok b/\b<w.heap.size) w d cs:=Rd.keep (fun b h1 h2=>⟨⟨h1,h2⟩,rfl⟩) _ _ h
theorem Oh {n:Nat} {ops:Array Oper} {rest:List Oper} {o:Oper} {a:Act} {Q:Exit->Act->jG9->Prop} (hgd:o.guard=none) (s x:Operand) (t:TypeId) (ho:o.op=.call { callee:=.builtin .append,args:=#[s,x],argTypes:=#[t,t] }) (i:TypeInfo) (z:jGk) (bytes:Nat) (ht:Tryz.prog.underlying t=some (.slice T)) (hi:Tryz.prog.info? T=some i) (hz:i.zero=some z) (hsize:i.size=k) (hby:i.bytes=bytes) (hzs:z.cells.size=k) (hsz:0<k) (h:aF T k ok U w0 ds rows v w) (hB:∀ b,ok b->b<w0.heap.size) (d:D) (r:List jGk) (hx:Rd (fun b=>ok b\/U<=b) w d r) (hr:r.length=k) (h1:∀ u∈r,u.oneCell'=true) (hdn:ds.length=n) (hn:n<=10000000) (nQ:bytes<=1000) (hs:a.eval s=v) (hxe:a.eval x=.slice (some ⟨w.heap.size,0,none⟩) 1 1) (hK:∀ a' c' w',aF T k ok w'.heap.size w0 (ds++[d]) (rows++[r]) (.slice a' (n+1) c') w'->(w.alloc (.cells r.toArray T)).grownBy w' v.ownBlock->wpList Tryz.prog ops Q rest (a.put o.dst (.slice a' (n+1) c')) w') : wpList Tryz.prog ops Q (o::rest) a (w.alloc (.cells r.toArray T)):=by subst hdn;have hmul:(ds.length+1)*bytes<=140737488355328:=jD9 (Nat.mul_le_mul (show ds.length+1<=10000001 by omega) nQ) (by omega);refine wpList_append_own_at _ hgd s x t ho w0.heap.size T i z k bytes ht hi hz hsize hby hzs hsz v ds.length rows.flatten hs (h.own.alloc _) ⟨w.heap.size,0,none⟩ 1 1 r hxe (by omega) (Gh w r T) h1 (by unfold maxLen;omega) hmul (by have:=h.aM.size;simp;omega) ?_;intro v' w' hown hg _ hat;obtain ⟨a',c',rfl⟩:=kW hown;refine hK a' c' w' ?_ hg;refine h.put hB (aZ:=[r]) (es:=[d]) (aR.one (Rd.keep (fun b hb hlt=>⟨hb,jE2 w _ b hlt⟩) _ _ hx)) (by simp [hr]) (World.grownBy_alloc w _ none) (by simpa using hown) hg hat
theorem Zj{P:Prop}(h:P:=by
 intro v' w' hown hg hat;obtain ⟨a',c',rfl⟩:=kW hown;exact hK a' c' _ w' (h.put hB h4 h5 (World.grownBy.refl w none) hown hg hat) hg):P:=h
theorem iK {n m:Nat} {ops:Array Oper} {rest:List Oper} {o:Oper} {a:Act} {Q:Exit->Act->jG9->Prop} (hgd:o.guard=none) (s x:Operand) (t:TypeId) (ho:o.op=.call { callee:=.builtin .append,args:=#[s,x],argTypes:=#[t,t] }) (i:TypeInfo) (z:jGk) (bytes:Nat) (ht:Tryz.prog.underlying t=some (.slice T)) (hi:Tryz.prog.info? T=some i) (hz:i.zero=some z) (hsize:i.size=k) (hby:i.bytes=bytes) (hzs:z.cells.size=k) (hsz:0<k) (h:aF T k ok U w0 ds rows v w) (hB:∀ b,ok b->b<w0.heap.size) (vx:jGk) (hx:Rd (fun b=>ok b\/U<=b) w (.sl k es) [vx]) (h1:∀ (rs:List (List jGk)) (ok':Nat->Prop),aR ok' w es rs->∀ u∈rs.flatten,u.oneCell'=true) (hdn:ds.length=n) (hem:es.length=m) (hn:n+m<=10000000) (nQ:bytes<=1000) (hs:a.eval s=v) (hxe:a.eval x=vx) (hK:∀ a' c' rows' w',aF T k ok w'.heap.size w0 (ds++es) rows' (.slice a' (n+m) c') w'->w.grownBy w' v.ownBlock->wpList Tryz.prog ops Q rest (a.put o.dst (.slice a' (n+m) c')) w') : wpList Tryz.prog ops Q (o::rest) a w:=by subst hdn hem;obtain ⟨A,c,rs,rfl,h2,h3,h4,h5,h6⟩:=Rd.JK hx;have hmul:(ds.length+es.length)*bytes<=140737488355328:=jD9 (Nat.mul_le_mul hn nQ) (by omega);refine Ma _ hgd s x t ho w0.heap.size T i z k bytes ht hi hz hsize hby hzs hsz v ds.length rows.flatten hs h.own w.heap.size A es.length c rs.flatten hxe h6 (h1 rs _ h4) (by unfold maxLen;omega) hmul (by have:=h.aM.size;omega) ?_;exact Zj
theorem Zk{P Q:Prop}(q:Q)(h:Nonempty Q->P:=by
 intro qQ;have hmul:(ds.length+1)*bytes<=140737488355328:=Nat.le_trans (Nat.mul_le_mul (show ds.length+1<=10000001 by omega) nQ) (by omega);refine step_append_lies _ hgd s x t ho w0.heap.size T i z k bytes ht hi hz hsize hby hzs hsz v ds.length rows.flatten hs (h.own.alloc _) ⟨w.heap.size,0,none⟩ 1 1 r hxe (by omega) (Gh w r T) h1 (by omega) (by unfold maxLen;omega) hmul (by have:=h.aM.size;simp;omega) (w.heap.size+1) (by simp) ?_;revert hmul;exact qQ.elim fun x=>x):P:=h ⟨q⟩
theorem Zl{P:Prop}(h:P:=by
 refine h.put hB (aZ:=[r]) (es:=[d]) (aR.one (Rd.keep (fun b hb hlt=>⟨hb,Below.heap_alloc w _ b hlt⟩) _ _ hx)) (by simp [hr]) (World.grownBy_alloc w _ none) (by simpa using hown) hg (hat.elim (fun e=>.inl (by rw [e];rfl)) (fun e=>.inr (by rw [e];simp [Value.ownBlock])))):P:=h
theorem lq {n:Nat} {ops:Array Oper} {o:Oper} {a:Act} {K:Act->jG9->Prop} {Q:Exit->Act->jG9->Prop} {E:Prop} (hgd:o.guard=none) (s x:Operand) (t:TypeId) (ho:o.op=.call { callee:=.builtin .append,args:=#[s,x],argTypes:=#[t,t] }) (i:TypeInfo) (z:jGk) (bytes:Nat) (ht:Tryz.prog.underlying t=some (.slice T)) (hi:Tryz.prog.info? T=some i) (hz:i.zero=some z) (hsize:i.size=k) (hby:i.bytes=bytes) (hzs:z.cells.size=k) (hsz:0<k) (h:aF T k ok U w0 ds rows v w) (hB:∀ b,ok b->b<w0.heap.size) (d:D) (r:List jGk) (hx:Rd (fun b=>ok b\/U<=b) w d r) (hr:r.length=k) (h1:∀ u∈r,u.oneCell'=true) (hdn:ds.length=n) (hn:n<=10000000) (nQ:bytes<=1000) (hs:a.eval s=v) (hxe:a.eval x=.slice (some ⟨w.heap.size,0,none⟩) 1 1) (hK:∀ a' c' w',aF T k ok w'.heap.size w0 (ds++[d]) (rows++[r]) (.slice a' (n+1) c') w'->(w.alloc (.cells r.toArray T)).grownBy w' v.ownBlock->K (a.put o.dst (.slice a' (n+1) c')) w') : if Region.wanted o (yielded ops a.tmps)=true then Oper.wp Tryz.prog o a (w.alloc (.cells r.toArray T)) K Q else E:=by subst hdn;refine Zk ?_;intro hmul;intro g cap w' hown hg hat _;refine hK _ _ w' ?_ hg;exact Zl
theorem Zm{P Q:Prop}(q:Q)(h:Nonempty Q->P:=by
 intro qQ;have hmul:(ds.length+es.length)*bytes<=140737488355328:=jD9 (Nat.mul_le_mul hn nQ) (by omega);refine wE _ hgd s x t ho w0.heap.size T i z k bytes ht hi hz hsize hby hzs hsz v ds.length rows.flatten hs h.own w.heap.size A es.length c rs.flatten hxe h6 (h1 rs _ h4) (by unfold maxLen;omega) hmul (by have:=h.aM.size;omega) ?_;revert hmul;exact qQ.elim fun x=>x):P:=h ⟨q⟩
theorem Cj {n m:Nat} {ops:Array Oper} {o:Oper} {a:Act} {K:Act->jG9->Prop} {Q:Exit->Act->jG9->Prop} {E:Prop} (hgd:o.guard=none) (s x:Operand) (t:TypeId) (ho:o.op=.call { callee:=.builtin .append,args:=#[s,x],argTypes:=#[t,t] }) (i:TypeInfo) (z:jGk) (bytes:Nat) (ht:Tryz.prog.underlying t=some (.slice T)) (hi:Tryz.prog.info? T=some i) (hz:i.zero=some z) (hsize:i.size=k) (hby:i.bytes=bytes) (hzs:z.cells.size=k) (hsz:0<k) (h:aF T k ok U w0 ds rows v w) (hB:∀ b,ok b->b<w0.heap.size) (vx:jGk) (hx:Rd (fun b=>ok b\/U<=b) w (.sl k es) [vx]) (h1:∀ (rs:List (List jGk)) (ok':Nat->Prop),aR ok' w es rs->∀ u∈rs.flatten,u.oneCell'=true) (hdn:ds.length=n) (hem:es.length=m) (hn:n+m<=10000000) (nQ:bytes<=1000) (hs:a.eval s=v) (hxe:a.eval x=vx) (hK:∀ a' c' rows' w',aF T k ok w'.heap.size w0 (ds++es) rows' (.slice a' (n+m) c') w'->w.grownBy w' v.ownBlock->K (a.put o.dst (.slice a' (n+m) c')) w') : if Region.wanted o (yielded ops a.tmps)=true then Oper.wp Tryz.prog o a w K Q else E:=by subst hdn hem;obtain ⟨A,c,rs,rfl,h2,h3,h4,h5,h6⟩:=Rd.JK hx;refine Zm ?_;intro hmul;exact Zj
def JL (n:Nat) (w:jG9):jG9:={ w with heap:=w.heap.extract 0 n }
theorem jl {n:Nat} {w:jG9} (h:n<=w.heap.size):(JL n w).heap.size=n:=by show (w.heap.extract 0 n).size=n;rw [Array.size_extract];omega
theorem Q6 {n:Nat} {w:jG9} (h:n<=w.heap.size) {b:Nat} (hb:b<n):(JL n w).heap[b]?=w.heap[b]?:=by show (w.heap.extract 0 n)[b]?=w.heap[b]?;rw [Array.getElem?_extract];simp;omega
theorem qR {n:Nat} {w:jG9} (h:n<=w.heap.size):Below n (JL n w) w:=
 ⟨rfl,rfl,rfl,by rw [jl h];exact h,fun b hb=>(Q6 h hb).symm⟩
theorem aF.base (h:aF T k (fun _=>False) U w0 ds rows v w):aF T k (fun _=>False) U (JL w0.heap.size w) ds rows v w:=by have hz:=jl (w:=w) h.aM.size;have hb:=qR (w:=w) h.aM.size;exact ⟨by rw [hz];exact h.own,by rw [hz];exact h.red,h.len,by rw [hz];exact hb,h.oU,by rw [hz];exact h.Gg,h.JJ⟩
theorem aF.hop {p n0:Nat} (h:aF T k (fun _=>False) U (JL n0 w) ds rows v w) (hn:n0<=w.heap.size) (hp:p<n0) (hg:w.grownBy w' (some p)):aF T k (fun _=>False) U (JL n0 w') ds rows v w':=by
 have hz:=jl (w:=w) hn;have hn':n0<=w'.heap.size:=jD9 hn hg.size;have hz':=jl (w:=w') hn';have h0:=h.own;have h1:=h.red;have h2:=h.Gg;rw [hz] at h0 h1 h2;refine ⟨?_,?_,h.len,?_,h.oU,by rw [hz'];exact h2,jD9 h.JJ hg.size⟩
 ·rw [hz'];exact h0.kept hg (.inr (fun e=>by have:=(h0.lt p e).1;omega))
 ·rw [hz'];exact aR.keep (fun b hb hlt=>⟨hb,hg.block b hlt (fun e=>by have e1:=jE0 e;rcases hb.1 with h3 | h3;exact h3.elim;omega)⟩) _ _ h1
 ·rw [hz'];exact qR hn'
theorem aF.hop2 {p:Nat} (h:aF T k (fun _=>False) U w0 ds rows v w) (hp:p<w0.heap.size) (hg:w.grownBy w' (some p)):∃ w0',w0'.heap.size=w0.heap.size/\aF T k (fun _=>False) U w0' ds rows v w':=
 ⟨_,jl (jD9 h.aM.size hg.size),h.base.hop h.aM.size hp hg⟩
end
open Go.RowKit
open Go.RowKit
open Go.RowKit
end Go.Proofs.YtkfnkeflalcphaaGreatDoor

