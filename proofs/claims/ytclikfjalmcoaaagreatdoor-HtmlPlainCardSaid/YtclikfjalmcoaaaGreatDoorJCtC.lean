/- Plain part: different anchors for texts: the first free number. Maps of the call's own with texts as keys: a set (bool elements). Words for copies of inlines and blocks: what is not too long; blocks that are known whole. Plain laws on anchors: how long they are; what is used when the k-th one is looked for. The contract of slug.Of. Contracts of slug.copyAttr and slug.copyLine. The anchors that are left, in the box that slug.Anchors$1 takes them out of; which blocks get them. The contract of count.copyLine. -/
import Derived.Test.YtclikfjalmcoaaaGreatDoorJAppend
import Derived.Test.YtclikfjalmcoaaaGreatDoorJRFoldR
import Derived.Deep.RegionHeld3
namespace Go.Proofs.YtclikfjalmcoaaaGreatDoor
open Go renaming World->jf9,Value->jfk
def hasB (T:List ByteArray) (x:ByteArray):Bool:=T.any fun y=>decide (y=x)
theorem BU (T:List ByteArray) (x:ByteArray):hasB T x=true↔x∈T:=by
 unfold hasB;rw [List.any_eq_true];constructor
 ·rintro ⟨y,hy,h⟩;rw [<- of_decide_eq_true h];exact hy
 ·intro h;exact ⟨x,h,decide_eq_true rfl⟩
open Go.RowKit Go.Maps
set_option linter.unusedVariables false
set_option linter.unusedSimpArgs false
theorem TV:Keyed Tryz.prog 9:=string_keyed Tryz.underlying9
theorem TW (w:jf9):(zeroValue 4).run Tryz.prog w=.ok (.bool false) w:=by kernel_rfl
def En (s:ByteArray):Lit:=.string s.data.toList
theorem Gf (s:ByteArray) (hs:s.size<=maxLen):keyOf Tryz.prog 9 (.string s)=some (En s):=WideMaps.keyOf_string_mk Tryz.underlying9 hs
theorem JI (s t:ByteArray) (h:En s=En t):s=t:=by
 unfold En at h;injection h with h
 exact ByteArray.ext (Array.toList_inj.1 h)
theorem Eo {P:Program} {e:TypeId} (he:P.underlying e=some .bool) {v:jfk} {z:DataW Unit × List MemPlace} (h:plainElem P e v=some z):∃ x,v=.bool x/\z=(.lit (.bool x),[]):=by
 unfold plainElem at h;rw [he] at h;cases v<;>simp at h
 exact ⟨_,rfl,h.symm⟩
def dU (w:jf9) (b n:Nat) (S:List ByteArray):Prop:=
 ∃ D:DataW Unit,w.ownsMap Tryz.prog 9 (plainElem Tryz.prog 4) b n D/\∀ s:ByteArray,D.atKey (En s) (.lit (.bool false))=.lit (.bool (hasB S s))
theorem Ep {w:jf9} {k:TypeId} {R:jfk->Option (DataW Unit × List MemPlace)} {b n:Nat} {D:DataW Unit} (h:w.ownsMap Tryz.prog k R b n D):IsMap D:=by obtain ⟨es,c,_,_,_,rfl⟩:=h;exact ⟨_,rfl⟩
theorem JJ (s:ByteArray):WideAt.IsKeyLit (En s):=by unfold En;simp [WideAt.IsKeyLit]
theorem dU.look {w:jf9} {b n:Nat} {S:List ByteArray} (h:dU w b n S) (s:ByteArray) (hs:s.size<=maxLen) : (Instr.lookup 138 (.map (some b)) (.string s) false).run Tryz.prog w=.ok (.bool (hasB S s)) w:=by obtain ⟨D,hD,hat⟩:=h;obtain ⟨v,ps,hrun,hv⟩:=hD.lookup TV Tryz.underlying138 (TW w) (plainElem_bool Tryz.underlying4 false) (Gf s hs);obtain ⟨x,rfl,hx⟩:=Eo Tryz.underlying4 hv;rw [hat s] at hx;simp only [Prod.mk.injEq] at hx;have:hasB S s=x:=Lit.bool.inj (DataW.lit.inj hx.1);subst this;exact hrun
theorem dU.put {w:jf9} {b n:Nat} {S:List ByteArray} (h:dU w b n S) (s:ByteArray) (hs:s.size<=maxLen) (hn:n<maxLen) : ∃ w',(Instr.mapUpdate 138 (.map (some b)) (.string s) (.bool true)).run Tryz.prog w=.ok () w'/\dU w' b (n+1) (s::S)/\w.grownBy w' (some b):=by
 obtain ⟨D,hD,hat⟩:=h;obtain ⟨w',hrun,hD',hg⟩:=hD.update TV Tryz.underlying138 hn (Gf s hs) (plainElem_bool Tryz.underlying4 true);refine ⟨w',hrun,⟨_,hD',fun t=>?_⟩,hg⟩;by_cases e:t=s
 ·subst e;rw [atKey_put_same (Ep hD) (JJ t)];simp [hasB]
 ·rw [atKey_put_other (fun h=>e (JI _ _ h)),hat t];have:hasB (s::S) t=hasB S t:=by simp [hasB,show ¬ s=t from fun h=>e h.symm]
  rw [this]
theorem dU.made (w:jf9):dU (w.alloc (.map #[] 0)) w.heap.size 0 []:=
 ⟨_,World.ownsMap_made w _ _ _,fun s=>rfl⟩
theorem dU.kept {w w':jf9} {b n:Nat} {S:List ByteArray} {row:Option Nat} (h:dU w b n S) (hg:w.grownBy w' row) (hne:some b≠row):dU w' b n S:=by obtain ⟨D,hD,hat⟩:=h;exact ⟨D,hD.kept hg hne,hat⟩
theorem Jj {w w':jf9} (hb:Below w.heap.size w w'):w.grownBy w' none:=⟨hb.os,hb.tape,hb.output,hb.size,fun i hi _=>hb.block i hi⟩
theorem dU.below {w w':jf9} {b n:Nat} {S:List ByteArray} (h:dU w b n S) (hb:Below w.heap.size w w'):dU w' b n S:=h.kept (Jj hb) (by simp)
open Go.RowKit
theorem Gg:(Tryz.prog.info? 9).map (fun i=>(i.zero,i.size,i.bytes))=some (some (.string ByteArray.empty),1,16):=by kernel_rfl
theorem JK {x y:ByteArray} (h:y≠x):(y.toList==x.toList)=false:=by rw [beq_eq_false_iff_ne];intro e;apply h;apply ByteArray.ext;apply Array.toList_inj.1;rw [<- Lib.toList_data,<- Lib.toList_data,e]
theorem qH:(Tryz.prog.info? 74).map (fun i=>(i.zero,i.size,i.bytes))=some (some (.agg #[.string ByteArray.empty,.string ByteArray.empty]),2,32):=by kernel_rfl
theorem BX (w:jf9) (B:Nat) (e:TypeId) (k:Nat):w.ownsRow B e k (.slice none 0 0) 0 []:=⟨by simp,.inl ⟨rfl,rfl⟩⟩
theorem zm {w:jf9} {B:Nat} {e:TypeId} {k:Nat} {v:jfk} {n:Nat} {xs:List jfk} (h:w.ownsRow B e k v n xs) (p:Addr) (u:jfk) (hne:v.ownBlock≠some p.block):(w.setCell p u).ownsRow B e k v n xs:=by
 refine ⟨h.1,?_⟩;rcases h.2 with h0 | ⟨g,cap,cur,rfl,hg,hh,r⟩
 ·exact .inl h0
 ·exact .inr ⟨g,cap,cur,rfl,hg,(Below.heap_setCell w p u g (fun e'=>hne (by rw [<- e'];rfl))).trans hh,r⟩
theorem aO.JL {ok ok':Nat->Prop} {w w':jf9} {l:List ByteArray} {rows:List (List jfk)} (h:aO ok w (l.map D.str) rows):aO ok' w' (l.map D.str) rows:=by rw [aO.mR l rows h];exact aO.strs l
theorem aO.Gh {ok ok':Nat->Prop} {w w':jf9}:∀ {l:List Pr} {rows:List (List jfk)},aO ok w (l.map Pr.d) rows->aO ok' w' (l.map Pr.d) rows
 | [],_,h=>by rw [h.dL];exact aO.none
 | p::l,_,h=>by
  obtain ⟨r,rs,rfl,h1,h2⟩:=aO.aG (d:=p.d) (ds:=l.map Pr.d) h;rw [Pr.open_ h1];exact aO.cons (Pr.fK ok' w' p) (aO.Gh h2)
theorem aO.Gi {ok ok':Nat->Prop} {w w':jf9}:∀ {l:List Ci} {rows:List (List jfk)},aO ok w (l.map Ci.d) rows->aO ok' w' (l.map Ci.d) rows
 | [],_,h=>by rw [h.dL];exact aO.none
 | p::l,_,h=>by
  obtain ⟨r,rs,rfl,h1,h2⟩:=aO.aG (d:=p.d) (ds:=l.map Ci.d) h;rw [Ci.open_ h1];exact aO.cons (Ci.fK ok' w' p) (aO.Gi h2)
theorem QD:(Tryz.prog.info? 51).map (fun i=>(i.zero,i.size,i.bytes))=some (some (.agg #[.int .i64 0,.string ByteArray.empty,.string ByteArray.empty,.string ByteArray.empty,.string ByteArray.empty,.slice none 0 0,.slice none 0 0,.slice none 0 0,.slice none 0 0,.slice none 0 0]),10,192):=by kernel_rfl
theorem QE:(Tryz.prog.info? 125).map (fun i=>(i.zero,i.size,i.bytes))=some (some (.agg #[.string ByteArray.empty,.string ByteArray.empty,.string ByteArray.empty,.bool false]),4,56):=by kernel_rfl
mutual
def ah.bd:ah->Prop
 | .mk _ _ _ _ a ar ci ks=>a.cls.length<=1000000/\a.aH.length<=1000000/\ar.length<=1000000/\ci.length<=1000000/\ah.qI ks
def ah.qI:List ah->Prop
 | []=>True
 | x::l=>x.bd/\ah.qI l
end
theorem ah.oZ:∀ (l:List ah) (k:Nat) (x:ah),ah.qI l->l[k]?=some x->x.bd
 | [],_,_,_,h=>by simp at h
 | y::l,0,x,hb,h=>by simp at h;subst h;rw [ah.qI] at hb;exact hb.1
 | y::l,k+1,x,hb,h=>by rw [ah.qI] at hb;exact ah.oZ l k x hb.2 (by simpa using h)
theorem ah.Er (x:ah):1<=x.sz:=by cases x;rw [ah.sz];omega
theorem ah.gU:∀ (l:List ah),l.length<=ah.aU l
 | []=>by simp
 | x::l=>by have:=ah.gU l;have:=x.Er;rw [ah.aU];simp;omega
def PB (p:Nat) (cs:List jfk) (w:jf9):Prop:=w.heap[p]?=some (.cells cs.toArray 51 (0,0))
theorem PB.cell {p:Nat} {cs:List jfk} {w:jf9} (h:PB p cs w) (j:Nat) (u:jfk) (hu:cs[j]?=some u):w.cell? ⟨p,j,none⟩=some u:=by unfold PB at h;simp [World.cell?,h,hu]
theorem PB.free {p:Nat} {cs:List jfk} {w:jf9} (h:PB p cs w) (j:Nat):w.frozen? ⟨p,j,none⟩=false:=by unfold PB at h;simp [World.frozen?,h]
theorem PB.set {p:Nat} {cs:List jfk} {w:jf9} (h:PB p cs w) (j:Nat) (u:jfk):PB p (cs.set j u) (w.setCell ⟨p,j,none⟩ u):=by unfold PB at h ⊢;simp [World.setCell,Array.getElem?_modify,h]
theorem PB.grown {p:Nat} {cs:List jfk} {w w':jf9} (h:PB p cs w) (hg:w.grownBy w' none):PB p cs w':=(hg.block p (by unfold PB at h;exact (Array.getElem?_eq_some_iff.1 h).1) (by simp)).trans h
theorem PB.lt {p:Nat} {cs:List jfk} {w:jf9} (h:PB p cs w):p<w.heap.size:=by unfold PB at h;exact (Array.getElem?_eq_some_iff.1 h).1
structure CL (w:jf9) (p:Nat) (cs:List jfk) (v:jfk) (n:Nat) (rows:List (List jfk)) (l:List ah) (wr:jf9):Prop where
 own:wr.ownsRow w.heap.size 51 10 v n rows.flatten
 red:aO (fun b=>w.heap.size<=b/\v.ownBlock≠some b/\b≠p) wr (l.map ah.d) rows
 pb:PB p cs wr
 aJ:Below w.heap.size w wr
def eU (p:Nat) (w w':jf9):Prop:=∀ b,p<b->b<w.heap.size->w'.heap[b]?=w.heap[b]?
theorem eU.grown {p:Nat} {w w':jf9} (hg:w.grownBy w' none):eU p w w':=fun b _ hlt=>hg.block b hlt (by simp)
theorem eU.set {p:Nat} {w:jf9} (j:Nat) (u:jfk):eU p w (w.setCell ⟨p,j,none⟩ u):=fun b hb _=>Below.heap_setCell w ⟨p,j,none⟩ u b (by show b≠p;omega)
theorem Rd.above {p:Nat} {w w':jf9} {d:D} {cs:List jfk} (h:Rd (p<·) w d cs) (ha:eU p w w'):Rd (p<·) w' d cs:=
 Rd.keep (fun b hb hlt=>⟨hb,ha b hb hlt⟩) d cs h
theorem Rd.weaken {ok ok':Nat->Prop} {w:jf9} {d:D} {cs:List jfk} (h:Rd ok w d cs) (hk:∀ b,ok b->ok' b):Rd ok' w d cs:=
 Rd.keep (fun b hb _=>⟨hk b hb,rfl⟩) d cs h
theorem AtR.above {p:Nat} {w w':jf9} {a:At} {vc vp:jfk} (h:AtR (p<·) w a vc vp) (ha:eU p w w'):AtR (p<·) w' a vc vp:=⟨h.cls.above ha,h.aH.above ha⟩
theorem AtR.weaken {ok ok':Nat->Prop} {w:jf9} {a:At} {vc vp:jfk} (h:AtR ok w a vc vp) (hk:∀ b,ok b->ok' b):AtR ok' w a vc vp:=⟨h.cls.weaken hk,h.aH.weaken hk⟩
theorem AtR.below {B:Nat} {w w':jf9} {a:At} {vc vp:jfk} (h:AtR (·<B) w a vc vp) (hb:Below B w w'):AtR (·<B) w' a vc vp:=⟨h.cls.below hb,h.aH.below hb⟩
theorem fD.below {w w':jf9} {b o:Nat} {k:Int} {t d ti id:ByteArray} {vc vp va vi vk:jfk} (h:fD w b o k t d ti id vc vp va vi vk) (hb:Below w.heap.size w w'):fD w' b o k t d ti id vc vp va vi vk:=by
 have hl:=wF h.c0;have f:∀ q,w'.cell? ⟨b,q,none⟩=w.cell? ⟨b,q,none⟩:=fun q=>hb.cell (p:=⟨b,q,none⟩) hl
 obtain ⟨c0,c1,c2,c3,c4,c5,c6,c7,c8,c9⟩:=h;exact ⟨by rw [f];exact c0,by rw [f];exact c1,by rw [f];exact c2,by rw [f];exact c3,by rw [f];exact c4,by rw [f];exact c5,by rw [f];exact c6,by rw [f];exact c7,by rw [f];exact c8,by rw [f];exact c9⟩
mutual
def au.bd:au->Prop
 | .mk _ _ _ _ _ _ a li ks=>a.cls.length<=1000000/\a.aH.length<=1000000/\ah.qI li/\ah.aU li<=1000000/\au.qI ks
def au.qI:List au->Prop
 | []=>True
 | x::l=>x.bd/\au.qI l
end
theorem au.oZ:∀ (l:List au) (k:Nat) (x:au),au.qI l->l[k]?=some x->x.bd
 | [],_,_,_,h=>by simp at h
 | y::l,0,x,hb,h=>by simp at h;subst h;rw [au.qI] at hb;exact hb.1
 | y::l,k+1,x,hb,h=>by rw [au.qI] at hb;exact au.oZ l k x hb.2 (by simpa using h)
theorem au.Er (x:au):1<=x.sz:=by cases x;rw [au.sz];omega
theorem au.gU:∀ (l:List au),l.length<=au.aU l
 | []=>by simp
 | x::l=>by have:=au.gU l;have:=x.Er;rw [au.aU];simp;omega
section
variable {p:Nat} {cs:List jfk} {w w':jf9}
end
theorem Rd.aj {ok:Nat->Prop} {w:jf9} {k:Nat} {l:List D} {v:jfk} (h:Rd ok w (.sl k l) [v]):∃ a n c,v=.slice a n c:=by obtain ⟨a',c',h',_⟩:=Rd.aD h;exact ⟨_,_,_,by simpa using h'⟩
open Go.RowKit
open Go.RowKit
open Go.RowKit
open Go.RowKit
open Go.RowKit
end Go.Proofs.YtclikfjalmcoaaaGreatDoor

