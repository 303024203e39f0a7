/- Plain part: different anchors for texts: the first free number. Maps of the call's own with texts as keys: a set (bool elements). Words for copies of inlines and blocks: what is not too long; blocks that are known whole. Plain laws on anchors: how long they are; what is used when the k-th one is looked for. The contract of slug.Of. A row that a call builds: what its elements read lies below U; laws for append of one element and of a slice. Contracts of slug.copyAttr and slug.copyLine. The anchors that are left, in the box that slug.Anchors$1 takes them out of; which blocks get them. The contract of count.copyLine. A row that a call builds, one of whose cells is stored anew. The last element of a row, laid there as a zero, is written anew, cell by cell. -/
import Derived.Test.YtkfnkeflalcphaaGreatDoorKRFoldR
import Derived.Deep.RegionHeld3
namespace Go.Proofs.YtkfnkeflalcphaaGreatDoor
open Nat renaming le_trans->jnx
open Go renaming World->jqz,Value->jr1
def hasB (T:List ByteArray) (x:ByteArray):Bool:=T.any fun y=>decide (y=x)
theorem qP (T:List ByteArray) (x:ByteArray):hasB T x=true↔x∈T:=by
 unfold hasB;rw [List.any_eq_true];constructor
 ·rintro ⟨y,hy,h⟩;rw [<- of_decide_eq_true h];exact hy
 ·intro h;exact ⟨x,h,decide_eq_true rfl⟩
open Go.RowKit Go.Maps
set_option linter.unusedVariables false
set_option linter.unusedSimpArgs false
theorem je2:Keyed Tryz.prog 9:=string_keyed Tryz.underlying9
theorem je3 (w:jqz):(zeroValue 4).run Tryz.prog w=.ok (.bool false) w:=by kernel_rfl
def Ju (s:ByteArray):Lit:=.string s.data.toList
theorem KU (s:ByteArray) (hs:s.size<=maxLen):keyOf Tryz.prog 9 (.string s)=some (Ju s):=WideMaps.keyOf_string_mk Tryz.underlying9 hs
theorem QL (s t:ByteArray) (h:Ju s=Ju t):s=t:=by
 unfold Ju at h;injection h with h
 exact ByteArray.ext (Array.toList_inj.1 h)
theorem Jv {P:Program} {e:TypeId} (he:P.underlying e=some .bool) {v:jr1} {z:DataW Unit × List MemPlace} (h:plainElem P e v=some z):∃ x,v=.bool x/\z=(.lit (.bool x),[]):=by
 unfold plainElem at h;rw [he] at h;cases v<;>simp at h
 exact ⟨_,rfl,h.symm⟩
def dx (w:jqz) (b n:Nat) (S:List ByteArray):Prop:=
 ∃ D:DataW Unit,w.ownsMap Tryz.prog 9 (plainElem Tryz.prog 4) b n D/\∀ s:ByteArray,D.atKey (Ju s) (.lit (.bool false))=.lit (.bool (hasB S s))
theorem Jw {w:jqz} {k:TypeId} {R:jr1->Option (DataW Unit × List MemPlace)} {b n:Nat} {D:DataW Unit} (h:w.ownsMap Tryz.prog k R b n D):IsMap D:=by obtain ⟨es,c,_,_,_,rfl⟩:=h;exact ⟨_,rfl⟩
theorem QM (s:ByteArray):WideAt.IsKeyLit (Ju s):=by unfold Ju;simp [WideAt.IsKeyLit]
theorem dx.look {w:jqz} {b n:Nat} {S:List ByteArray} (h:dx w b n S) (s:ByteArray) (hs:s.size<=maxLen) : (Instr.lookup 127 (.map (some b)) (.string s) false).run Tryz.prog w=.ok (.bool (hasB S s)) w:=by obtain ⟨D,hD,hat⟩:=h;obtain ⟨v,ps,hrun,hv⟩:=hD.lookup je2 Tryz.underlying127 (je3 w) (plainElem_bool Tryz.underlying4 false) (KU s hs);obtain ⟨x,rfl,hx⟩:=Jv Tryz.underlying4 hv;rw [hat s] at hx;simp only [Prod.mk.injEq] at hx;have:hasB S s=x:=Lit.bool.inj (DataW.lit.inj hx.1);subst this;exact hrun
theorem dx.put {w:jqz} {b n:Nat} {S:List ByteArray} (h:dx w b n S) (s:ByteArray) (hs:s.size<=maxLen) (hn:n<maxLen) : ∃ w',(Instr.mapUpdate 127 (.map (some b)) (.string s) (.bool true)).run Tryz.prog w=.ok () w'/\dx w' b (n+1) (s::S)/\w.grownBy w' (some b):=by
 obtain ⟨D,hD,hat⟩:=h;obtain ⟨w',hrun,hD',hg⟩:=hD.update je2 Tryz.underlying127 hn (KU s hs) (plainElem_bool Tryz.underlying4 true);refine ⟨w',hrun,⟨_,hD',fun t=>?_⟩,hg⟩;by_cases e:t=s
 ·subst e;rw [atKey_put_same (Jw hD) (QM t)];simp [hasB]
 ·rw [atKey_put_other (fun h=>e (QL _ _ h)),hat t];have:hasB (s::S) t=hasB S t:=by simp [hasB,show ¬ s=t from fun h=>e h.symm]
  rw [this]
theorem dx.made (w:jqz):dx (w.alloc (.map #[] 0)) w.heap.size 0 []:=
 ⟨_,World.ownsMap_made w _ _ _,fun s=>rfl⟩
theorem dx.kept {w w':jqz} {b n:Nat} {S:List ByteArray} {row:Option Nat} (h:dx w b n S) (hg:w.grownBy w' row) (hne:some b≠row):dx w' b n S:=by obtain ⟨D,hD,hat⟩:=h;exact ⟨D,hD.kept hg hne,hat⟩
theorem dx.lt {w:jqz} {b n:Nat} {S:List ByteArray} (h:dx w b n S):b<w.heap.size:=by obtain ⟨D,hD,_⟩:=h;exact hD.lt
theorem zx {w w':jqz} (hb:Below w.heap.size w w'):w.grownBy w' none:=⟨hb.os,hb.tape,hb.output,hb.size,fun i hi _=>hb.block i hi⟩
theorem dx.below {w w':jqz} {b n:Nat} {S:List ByteArray} (h:dx w b n S) (hb:Below w.heap.size w w'):dx w' b n S:=h.kept (zx hb) (by simp)
open Go.RowKit
theorem JU:(Tryz.prog.info? 9).map (fun i=>(i.zero,i.size,i.bytes))=some (some (.string ByteArray.empty),1,16):=by kernel_rfl
theorem Cm {x y:ByteArray} (h:y≠x):(y.toList==x.toList)=false:=by rw [beq_eq_false_iff_ne];intro e;apply h;apply ByteArray.ext;apply Array.toList_inj.1;rw [<- Lib.toList_data,<- Lib.toList_data,e]
theorem pV:(Tryz.prog.info? 61).map (fun i=>(i.zero,i.size,i.bytes))=some (some (.agg #[.string ByteArray.empty,.string ByteArray.empty]),2,32):=by kernel_rfl
theorem Gy (w:jqz) (B:Nat) (e:TypeId) (k:Nat):w.ownsRow B e k (.slice none 0 0) 0 []:=⟨by simp,.inl ⟨rfl,rfl⟩⟩
theorem C9 {w:jqz} {B:Nat} {e:TypeId} {k:Nat} {v:jr1} {n:Nat} {xs:List jr1} (h:w.ownsRow B e k v n xs) (p:Addr) (u:jr1) (hne:v.ownBlock≠some p.block):(w.setCell p u).ownsRow B e k v n xs:=by
 refine ⟨h.1,?_⟩;rcases h.2 with h0 | ⟨g,cap,cur,rfl,hg,hh,r⟩
 ·exact .inl h0
 ·exact .inr ⟨g,cap,cur,rfl,hg,(Below.heap_setCell w p u g (fun e'=>hne (by rw [<- e'];rfl))).trans hh,r⟩
theorem aQ.Pg {ok ok':Nat->Prop} {w w':jqz} {l:List ByteArray} {rows:List (List jr1)} (h:aQ ok w (l.map D.str) rows):aQ ok' w' (l.map D.str) rows:=by rw [aQ.oG l rows h];exact aQ.strs l
theorem aQ.Ki {ok ok':Nat->Prop} {w w':jqz}:∀ {l:List Pr} {rows:List (List jr1)},aQ ok w (l.map Pr.d) rows->aQ ok' w' (l.map Pr.d) rows
 | [],_,h=>by rw [h.eT];exact aQ.none
 | p::l,_,h=>by
  obtain ⟨r,rs,rfl,h1,h2⟩:=aQ.aG (d:=p.d) (ds:=l.map Pr.d) h;rw [Pr.open_ h1];exact aQ.cons (Pr.iH ok' w' p) (aQ.Ki h2)
theorem aQ.Kh {ok ok':Nat->Prop} {w w':jqz}:∀ {l:List Ci} {rows:List (List jr1)},aQ ok w (l.map Ci.d) rows->aQ ok' w' (l.map Ci.d) rows
 | [],_,h=>by rw [h.eT];exact aQ.none
 | p::l,_,h=>by
  obtain ⟨r,rs,rfl,h1,h2⟩:=aQ.aG (d:=p.d) (ds:=l.map Ci.d) h;rw [Ci.open_ h1];exact aQ.cons (Ci.iH ok' w' p) (aQ.Kh h2)
theorem XY:(Tryz.prog.info? 66).map (fun i=>(i.zero,i.size,i.bytes))=some (some (.agg #[.int .i64 0,.string ByteArray.empty,.string ByteArray.empty,.string ByteArray.empty,.string ByteArray.empty,.slice none 0 0,.slice none 0 0,.slice none 0 0,.slice none 0 0,.slice none 0 0]),10,192):=by kernel_rfl
theorem Yb:(Tryz.prog.info? 121).map (fun i=>(i.zero,i.size,i.bytes))=some (some (.agg #[.string ByteArray.empty,.string ByteArray.empty,.string ByteArray.empty,.bool false]),4,56):=by kernel_rfl
mutual
def aj.bd:aj->Prop
 | .mk _ _ _ _ a ar ci ks=>a.cls.length<=1000000/\a.aP.length<=1000000/\ar.length<=1000000/\ci.length<=1000000/\aj.sj ks
def aj.sj:List aj->Prop
 | []=>True
 | x::l=>x.bd/\aj.sj l
end
theorem aj.rD:∀ (l:List aj) (k:Nat) (x:aj),aj.sj l->l[k]?=some x->x.bd
 | [],_,_,_,h=>by simp at h
 | y::l,0,x,hb,h=>by simp at h;subst h;rw [aj.sj] at hb;exact hb.1
 | y::l,k+1,x,hb,h=>by rw [aj.sj] at hb;exact aj.rD l k x hb.2 (by simpa using h)
theorem aj.Jy (x:aj):1<=x.sz:=by cases x;rw [aj.sz];omega
theorem aj.iZ:∀ (l:List aj),l.length<=aj.aW l
 | []=>by simp
 | x::l=>by have:=aj.iZ l;have:=x.Jy;rw [aj.aW];simp;omega
def PB (p:Nat) (cs:List jr1) (w:jqz):Prop:=w.heap[p]?=some (.cells cs.toArray 66 (0,0))
theorem PB.cell {p:Nat} {cs:List jr1} {w:jqz} (h:PB p cs w) (j:Nat) (u:jr1) (hu:cs[j]?=some u):w.cell? ⟨p,j,none⟩=some u:=by unfold PB at h;simp [World.cell?,h,hu]
theorem PB.free {p:Nat} {cs:List jr1} {w:jqz} (h:PB p cs w) (j:Nat):w.frozen? ⟨p,j,none⟩=false:=by unfold PB at h;simp [World.frozen?,h]
theorem PB.set {p:Nat} {cs:List jr1} {w:jqz} (h:PB p cs w) (j:Nat) (u:jr1):PB p (cs.set j u) (w.setCell ⟨p,j,none⟩ u):=by unfold PB at h ⊢;simp [World.setCell,Array.getElem?_modify,h]
theorem PB.grown {p:Nat} {cs:List jr1} {w w':jqz} (h:PB p cs w) (hg:w.grownBy w' none):PB p cs w':=(hg.block p (by unfold PB at h;exact (Array.getElem?_eq_some_iff.1 h).1) (by simp)).trans h
theorem PB.lt {p:Nat} {cs:List jr1} {w:jqz} (h:PB p cs w):p<w.heap.size:=by unfold PB at h;exact (Array.getElem?_eq_some_iff.1 h).1
structure CL (w:jqz) (p:Nat) (cs:List jr1) (v:jr1) (n:Nat) (rows:List (List jr1)) (l:List aj) (wr:jqz):Prop where
 own:wr.ownsRow w.heap.size 66 10 v n rows.flatten
 red:aQ (fun b=>w.heap.size<=b/\v.ownBlock≠some b/\b≠p) wr (l.map aj.d) rows
 pb:PB p cs wr
 aN:Below w.heap.size w wr
def fC (p:Nat) (w w':jqz):Prop:=∀ b,p<b->b<w.heap.size->w'.heap[b]?=w.heap[b]?
theorem fC.grown {p:Nat} {w w':jqz} (hg:w.grownBy w' none):fC p w w':=fun b _ hlt=>hg.block b hlt (by simp)
theorem fC.set {p:Nat} {w:jqz} (j:Nat) (u:jr1):fC p w (w.setCell ⟨p,j,none⟩ u):=fun b hb _=>Below.heap_setCell w ⟨p,j,none⟩ u b (by show b≠p;omega)
theorem Rd.above {p:Nat} {w w':jqz} {d:D} {cs:List jr1} (h:Rd (p<·) w d cs) (ha:fC p w w'):Rd (p<·) w' d cs:=
 Rd.keep (fun b hb hlt=>⟨hb,ha b hb hlt⟩) d cs h
theorem Rd.weaken {ok ok':Nat->Prop} {w:jqz} {d:D} {cs:List jr1} (h:Rd ok w d cs) (hk:∀ b,ok b->ok' b):Rd ok' w d cs:=
 Rd.keep (fun b hb _=>⟨hk b hb,rfl⟩) d cs h
theorem AtR.above {p:Nat} {w w':jqz} {a:At} {vc vp:jr1} (h:AtR (p<·) w a vc vp) (ha:fC p w w'):AtR (p<·) w' a vc vp:=⟨h.cls.above ha,h.aP.above ha⟩
theorem AtR.weaken {ok ok':Nat->Prop} {w:jqz} {a:At} {vc vp:jr1} (h:AtR ok w a vc vp) (hk:∀ b,ok b->ok' b):AtR ok' w a vc vp:=⟨h.cls.weaken hk,h.aP.weaken hk⟩
theorem AtR.below {B:Nat} {w w':jqz} {a:At} {vc vp:jr1} (h:AtR (·<B) w a vc vp) (hb:Below B w w'):AtR (·<B) w' a vc vp:=⟨h.cls.below hb,h.aP.below hb⟩
theorem gu.below {w w':jqz} {b o:Nat} {k:Int} {t d ti id:ByteArray} {vc vp va vi vk:jr1} (h:gu w b o k t d ti id vc vp va vi vk) (hb:Below w.heap.size w w'):gu w' b o k t d ti id vc vp va vi vk:=by
 have hl:=EM h.c0;have f:∀ q,w'.cell? ⟨b,q,none⟩=w.cell? ⟨b,q,none⟩:=fun q=>hb.cell (p:=⟨b,q,none⟩) hl
 obtain ⟨c0,c1,c2,c3,c4,c5,c6,c7,c8,c9⟩:=h;exact ⟨by rw [f];exact c0,by rw [f];exact c1,by rw [f];exact c2,by rw [f];exact c3,by rw [f];exact c4,by rw [f];exact c5,by rw [f];exact c6,by rw [f];exact c7,by rw [f];exact c8,by rw [f];exact c9⟩
mutual
def ah.bd:ah->Prop
 | .mk _ _ _ _ _ _ a li ks=>a.cls.length<=1000000/\a.aP.length<=1000000/\aj.sj li/\aj.aW li<=1000000/\ah.sj ks
def ah.sj:List ah->Prop
 | []=>True
 | x::l=>x.bd/\ah.sj l
end
theorem ah.rD:∀ (l:List ah) (k:Nat) (x:ah),ah.sj l->l[k]?=some x->x.bd
 | [],_,_,_,h=>by simp at h
 | y::l,0,x,hb,h=>by simp at h;subst h;rw [ah.sj] at hb;exact hb.1
 | y::l,k+1,x,hb,h=>by rw [ah.sj] at hb;exact ah.rD l k x hb.2 (by simpa using h)
theorem ah.Jy (x:ah):1<=x.sz:=by cases x;rw [ah.sz];omega
theorem ah.iZ:∀ (l:List ah),l.length<=ah.aW l
 | []=>by simp
 | x::l=>by have:=ah.iZ l;have:=x.Jy;rw [ah.aW];simp;omega
section
variable {p:Nat} {cs:List jr1} {w w':jqz}
end
theorem Rd.au {ok:Nat->Prop} {w:jqz} {k:Nat} {l:List D} {v:jr1} (h:Rd ok w (.sl k l) [v]):∃ a n c,v=.slice a n c:=by obtain ⟨a',c',h',_⟩:=Rd.aC h;exact ⟨_,_,_,by simpa using h'⟩
open Go.RowKit
open Go.RowKit
open Go.RowKit
structure aH (T:TypeId) (k:Nat) (ok:Nat->Prop) (U:Nat) (w0:jqz) (ds:List D) (rows:List (List jr1)) (v:jr1) (w:jqz):Prop where
 own:w.ownsRow w0.heap.size T k v ds.length rows.flatten
 red:aQ (fun b=>(ok b\/w0.heap.size<=b)/\v.ownBlock≠some b/\b<U) w ds rows
 len:∀ r∈rows,r.length=k
 aN:Below w0.heap.size w0 w
 oU:∀ g,v.ownBlock=some g->g<U
 H6:w0.heap.size<=U
 Lv:U<=w.heap.size
section
variable {T:TypeId} {k U:Nat} {ok:Nat->Prop} {w0 w w':jqz} {ds es:List D} {rows bE:List (List jr1)} {v v':jr1}
theorem aH.nil (T:TypeId) (k:Nat) (ok:Nat->Prop) (w0:jqz):aH T k ok w0.heap.size w0 [] [] (.slice none 0 0) w0:=
 ⟨⟨by simp,.inl ⟨rfl,rfl⟩⟩,aQ.none,by simp,Below.refl _ _,by simp [Value.ownBlock],Nat.le_refl _,Nat.le_refl _⟩
theorem aH.up (h:aH T k ok U w0 ds rows v w) {U':Nat} (h1:U<=U') (h2:U'<=w.heap.size):aH T k ok U' w0 ds rows v w:=
 ⟨h.own,aQ.keep (fun b hb _=>⟨⟨hb.1,hb.2.1,by omega⟩,rfl⟩) _ _ h.red,h.len,h.aN,fun g hg=>Nat.lt_of_lt_of_le (h.oU g hg) h1,jnx h.H6 h1,h2⟩
theorem aH.top (h:aH T k ok U w0 ds rows v w):aH T k ok w.heap.size w0 ds rows v w:=h.up h.Lv (Nat.le_refl _)
theorem aH.grown (h:aH T k ok U w0 ds rows v w) (hg:w.grownBy w' none):aH T k ok U w0 ds rows v w':=
 ⟨h.own.kept hg (by cases v.ownBlock<;>simp),aQ.keep (fun b hb hlt=>⟨hb,hg.block b hlt (by simp)⟩) _ _ h.red,h.len,h.aN.grown hg h.aN.size (by simp),h.oU,h.H6,jnx h.Lv hg.size⟩
theorem aH.below (h:aH T k ok U w0 ds rows v w) (hb:Below w.heap.size w w'):aH T k ok U w0 ds rows v w':=h.grown (zx hb)
theorem aH.drew (h:aH T k ok U w0 ds rows v w):aH T k ok U w0 ds rows v w.drew:=h.grown ⟨rfl,rfl,rfl,Nat.le_refl _,fun _ _ _=>rfl⟩
theorem aH.same (h:aH T k ok U w0 ds rows v w) (hs:w.heap.size<=w'.heap.size) (hos:w'.os=w.os/\w'.tape=w.tape/\w'.output=w.output) (hb:∀ b,b<U->w'.heap[b]?=w.heap[b]?):aH T k ok U w0 ds rows v w':=by
 have hl:=h.Lv;have hl0:=h.H6;refine ⟨?_,aQ.keep (fun b hb' hlt=>⟨hb',hb b hb'.2.2⟩) _ _ h.red,h.len,⟨hos.1.trans h.aN.os,hos.2.1.trans h.aN.tape,hos.2.2.trans h.aN.output,jnx h.aN.size hs,fun b hlt=>(hb b (by omega)).trans (h.aN.block b hlt)⟩,h.oU,h.H6,jnx hl hs⟩;obtain ⟨h1,h2⟩:=h.own;refine ⟨h1,?_⟩;rcases h2 with h2 | ⟨g,cap,cur,rfl,r2,r3,r4⟩
 ·exact .inl h2
 ·exact .inr ⟨g,cap,cur,rfl,r2,(hb g (h.oU g rfl)).trans r3,r4⟩
theorem aH.slice (h:aH T k ok U w0 ds rows v w):∃ a c,v=.slice a ds.length c:=tT h.own
theorem aH.cap (h:aH T k ok U w0 ds rows v w) {n:Nat} (hn:ds.length=n):∃ a c,v=.slice a n c/\n<=c/\c<=maxLen:=by
 subst hn;rcases h.own.2 with ⟨h1,h2⟩ | ⟨g,cap,cur,h1,_,_,h2,h3,_⟩
 ·exact ⟨none,0,by rw [h1,h2],by omega,Nat.zero_le _⟩
 ·exact ⟨_,cap,h1,h2,h3⟩
theorem aH.put {w1:jqz} (h:aH T k ok U w0 ds rows v w) (hB:∀ b,ok b->b<w0.heap.size) (hes:aQ (fun b=>ok b\/U<=b) w1 es bE) (hl2:∀ r∈bE,r.length=k) (hw1:w.grownBy w1 none) (hown:w'.ownsRow w0.heap.size T k v' (ds.length+es.length) (rows.flatten++bE.flatten)) (hg:w1.grownBy w' v.ownBlock) (hat:v'.ownBlock=v.ownBlock\/v'.ownBlock=some w1.heap.size) : aH T k ok w'.heap.size w0 (ds++es) (rows++bE) v' w':=by
 have hs:=hg.size;have hs1:=hw1.size;have h0:=h.H6;have h1:=h.Lv;have hV:∀ g,v.ownBlock=some g->w0.heap.size<=g/\g<U:=fun g e=>⟨(h.own.lt g e).1,h.oU g e⟩
 have hv':∀ b,b<w1.heap.size->v.ownBlock≠some b->v'.ownBlock≠some b:=by
  intro b hb hne;rcases hat with e | e
  ·rw [e];exact hne
  ·rw [e];intro h;have:=Option.some.inj h;omega
 have hh:∀ b,b<w.heap.size->v.ownBlock≠some b->w'.heap[b]?=w.heap[b]?:=fun b hb hne=>
  (hg.block b (by omega) (fun e=>hne e.symm)).trans (hw1.block b hb (by simp))
 refine ⟨by rw [List.length_append,List.flatten_append];exact hown,?_,?_,?_,fun g e=>(hown.lt g e).2,by omega,Nat.le_refl _⟩
 ·refine aQ.app (aQ.keep (fun b hb hlt=>⟨⟨hb.1,hv' b (by omega) hb.2.1,by omega⟩,hh b hlt hb.2.1⟩) _ _ h.red) (aQ.keep (fun b hb hlt=>?_) _ _ hes);have hne:v.ownBlock≠some b:=fun e=>by
   have:=hV b e;rcases hb with hb | hb
   ·have:=hB b hb;omega
   ·omega
  exact ⟨⟨hb.imp id (fun h=>by omega),hv' b hlt hne,by omega⟩,hg.block b hlt (fun e=>hne e.symm)⟩
 ·intro r hr;rcases List.mem_append.1 hr with hr | hr
  ·exact h.len r hr
  ·exact hl2 r hr
 ·refine (h.aN.grown hw1 h.aN.size (by simp)).grown hg (by have:=h.aN.size;omega) (fun g e=>(hV g e).1)
theorem aH.rd (h:aH T k ok U w0 ds rows v w):Rd (fun b=>ok b\/w0.heap.size<=b) w (.sl k ds) [v]:=
 Rd.jR h.own (aQ.keep (fun b hb _=>⟨hb.1,rfl⟩) _ _ h.red) h.len (fun g hg=>.inr (h.own.lt g hg).1)
theorem aH.eP (h:aH T k (fun _=>False) U w0 ds rows v w):Rd (w0.heap.size<=·) w (.sl k ds) [v]:=h.rd.weaken (fun b hb=>hb.elim False.elim id)
theorem Rd.NW {ok:Nat->Prop} {l:List D} (h:Rd ok w (.sl k l) [v]):∃ A cap rows,v=.slice A l.length cap/\l.length<=cap/\cap<=maxLen/\aQ ok w l rows/\(∀ r∈rows,r.length=k)/\Reads w w.heap.size k A l.length rows.flatten:=by
 unfold Rd at h;obtain ⟨a,cap,rows,h1,h2,h3,h4,h5,h6⟩:=h;refine ⟨a,cap,rows,by simpa using h1,h2,h3,h4,h5,?_,fun hp=>?_⟩
 ·rw [kY k rows h5,h4.len]
 ·rcases h6 with h6 | ⟨b,off,h7,h8,hb,h9⟩
  ·omega
  ·refine ⟨⟨b,off,none⟩,h7,hb,fun j u hu=>?_⟩;have e:((⟨b,off,none⟩:Addr).add j)=⟨b,off+j,none⟩:=by unfold Addr.add;split<;>simp_all
   rw [e];exact h9 j u hu
theorem Rd.aV {ok:Nat->Prop} {d:D} {cs:List jr1} (h:Rd ok w d cs) (hb:Below w.heap.size w w'):Rd ok w' d cs:=Rd.keep (fun b h1 h2=>⟨h1,hb.block b h2⟩) _ _ h
theorem Rd.inside {ok:Nat->Prop} {d:D} {cs:List jr1} (h:Rd ok w d cs):Rd (fun b=>ok b/\b<w.heap.size) w d cs:=Rd.keep (fun b h1 h2=>⟨⟨h1,h2⟩,rfl⟩) _ _ h
theorem mo.aV {ok:Nat->Prop} {l:List D} {a:Option Addr} {cap:Nat} (h:mo ok w k l a cap) (hb:Below w.heap.size w w'):mo ok w' k l a cap:=
 ⟨h.le,h.max,fun hl=>by
  obtain ⟨b,off,h1,h2,h3,h4⟩:=h.at_ hl
  refine ⟨b,off,h1,h2,Nat.lt_of_lt_of_le h3 hb.size,fun i d hd=>?_⟩;obtain ⟨r,g1,g2,g3⟩:=h4 i d hd;exact ⟨r,g1.aV hb,g2,fun j u hu=>(hb.cell (p:=⟨b,_,none⟩) h3).trans (g3 j u hu)⟩⟩
theorem jN {n:Nat} {ops:Array Oper} {rest:List Oper} {o:Oper} {a:Act} {Q:Exit->Act->jqz->Prop} (hgd:o.guard=none) (s x:Operand) (t:TypeId) (ho:o.op=.call { callee:=.builtin .append,args:=#[s,x],argTypes:=#[t,t] }) (i:TypeInfo) (z:jr1) (bytes:Nat) (ht:Tryz.prog.underlying t=some (.slice T)) (hi:Tryz.prog.info? T=some i) (hz:i.zero=some z) (hsize:i.size=k) (hby:i.bytes=bytes) (hzs:z.cells.size=k) (hsz:0<k) (h:aH T k ok U w0 ds rows v w) (hB:∀ b,ok b->b<w0.heap.size) (d:D) (r:List jr1) (hx:Rd (fun b=>ok b\/U<=b) w d r) (hr:r.length=k) (h1:∀ u∈r,u.oneCell'=true) (hdn:ds.length=n) (hn:n<=10000000) (lI:bytes<=1000) (hs:a.eval s=v) (hxe:a.eval x=.slice (some ⟨w.heap.size,0,none⟩) 1 1) (hK:∀ a' c' w',aH T k ok w'.heap.size w0 (ds++[d]) (rows++[r]) (.slice a' (n+1) c') w'->(w.alloc (.cells r.toArray T)).grownBy w' v.ownBlock->wpList Tryz.prog ops Q rest (a.put o.dst (.slice a' (n+1) c')) w') : wpList Tryz.prog ops Q (o::rest) a (w.alloc (.cells r.toArray T)):=by subst hdn;have hmul:(ds.length+1)*bytes<=140737488355328:=jnx (Nat.mul_le_mul (show ds.length+1<=10000001 by omega) lI) (by omega);refine wpList_append_own_at _ hgd s x t ho w0.heap.size T i z k bytes ht hi hz hsize hby hzs hsz v ds.length rows.flatten hs (h.own.alloc _) ⟨w.heap.size,0,none⟩ 1 1 r hxe (by omega) (Om w r T) h1 (by unfold maxLen;omega) hmul (by have:=h.aN.size;simp;omega) ?_;intro v' w' hown hg _ hat;obtain ⟨a',c',rfl⟩:=tT hown;refine hK a' c' w' ?_ hg;refine h.put hB (bE:=[r]) (es:=[d]) (aQ.one (Rd.keep (fun b hb hlt=>⟨hb,Below.heap_alloc w _ b hlt⟩) _ _ hx)) (by simp [hr]) (World.grownBy_alloc w _ none) (by simpa using hown) hg hat
theorem Fe {n m:Nat} {ops:Array Oper} {rest:List Oper} {o:Oper} {a:Act} {Q:Exit->Act->jqz->Prop} (hgd:o.guard=none) (s x:Operand) (t:TypeId) (ho:o.op=.call { callee:=.builtin .append,args:=#[s,x],argTypes:=#[t,t] }) (i:TypeInfo) (z:jr1) (bytes:Nat) (ht:Tryz.prog.underlying t=some (.slice T)) (hi:Tryz.prog.info? T=some i) (hz:i.zero=some z) (hsize:i.size=k) (hby:i.bytes=bytes) (hzs:z.cells.size=k) (hsz:0<k) (h:aH T k ok U w0 ds rows v w) (hB:∀ b,ok b->b<w0.heap.size) (vx:jr1) (hx:Rd (fun b=>ok b\/U<=b) w (.sl k es) [vx]) (h1:∀ (rs:List (List jr1)) (ok':Nat->Prop),aQ ok' w es rs->∀ u∈rs.flatten,u.oneCell'=true) (hdn:ds.length=n) (hem:es.length=m) (hn:n+m<=10000000) (lI:bytes<=1000) (hs:a.eval s=v) (hxe:a.eval x=vx) (hK:∀ a' c' rows' w',aH T k ok w'.heap.size w0 (ds++es) rows' (.slice a' (n+m) c') w'->w.grownBy w' v.ownBlock->wpList Tryz.prog ops Q rest (a.put o.dst (.slice a' (n+m) c')) w') : wpList Tryz.prog ops Q (o::rest) a w:=by subst hdn hem;obtain ⟨A,c,rs,rfl,h2,h3,h4,h5,h6⟩:=Rd.NW hx;have hmul:(ds.length+es.length)*bytes<=140737488355328:=jnx (Nat.mul_le_mul hn lI) (by omega);refine Wv _ hgd s x t ho w0.heap.size T i z k bytes ht hi hz hsize hby hzs hsz v ds.length rows.flatten hs h.own w.heap.size A es.length c rs.flatten hxe h6 (h1 rs _ h4) (by unfold maxLen;omega) hmul (by have:=h.aN.size;omega) ?_;intro v' w' hown hg hat;obtain ⟨a',c',rfl⟩:=tT hown;exact hK a' c' _ w' (h.put hB h4 h5 (World.grownBy.refl w none) hown hg hat) hg
theorem wE {n:Nat} {ops:Array Oper} {o:Oper} {a:Act} {K:Act->jqz->Prop} {Q:Exit->Act->jqz->Prop} {E:Prop} (hgd:o.guard=none) (s x:Operand) (t:TypeId) (ho:o.op=.call { callee:=.builtin .append,args:=#[s,x],argTypes:=#[t,t] }) (i:TypeInfo) (z:jr1) (bytes:Nat) (ht:Tryz.prog.underlying t=some (.slice T)) (hi:Tryz.prog.info? T=some i) (hz:i.zero=some z) (hsize:i.size=k) (hby:i.bytes=bytes) (hzs:z.cells.size=k) (hsz:0<k) (h:aH T k ok U w0 ds rows v w) (hB:∀ b,ok b->b<w0.heap.size) (d:D) (r:List jr1) (hx:Rd (fun b=>ok b\/U<=b) w d r) (hr:r.length=k) (h1:∀ u∈r,u.oneCell'=true) (hdn:ds.length=n) (hn:n<=10000000) (lI:bytes<=1000) (hs:a.eval s=v) (hxe:a.eval x=.slice (some ⟨w.heap.size,0,none⟩) 1 1) (hK:∀ a' c' w',aH T k ok w'.heap.size w0 (ds++[d]) (rows++[r]) (.slice a' (n+1) c') w'->(w.alloc (.cells r.toArray T)).grownBy w' v.ownBlock->K (a.put o.dst (.slice a' (n+1) c')) w') : if Region.wanted o (yielded ops a.tmps)=true then Oper.wp Tryz.prog o a (w.alloc (.cells r.toArray T)) K Q else E:=by subst hdn;have hmul:(ds.length+1)*bytes<=140737488355328:=jnx (Nat.mul_le_mul (show ds.length+1<=10000001 by omega) lI) (by omega);refine step_append_lies _ hgd s x t ho w0.heap.size T i z k bytes ht hi hz hsize hby hzs hsz v ds.length rows.flatten hs (h.own.alloc _) ⟨w.heap.size,0,none⟩ 1 1 r hxe (by omega) (Om w r T) h1 (by omega) (by unfold maxLen;omega) hmul (by have:=h.aN.size;simp;omega) (w.heap.size+1) (by simp) ?_;intro g cap w' hown hg hat _;refine hK _ _ w' ?_ hg;refine h.put hB (bE:=[r]) (es:=[d]) (aQ.one (Rd.keep (fun b hb hlt=>⟨hb,Below.heap_alloc w _ b hlt⟩) _ _ hx)) (by simp [hr]) (World.grownBy_alloc w _ none) (by simpa using hown) hg (hat.elim (fun e=>.inl (by rw [e];rfl)) (fun e=>.inr (by rw [e];simp [Value.ownBlock])))
def H7 (n:Nat) (w:jqz):jqz:={ w with heap:=w.heap.extract 0 n }
theorem jB {n:Nat} {w:jqz} (h:n<=w.heap.size):(H7 n w).heap.size=n:=by show (w.heap.extract 0 n).size=n;rw [Array.size_extract];omega
theorem QN {n:Nat} {w:jqz} (h:n<=w.heap.size) {b:Nat} (hb:b<n):(H7 n w).heap[b]?=w.heap[b]?:=by show (w.heap.extract 0 n)[b]?=w.heap[b]?;rw [Array.getElem?_extract];simp;omega
theorem pY {n:Nat} {w:jqz} (h:n<=w.heap.size):Below n (H7 n w) w:=
 ⟨rfl,rfl,rfl,by rw [jB h];exact h,fun b hb=>(QN h hb).symm⟩
theorem aH.base (h:aH T k (fun _=>False) U w0 ds rows v w):aH T k (fun _=>False) U (H7 w0.heap.size w) ds rows v w:=by have hz:=jB (w:=w) h.aN.size;have hb:=pY (w:=w) h.aN.size;exact ⟨by rw [hz];exact h.own,by rw [hz];exact h.red,h.len,by rw [hz];exact hb,h.oU,by rw [hz];exact h.H6,h.Lv⟩
theorem aH.hop {p n0:Nat} (h:aH T k (fun _=>False) U (H7 n0 w) ds rows v w) (hn:n0<=w.heap.size) (hp:p<n0) (hg:w.grownBy w' (some p)):aH T k (fun _=>False) U (H7 n0 w') ds rows v w':=by
 have hz:=jB (w:=w) hn;have hn':n0<=w'.heap.size:=jnx hn hg.size;have hz':=jB (w:=w') hn';have h0:=h.own;have h1:=h.red;have h2:=h.H6;rw [hz] at h0 h1 h2;refine ⟨?_,?_,h.len,?_,h.oU,by rw [hz'];exact h2,jnx h.Lv hg.size⟩
 ·rw [hz'];exact h0.kept hg (.inr (fun e=>by have:=(h0.lt p e).1;omega))
 ·rw [hz'];exact aQ.keep (fun b hb hlt=>⟨hb,hg.block b hlt (fun e=>by have e1:=Option.some.inj e;rcases hb.1 with h3 | h3;exact h3.elim;omega)⟩) _ _ h1
 ·rw [hz'];exact pY hn'
theorem aH.hop2 {p:Nat} (h:aH T k (fun _=>False) U w0 ds rows v w) (hp:p<w0.heap.size) (hg:w.grownBy w' (some p)):∃ w0',w0'.heap.size=w0.heap.size/\aH T k (fun _=>False) U w0' ds rows v w':=
 ⟨_,jB (jnx h.aN.size hg.size),h.base.hop h.aN.size hp hg⟩
end
open Go.RowKit
open Go.RowKit
open Go.RowKit
open Go.RowKit
open Go.RowKit
section
variable {T:TypeId} {k U g n c:Nat} {ok:Nat->Prop} {w0 w:jqz} {ds:List D} {rows:List (List jr1)} {d0 d1:D} {r0 r1:List jr1}
end
end Go.Proofs.YtkfnkeflalcphaaGreatDoor

