/- Plain part: different anchors for texts: the first free number. Maps of the call's own with texts as keys: a set (bool elements). Words for copies of inlines and blocks: what is not too long; blocks that are known whole. Plain laws on anchors: how long they are; what is used when the k-th one is looked for. The contract of slug.Of. Contracts of slices.Clone at the three types, and of tree.copyAttr. The contract of tree.copyAttr. tree.Inlines$1: what is collected, and the words for its walk. A row that a call builds: what its elements read lies below U; laws for append of one element and of a slice. Contracts of slug.copyAttr and slug.copyLine. The anchors that are left, in the box that slug.Anchors$1 takes them out of; which blocks get them. The contract of count.copyLine. A row that a call builds, one of whose cells is stored anew. The last element of a row, laid there as a zero, is written anew, cell by cell. -/
import Derived.Test.YtkfnkeflalcphaaGreatDoorMRFoldR
import Derived.Deep.RegionHeld3
set_option maxHeartbeats 4000000
set_option maxRecDepth 100000
open Go.Lib (hid)
namespace Go.Proofs.YtkfnkeflalcphaaGreatDoor
open Tryz
open Go.RowKit.Below renaming refl->jK7,heap_setCell->jL1,heap_alloc->jL2
open Nat renaming le_refl->jK8,le_trans->jK9
open List renaming length_append->jKq,length_map->jKx,nil_append->jL7,getElem?_append_right->jMq
open Option.some renaming inj->jL0
open Go.World renaming size_alloc->jL5,setCell->jM1
open Go renaming World->jN9,Value->jNk
def dO (T:List ByteArray) (x:ByteArray):Bool:=T.any fun y=>decide (y=x)
theorem tT (T:List ByteArray) (x:ByteArray):dO T x=true↔x∈T:=by
 unfold dO;rw [List.any_eq_true];constructor
 ·rintro ⟨y,hy,h⟩;rw [<- of_decide_eq_true h];exact hy
 ·intro h;exact ⟨x,h,decide_eq_true rfl⟩
open Go.RowKit Go.Maps
set_option linter.unusedVariables false
set_option linter.unusedSimpArgs false
theorem jB3:Keyed prog 9:=string_keyed underlying9
theorem jB4 (w:jN9):(zeroValue 4).run prog w=.ok (.bool false) w:=by kernel_rfl
def NU (s:ByteArray):Lit:=.string s.data.toList
theorem Qi (s:ByteArray) (hs:s.size<=maxLen):keyOf prog 9 (.string s)=some (NU s):=WideMaps.keyOf_string_mk underlying9 hs
theorem Xz (s t:ByteArray) (h:NU s=NU t):s=t:=by
 unfold NU at h;injection h with h
 exact ByteArray.ext (Array.toList_inj.1 h)
theorem NV {P:Program} {e:TypeId} (he:P.underlying e=some .bool) {v:jNk} {z:DataW Unit × List MemPlace} (h:plainElem P e v=some z):∃ x,v=.bool x/\z=(.lit (.bool x),[]):=by
 unfold plainElem at h;rw [he] at h;cases v<;>simp at h
 exact ⟨_,rfl,h.symm⟩
def fB (w:jN9) (b n:Nat) (S:List ByteArray):Prop:=
 ∃ D:DataW Unit,w.ownsMap prog 9 (plainElem prog 4) b n D/\∀ s:ByteArray,D.atKey (NU s) (.lit (.bool false))=.lit (.bool (dO S s))
theorem NW {w:jN9} {k:TypeId} {R:jNk->Option (DataW Unit × List MemPlace)} {b n:Nat} {D:DataW Unit} (h:w.ownsMap prog k R b n D):IsMap D:=by obtain ⟨es,c,_,_,_,rfl⟩:=h;exact ⟨_,rfl⟩
theorem XB (s:ByteArray):WideAt.IsKeyLit (NU s):=by unfold NU;simp [WideAt.IsKeyLit]
theorem fB.look {w:jN9} {b n:Nat} {S:List ByteArray} (h:fB w b n S) (s:ByteArray) (hs:s.size<=maxLen) : (Instr.lookup 127 (.map (some b)) (.string s) false).run prog w=.ok (.bool (dO S s)) w:=by obtain ⟨D,hD,hat⟩:=h;obtain ⟨v,ps,hrun,hv⟩:=hD.lookup jB3 underlying127 (jB4 w) (plainElem_bool underlying4 false) (Qi s hs);obtain ⟨x,rfl,hx⟩:=NV underlying4 hv;rw [hat s] at hx;simp only [Prod.mk.injEq] at hx;have:dO S s=x:=Lit.bool.inj (DataW.lit.inj hx.1);subst this;exact hrun
theorem fB.put {w:jN9} {b n:Nat} {S:List ByteArray} (h:fB w b n S) (s:ByteArray) (hs:s.size<=maxLen) (hn:n<maxLen) : ∃ w',(Instr.mapUpdate 127 (.map (some b)) (.string s) (.bool true)).run prog w=.ok () w'/\fB w' b (n+1) (s::S)/\w.grownBy w' (some b):=by
 obtain ⟨D,hD,hat⟩:=h;obtain ⟨w',hrun,hD',hg⟩:=hD.update jB3 underlying127 hn (Qi s hs) (plainElem_bool underlying4 true);refine ⟨w',hrun,⟨_,hD',fun t=>?_⟩,hg⟩;by_cases e:t=s
 ·subst e;rw [atKey_put_same (NW hD) (XB t)];simp [dO]
 ·rw [atKey_put_other (fun h=>e (Xz _ _ h)),hat t];have:dO (s::S) t=dO S t:=by simp [dO,show ¬ s=t from fun h=>e h.symm]
  rw [this]
theorem fB.made (w:jN9):fB (w.alloc (.map #[] 0)) w.heap.size 0 []:=
 ⟨_,World.ownsMap_made w _ _ _,fun s=>rfl⟩
theorem fB.kept {w w':jN9} {b n:Nat} {S:List ByteArray} {row:Option Nat} (h:fB w b n S) (hg:w.grownBy w' row) (hne:some b≠row):fB w' b n S:=by obtain ⟨D,hD,hat⟩:=h;exact ⟨D,hD.kept hg hne,hat⟩
theorem TH {w w':jN9} (hb:Below w.heap.size w w'):w.grownBy w' none:=⟨hb.os,hb.tape,hb.output,hb.size,fun i hi _=>hb.block i hi⟩
theorem fB.below {w w':jN9} {b n:Nat} {S:List ByteArray} (h:fB w b n S) (hb:Below w.heap.size w w'):fB w' b n S:=h.kept (TH hb) (by simp)
open Go.RowKit
theorem Jd:(prog.info? 9).map (fun i=>(i.zero,i.size,i.bytes))=some (some (.string ByteArray.empty),1,16):=by kernel_rfl
theorem vQ {x y:ByteArray} (h:y≠x):(y.toList==x.toList)=false:=by rw [beq_eq_false_iff_ne];intro e;apply h;apply ByteArray.ext;apply Array.toList_inj.1;rw [<- Lib.toList_data,<- Lib.toList_data,e]
theorem wL (l:List ByteArray) (k:Nat) (y x:ByteArray) (h:l[k]?=some y):dO (l.take (k+1)) x=(dO (l.take k) x||decide (y=x)):=by unfold dO;rw [List.take_add_one,h];simp
theorem wM (l:List ByteArray) (k:Nat) (x:ByteArray) (h:dO (l.take k) x=true):dO l x=true:=by rw [tT] at *;exact List.mem_of_mem_take h
theorem qZ:(prog.info? 61).map (fun i=>(i.zero,i.size,i.bytes))=some (some (.agg #[.string ByteArray.empty,.string ByteArray.empty]),2,32):=by kernel_rfl
theorem uS (w:jN9) (B:Nat) (e:TypeId) (k:Nat):w.ownsRow B e k (.slice none 0 0) 0 []:=⟨by simp,.inl ⟨rfl,rfl⟩⟩
def RB (w w':jN9):Prop:=w'.heap[w.heap.size+1]?=some (.cells #[.string ⟨#[]⟩,.slice none 0 0,.slice none 0 0] 45 (0,0))
theorem Hl {w:jN9} {B:Nat} {e:TypeId} {k:Nat} {v:jNk} {n:Nat} {xs:List jNk} (h:w.ownsRow B e k v n xs) (p:Addr) (u:jNk) (hne:v.ownBlock≠some p.block):(w.setCell p u).ownsRow B e k v n xs:=by
 refine ⟨h.1,?_⟩;rcases h.2 with h0 | ⟨g,cap,cur,rfl,hg,hh,r⟩
 ·exact .inl h0
 ·exact .inr ⟨g,cap,cur,rfl,hg,(jL1 w p u g (fun e'=>hne (by rw [<- e'];rfl))).trans hh,r⟩
theorem aO.XC {ok ok':Nat->Prop} {w w':jN9} {l:List ByteArray} {rows:List (List jNk)} (h:aO ok w (l.map D.str) rows):aO ok' w' (l.map D.str) rows:=by rw [aO.pO l rows h];exact aO.strs l
theorem aO.Qj {ok ok':Nat->Prop} {w w':jN9}:∀ {l:List Pr} {rows:List (List jNk)},aO ok w (l.map Pr.d) rows->aO ok' w' (l.map Pr.d) rows
 | [],_,h=>by rw [h.dw];exact aO.none
 | p::l,_,h=>by
  obtain ⟨r,rs,rfl,h1,h2⟩:=aO.aF (d:=p.d) (ds:=l.map Pr.d) h;rw [Pr.open_ h1];exact aO.cons (Pr.fC ok' w' p) (aO.Qj h2)
theorem aO.Qk {ok ok':Nat->Prop} {w w':jN9}:∀ {l:List Ci} {rows:List (List jNk)},aO ok w (l.map Ci.d) rows->aO ok' w' (l.map Ci.d) rows
 | [],_,h=>by rw [h.dw];exact aO.none
 | p::l,_,h=>by
  obtain ⟨r,rs,rfl,h1,h2⟩:=aO.aF (d:=p.d) (ds:=l.map Ci.d) h;rw [Ci.open_ h1];exact aO.cons (Ci.fC ok' w' p) (aO.Qk h2)
theorem MP:(prog.info? 66).map (fun i=>(i.zero,i.size,i.bytes))=some (some (.agg #[.int .i64 0,.string ByteArray.empty,.string ByteArray.empty,.string ByteArray.empty,.string ByteArray.empty,.slice none 0 0,.slice none 0 0,.slice none 0 0,.slice none 0 0,.slice none 0 0]),10,192):=by kernel_rfl
theorem ju8:(prog.info? 121).map (fun i=>(i.zero,i.size,i.bytes))=some (some (.agg #[.string ByteArray.empty,.string ByteArray.empty,.string ByteArray.empty,.bool false]),4,56):=by kernel_rfl
mutual
def aj.bd:aj->Prop
 | .mk _ _ _ _ a ar ci ks=>a.cls.length<=1000000/\a.aD.length<=1000000/\ar.length<=1000000/\ci.length<=1000000/\aj.mh ks
def aj.mh:List aj->Prop
 | []=>True
 | x::l=>x.bd/\aj.mh l
end
theorem aj.mM:∀ (l:List aj) (k:Nat) (x:aj),aj.mh l->l[k]?=some x->x.bd
 | [],_,_,_,h=>by simp at h
 | y::l,0,x,hb,h=>by simp at h;subst h;rw [aj.mh] at hb;exact hb.1
 | y::l,k+1,x,hb,h=>by rw [aj.mh] at hb;exact aj.mM l k x hb.2 (by simpa using h)
theorem aj.NY (x:aj):1<=x.sz:=by cases x;rw [aj.sz];omega
theorem aj.dI:∀ (l:List aj),l.length<=aj.aU l
 | []=>by simp
 | x::l=>by have:=aj.dI l;have:=x.NY;rw [aj.aU];simp;omega
def PB (p:Nat) (cs:List jNk) (w:jN9):Prop:=w.heap[p]?=some (.cells cs.toArray 66 (0,0))
theorem PB.cell {p:Nat} {cs:List jNk} {w:jN9} (h:PB p cs w) (j:Nat) (u:jNk) (hu:cs[j]?=some u):w.cell? ⟨p,j,none⟩=some u:=by unfold PB at h;simp [World.cell?,h,hu]
theorem PB.free {p:Nat} {cs:List jNk} {w:jN9} (h:PB p cs w) (j:Nat):w.frozen? ⟨p,j,none⟩=false:=by unfold PB at h;simp [World.frozen?,h]
theorem PB.set {p:Nat} {cs:List jNk} {w:jN9} (h:PB p cs w) (j:Nat) (u:jNk):PB p (cs.set j u) (w.setCell ⟨p,j,none⟩ u):=by unfold PB at h ⊢;exact Jo
theorem PB.grown {p:Nat} {cs:List jNk} {w w':jN9} (h:PB p cs w) (hg:w.grownBy w' none):PB p cs w':=(hg.block p (by unfold PB at h;exact (Array.getElem?_eq_some_iff.1 h).1) (by simp)).trans h
theorem PB.lt {p:Nat} {cs:List jNk} {w:jN9} (h:PB p cs w):p<w.heap.size:=by unfold PB at h;exact (Array.getElem?_eq_some_iff.1 h).1
structure CL (w:jN9) (p:Nat) (cs:List jNk) (v:jNk) (n:Nat) (rows:List (List jNk)) (l:List aj) (wr:jN9):Prop where
 own:wr.ownsRow w.heap.size 66 10 v n rows.flatten
 red:aO (fun b=>w.heap.size<=b/\v.ownBlock≠some b/\b≠p) wr (l.map aj.d) rows
 pb:PB p cs wr
 aY:Below w.heap.size w wr
def fM (p:Nat) (w w':jN9):Prop:=∀ b,p<b->b<w.heap.size->w'.heap[b]?=w.heap[b]?
theorem fM.grown {p:Nat} {w w':jN9} (hg:w.grownBy w' none):fM p w w':=fun b _ hlt=>hg.block b hlt (by simp)
theorem fM.set {p:Nat} {w:jN9} (j:Nat) (u:jNk):fM p w (w.setCell ⟨p,j,none⟩ u):=fun b hb _=>jL1 w ⟨p,j,none⟩ u b (by show b≠p;omega)
theorem Rd.above {p:Nat} {w w':jN9} {d:D} {cs:List jNk} (h:Rd (p<·) w d cs) (ha:fM p w w'):Rd (p<·) w' d cs:=
 Rd.keep (fun b hb hlt=>⟨hb,ha b hb hlt⟩) d cs h
theorem Rd.weaken {ok ok':Nat->Prop} {w:jN9} {d:D} {cs:List jNk} (h:Rd ok w d cs) (hk:∀ b,ok b->ok' b):Rd ok' w d cs:=
 Rd.keep (fun b hb _=>⟨hk b hb,rfl⟩) d cs h
theorem AtR.above {p:Nat} {w w':jN9} {a:At} {vc vp:jNk} (h:AtR (p<·) w a vc vp) (ha:fM p w w'):AtR (p<·) w' a vc vp:=⟨h.cls.above ha,h.aD.above ha⟩
theorem AtR.weaken {ok ok':Nat->Prop} {w:jN9} {a:At} {vc vp:jNk} (h:AtR ok w a vc vp) (hk:∀ b,ok b->ok' b):AtR ok' w a vc vp:=⟨h.cls.weaken hk,h.aD.weaken hk⟩
theorem AtR.below {B:Nat} {w w':jN9} {a:At} {vc vp:jNk} (h:AtR (·<B) w a vc vp) (hb:Below B w w'):AtR (·<B) w' a vc vp:=⟨h.cls.below hb,h.aD.below hb⟩
theorem gK.below {w w':jN9} {b o:Nat} {k:Int} {t d ti id:ByteArray} {vc vp va vi vk:jNk} (h:gK w b o k t d ti id vc vp va vi vk) (hb:Below w.heap.size w w'):gK w' b o k t d ti id vc vp va vi vk:=by
 have hl:=nX h.c0;have f:∀ q,w'.cell? ⟨b,q,none⟩=w.cell? ⟨b,q,none⟩:=fun q=>hb.cell (p:=⟨b,q,none⟩) hl
 obtain ⟨c0,c1,c2,c3,c4,c5,c6,c7,c8,c9⟩:=h;exact ⟨by rw [f];exact c0,by rw [f];exact c1,by rw [f];exact c2,by rw [f];exact c3,by rw [f];exact c4,by rw [f];exact c5,by rw [f];exact c6,by rw [f];exact c7,by rw [f];exact c8,by rw [f];exact c9⟩
theorem XE:(prog.info? 48).map (fun i=>(i.zero,i.size,i.bytes))=some (some (.agg #[.int .i64 0,.int .i64 0,.string ByteArray.empty,.string ByteArray.empty,.string ByteArray.empty,.string ByteArray.empty,.string ByteArray.empty,.slice none 0 0,.slice none 0 0,.slice none 0 0,.slice none 0 0]),11,192):=by kernel_rfl
mutual
def ah.bd:ah->Prop
 | .mk _ _ _ _ _ _ a li ks=>a.cls.length<=1000000/\a.aD.length<=1000000/\aj.mh li/\aj.aU li<=1000000/\ah.mh ks
def ah.mh:List ah->Prop
 | []=>True
 | x::l=>x.bd/\ah.mh l
end
theorem ah.mM:∀ (l:List ah) (k:Nat) (x:ah),ah.mh l->l[k]?=some x->x.bd
 | [],_,_,_,h=>by simp at h
 | y::l,0,x,hb,h=>by simp at h;subst h;rw [ah.mh] at hb;exact hb.1
 | y::l,k+1,x,hb,h=>by rw [ah.mh] at hb;exact ah.mM l k x hb.2 (by simpa using h)
theorem ah.NY (x:ah):1<=x.sz:=by cases x;rw [ah.sz];omega
theorem ah.dI:∀ (l:List ah),l.length<=ah.aU l
 | []=>by simp
 | x::l=>by have:=ah.dI l;have:=x.NY;rw [ah.aU];simp;omega
section
variable {p:Nat} {cs:List jNk} {w w':jN9}
end
theorem Rd.au {ok:Nat->Prop} {w:jN9} {k:Nat} {l:List D} {v:jNk} (h:Rd ok w (.sl k l) [v]):∃ a n c,v=.slice a n c:=by obtain ⟨a',c',h',_⟩:=Rd.aB h;exact ⟨_,_,_,by simpa using h'⟩
open Go.RowKit
open Go.RowKit
open Go.RowKit
theorem NZ {w:jN9} {B k n:Nat} {xs:List jNk} (h:Reads w B k none n xs):n=0:=by
 rcases Nat.eq_zero_or_pos n with h0 | h0
 ·exact h0
 ·obtain ⟨_,e,_⟩:=h.2 h0;cases e
theorem XG {ok:Nat->Prop} {w:jN9} {l:List ByteArray} {rows:List (List jNk)} (h:aO ok w (l.map D.str) rows):∀ u∈rows.flatten,u.oneCell'=true:=by intro u hu;rw [aO.pO _ _ h,pQ] at hu;obtain ⟨s,_,rfl⟩:=List.mem_map.1 hu;rfl
theorem o9 {ok:Nat->Prop} {w:jN9}:∀ {l:List D} {rows:List (List jNk)},aO ok w l rows->(∀ d∈l,∀ r,Rd ok w d r->∀ u∈r,u.oneCell'=true)->∀ u∈rows.flatten,u.oneCell'=true
 | [],_,h,_=>by rw [h.dw];simp
 | d::ds,_,h,hk=>by
  obtain ⟨r,rs,rfl,h1,h2⟩:=h.aF;intro u hu;rw [List.flatten_cons] at hu;rcases List.mem_append.1 hu with hu | hu
  ·exact hk d (by simp) r h1 u hu
  ·exact o9 h2 (fun d' hd'=>hk d' (by simp [hd'])) u hu
theorem jbk {ok:Nat->Prop} {w:jN9} {l:List Pr} {rows:List (List jNk)} (h:aO ok w (l.map Pr.d) rows):∀ u∈rows.flatten,u.oneCell'=true:=
 o9 h fun d hd r hr u hu=>by
  obtain ⟨p,_,rfl⟩:=List.mem_map.1 hd;rw [Pr.open_ hr] at hu;simp at hu;rcases hu with rfl | rfl<;>rfl
theorem jbq {ok:Nat->Prop} {w:jN9} {l:List Ci} {rows:List (List jNk)} (h:aO ok w (l.map Ci.d) rows):∀ u∈rows.flatten,u.oneCell'=true:=
 o9 h fun d hd r hr u hu=>by
  obtain ⟨p,_,rfl⟩:=List.mem_map.1 hd;rw [Ci.open_ hr] at hu;simp at hu;rcases hu with rfl | rfl | rfl | rfl<;>rfl
def N7 (w:jN9) (d:D) (e:Ending) (w':jN9):Prop:=∃ v,e=.returned v/\Rd (w.heap.size<=·) w' d [v]/\Below w.heap.size w w'
theorem j3 (w:jN9) (e:TypeId) (k:Nat):(w.alloc (.cells #[] e)).ownsRow w.heap.size e k (.slice (some ⟨w.heap.size,0,none⟩) 0 0) 0 []:=
 ⟨by simp,.inr ⟨w.heap.size,0,#[],rfl,jK8 _,heap_alloc_new w _,jK8 _,Nat.zero_le _,by simp,by simp⟩⟩
theorem KJ{P Q:Prop}(q:Q)(h:Nonempty Q->P:=by
 intro qQ;have b1:Below w.heap.size w w1:=((Below.refl _ w).alloc (Nat.le_refl _) _).grown hg (by simp) (fun j hj=>by have e:w.heap.size=j:=Option.some.inj hj;omega);have HO:=hid hown;revert b1 HO;exact qQ.elim fun x=>x):P:=h ⟨q⟩
theorem KM{P Q:Prop}(q:Q)(h:Nonempty Q->P:=by
 intro qQ;have h0:l=[]:=List.length_eq_zero_iff.1 (NZ H5.out);revert h0;exact qQ.elim fun x=>x):P:=h ⟨q⟩
theorem XH{P:Prop}(h:P:=by
 go_wp2;go_ret;exact ⟨_,rfl,Rd.aI _ _ _,Below.refl _ _⟩):P:=h
theorem rJ (l:List ByteArray) (B:Nat) (v:jNk) (w:jN9) (h:Rd (·<B) w (jf l) [v]) (hB:B<=w.heap.size) (hl:l.length<=1000000) : Calls prog 83 #[v] w (N7 w (jf l)):=by
 obtain ⟨i0,hi,hz0,hz1,hz2⟩:=info_parts Jd;obtain ⟨A,cap,rows,rfl,h1,h2,h3,h4,h5⟩:=Rd.reads h;rw [jKx] at h1 h5;have e:(l.map D.str).length=l.length:=jKx _;rw [e];unfold maxLen at h2;have H3:=hid h3;have H4:=hid h4;have H5:=hid (h5.more hB);have H1:=hid (XG h3);clear h h3 h4 h5 e;cases A with
 | none=>
  refine KM ?_;intro h0;subst h0;have hq:=fun (w:jN9) (a:Option Addr) (n c:Nat)=>Lib.run_eql_slice_nil (P:=prog) w _ _ a n c 0 0 underlying43
  go_enter func83,ntmps83;exact XH
 | some ad=>
  have hq:=fun (w:jN9) (a:Option Addr) (n c:Nat)=>Lib.run_eql_slice_nil (P:=prog) w _ _ a n c 0 0 underlying43
  go_enter func83,ntmps83;go_wp2_with (at_builtin;refine Iu _ rfl (.tmp 5) (.tmp 6) 43 rfl w.heap.size 9 i0 _ 1 16 underlying43 hi hz0 hz1 hz2 rfl (by decide) (.slice (some ⟨w.heap.size,0,none⟩) 0 0) 0 [] rfl (j3 w _ _) w.heap.size (some ad) l.length cap rows.flatten rfl (H5.out.below ((jK7 _ w).alloc (jK8 _) _)) H1.out ?a1 ?a2 ?a3 ?_)
  case a1=>unfold maxLen;omega
  case a2=>omega
  case a3=>simp
  intro v' w1 hown hg _
  (try simp only [Nat.zero_add,jL7] at hown)
  refine KJ ?_;intro b1 HO;clear hown hg;go_wp2;go_ret;refine ⟨_,rfl,Rd.jl (rows:=rows) (B:=w.heap.size) (e:=9) ?_ (aO.XC H3.out) H4.out (fun g hg=>(HO.out.lt g hg).1),b1⟩;rw [jKx];exact HO.out
theorem Au (l:List Ci) (B:Nat) (v:jNk) (w:jN9) (h:Rd (·<B) w (Mg l) [v]) (hB:B<=w.heap.size) (hl:l.length<=1000000) : Calls prog 84 #[v] w (N7 w (Mg l)):=by
 obtain ⟨i0,hi,hz0,hz1,hz2⟩:=info_parts ju8;obtain ⟨A,cap,rows,rfl,h1,h2,h3,h4,h5⟩:=Rd.reads h;rw [jKx] at h1 h5;have e:(l.map Ci.d).length=l.length:=jKx _;rw [e];unfold maxLen at h2;have H3:=hid h3;have H4:=hid h4;have H5:=hid (h5.more hB);have H1:=hid (jbq h3);clear h h3 h4 h5 e;cases A with
 | none=>
  refine KM ?_;intro h0;subst h0;have hq:=fun (w:jN9) (a:Option Addr) (n c:Nat)=>Lib.run_eql_slice_nil (P:=prog) w _ _ a n c 0 0 underlying64
  go_enter func84,ntmps84;exact XH
 | some ad=>
  have hq:=fun (w:jN9) (a:Option Addr) (n c:Nat)=>Lib.run_eql_slice_nil (P:=prog) w _ _ a n c 0 0 underlying64
  go_enter func84,ntmps84;go_wp2_with (at_builtin;refine Iu _ rfl (.tmp 5) (.tmp 6) 64 rfl w.heap.size 121 i0 _ 4 56 underlying64 hi hz0 hz1 hz2 rfl (by decide) (.slice (some ⟨w.heap.size,0,none⟩) 0 0) 0 [] rfl (j3 w _ _) w.heap.size (some ad) l.length cap rows.flatten rfl (H5.out.below ((jK7 _ w).alloc (jK8 _) _)) H1.out ?a1 ?a2 ?a3 ?_)
  case a1=>unfold maxLen;omega
  case a2=>omega
  case a3=>simp
  intro v' w1 hown hg _
  (try simp only [Nat.zero_add,jL7] at hown)
  refine KJ ?_;intro b1 HO;clear hown hg;go_wp2;go_ret;refine ⟨_,rfl,Rd.jl (rows:=rows) (B:=w.heap.size) (e:=121) ?_ (aO.Qk H3.out) H4.out (fun g hg=>(HO.out.lt g hg).1),b1⟩;rw [jKx];exact HO.out
theorem N8 (l:List Pr) (B:Nat) (v:jNk) (w:jN9) (h:Rd (·<B) w (dx l) [v]) (hB:B<=w.heap.size) (hl:l.length<=1000000) : Calls prog 135 #[v] w (N7 w (dx l)):=by
 obtain ⟨i0,hi,hz0,hz1,hz2⟩:=info_parts qZ;obtain ⟨A,cap,rows,rfl,h1,h2,h3,h4,h5⟩:=Rd.reads h;rw [jKx] at h1 h5;have e:(l.map Pr.d).length=l.length:=jKx _;rw [e];unfold maxLen at h2;have H3:=hid h3;have H4:=hid h4;have H5:=hid (h5.more hB);have H1:=hid (jbk h3);clear h h3 h4 h5 e;cases A with
 | none=>
  refine KM ?_;intro h0;subst h0;have hq:=fun (w:jN9) (a:Option Addr) (n c:Nat)=>Lib.run_eql_slice_nil (P:=prog) w _ _ a n c 0 0 underlying24
  go_enter func135,ntmps135;exact XH
 | some ad=>
  have hq:=fun (w:jN9) (a:Option Addr) (n c:Nat)=>Lib.run_eql_slice_nil (P:=prog) w _ _ a n c 0 0 underlying24
  go_enter func135,ntmps135;go_wp2_with (at_builtin;refine Iu _ rfl (.tmp 5) (.tmp 6) 24 rfl w.heap.size 61 i0 _ 2 32 underlying24 hi hz0 hz1 hz2 rfl (by decide) (.slice (some ⟨w.heap.size,0,none⟩) 0 0) 0 [] rfl (j3 w _ _) w.heap.size (some ad) l.length cap rows.flatten rfl (H5.out.below ((jK7 _ w).alloc (jK8 _) _)) H1.out ?a1 ?a2 ?a3 ?_)
  case a1=>unfold maxLen;omega
  case a2=>omega
  case a3=>simp
  intro v' w1 hown hg _
  (try simp only [Nat.zero_add,jL7] at hown)
  refine KJ ?_;intro b1 HO;clear hown hg;go_wp2;go_ret;refine ⟨_,rfl,Rd.jl (rows:=rows) (B:=w.heap.size) (e:=61) ?_ (aO.Qj H3.out) H4.out (fun g hg=>(HO.out.lt g hg).1),b1⟩;rw [jKx];exact HO.out
open Go.RowKit
def AB (p:Nat) (cs:List jNk) (w:jN9):Prop:=w.heap[p]?=some (.cells cs.toArray 45 (0,0))
section
variable {p:Nat} {cs:List jNk} {w w':jN9}
theorem AB.cell (h:AB p cs w) (j:Nat) (u:jNk) (hu:cs[j]?=some u):w.cell? ⟨p,j,none⟩=some u:=by unfold AB at h;simp [World.cell?,h,hu]
theorem AB.free (h:AB p cs w) (j:Nat):w.frozen? ⟨p,j,none⟩=false:=by unfold AB at h;simp [World.frozen?,h]
theorem AB.set (h:AB p cs w) (j:Nat) (u:jNk):AB p (cs.set j u) (w.setCell ⟨p,j,none⟩ u):=by unfold AB at h ⊢;exact Jo
theorem AB.far (h:AB p cs w) {q:Nat} (hq:p≠q) (j:Nat) (u:jNk):AB p cs (w.setCell ⟨q,j,none⟩ u):=(jL1 w ⟨q,j,none⟩ u p hq).trans h
theorem AB.lt (h:AB p cs w):p<w.heap.size:=by unfold AB at h;exact (Array.getElem?_eq_some_iff.1 h).1
theorem AB.grown (h:AB p cs w) (hg:w.grownBy w' none):AB p cs w':=(hg.block p h.lt (by simp)).trans h
end
theorem jl6{P Q:Prop}(q:Q)(h:Nonempty Q->P:=by
 intro qQ;have K4:∀ b,w.heap.size+1<b->b<w3.heap.size->w4.heap[b]?=w3.heap[b]?:=fun b hb _=>by rw [hw4];exact Below.heap_setCell w3 ⟨w.heap.size,2,none⟩ _ b (by show b≠w.heap.size;omega)
 have R4:=hid (Rd.keep (w':=w4) (ok':=((w.heap.size+1)<·)) (fun b hb hlt=>⟨hb,K4 b hb hlt⟩) _ _ HR3.out);have S4:=hid (Rd.keep (w':=w4) (ok':=((w.heap.size+1)<·)) (fun b hb hlt=>⟨hb,K4 b hb hlt⟩) _ _ HS3.out);have b4:Below w.heap.size w w4:=by rw [hw4];exact hb3.setCell (p:=⟨w.heap.size,2,none⟩) (Nat.le_refl _) _
 rw [<- hw4];clear K4;have q0:=MZ.out.cell 0 _ rfl;have q1:=MZ.out.cell 1 _ rfl;have q2:=MZ.out.cell 2 _ rfl;have r0:=Pw.out.cell 0 _ rfl;have r1:=Pw.out.cell 1 _ rfl;have r2:=Pw.out.cell 2 _ rfl;have g0:=Pw.out.free 0;have g1:=Pw.out.free 1;have g2:=Pw.out.free 2;have FB:=hid (fun u0 u1 u2=>((b4.setCell (p:=⟨w.heap.size+1,0,none⟩) (by simp) u0).setCell (p:=⟨w.heap.size+1,1,none⟩) (by simp) u1).setCell (p:=⟨w.heap.size+1,2,none⟩) (by simp) u2);have AV:∀ (d:D) (cs:List Value),Rd ((w.heap.size+1)<·) w4 d cs->∀ u0 u1 u2,Rd (w.heap.size<=·) (((w4.setCell ⟨w.heap.size+1,0,none⟩ u0).setCell ⟨w.heap.size+1,1,none⟩ u1).setCell ⟨w.heap.size+1,2,none⟩ u2) d cs:=fun d cs hd u0 u1 u2=>
  (((hd.above (fM.set 0 u0)).above (fM.set 1 u1)).above (fM.set 2 u2)).weaken (fun b hb=>by omega)
 have HAV:=hid AV;clear AV b4;revert R4 S4 q0 q1 q2 r0 r1 r2 g0 g1 g2 FB HAV;exact qQ.elim fun x=>x):P:=h ⟨q⟩
theorem jl7{P Q:Prop}(q:Q)(h:Nonempty Q->P:=by
 intro qQ;obtain ⟨w0,hw0⟩:∃ w0,w0=(w.alloc (.cells #[.string at_.id,.slice ac nc cc,.slice ap np cp] 45)).alloc (.cells #[.string ⟨#[]⟩,.slice none 0 0,.slice none 0 0] 45):=⟨_,rfl⟩;have P0:AB w.heap.size [.string at_.id,.slice ac nc cc,.slice ap np cp] w0:=by rw [hw0];exact (Below.heap_alloc _ _ _ (by simp)).trans (heap_alloc_new w _)
 have Q0:AB (w.heap.size+1) [.string ⟨#[]⟩,.slice none 0 0,.slice none 0 0] w0:=by rw [hw0];have:=heap_alloc_new (w.alloc (.cells #[.string at_.id,.slice ac nc cc,.slice ap np cp] 45)) (.cells #[.string ⟨#[]⟩,.slice none 0 0,.slice none 0 0] 45);rw [World.size_alloc] at this;exact this
 have b0:Below w.heap.size w w0:=by rw [hw0];exact ((Below.refl _ w).alloc (Nat.le_refl _) _).alloc (by simp) _
 have hs0:w.heap.size+2<=w0.heap.size:=by rw [hw0];simp
 rw [<- hw0];clear hw0;have CS:=hid (rJ at_.cls B _ w0 (HA.out.cls.below (b0.mono hB)) (Nat.le_trans hB b0.size) hc);have d1:=P0.cell 1 _ rfl;have HP0:=hid P0;have HQ0:=hid Q0;clear P0 Q0;revert w0 b0 hs0 CS d1 HP0 HQ0;exact qQ.elim fun x=>x):P:=h ⟨q⟩
theorem jl8{P Q:Prop}(q:Q)(h:Nonempty Q->P:=by
 intro qQ;obtain ⟨w2,hw2⟩:∃ w2,w2=w1.setCell ⟨w.heap.size,1,none⟩ (.slice a1 n1 c1):=⟨_,rfl⟩;have P2:AB w.heap.size [.string at_.id,.slice a1 n1 c1,.slice ap np cp] w2:=by rw [hw2];exact Y7.out.set 1 _
 have Q2:AB (w.heap.size+1) [.string ⟨#[]⟩,.slice none 0 0,.slice none 0 0] w2:=by rw [hw2];exact HQ1.out.far (by omega) 1 _
 have R2:Hid (Rd ((w.heap.size+1)<·) w2 (jf at_.cls) [.slice a1 n1 c1]):=by show Rd _ _ _ _;rw [hw2];exact Rd.keep (fun b hb hlt=>⟨hb,Below.heap_setCell w1 ⟨w.heap.size,1,none⟩ _ b (by show b≠w.heap.size;omega)⟩) _ _ HR1.out
 have b2:Below w.heap.size w w2:=by rw [hw2];exact hb1.setCell (p:=⟨w.heap.size,1,none⟩) (Nat.le_refl _) _
 have hs2:w.heap.size+2<=w2.heap.size:=by rw [hw2];simpa [World.setCell] using hs1
 rw [<- hw2];clear hw2;have CP:=hid (N8 at_.aD B _ w2 (HA.out.aD.below (b2.mono hB)) (Nat.le_trans hB b2.size) hp);have d2:=P2.cell 2 _ rfl;have Rh:=hid P2;have LW:=hid Q2;clear P2 Q2;revert w2 R2 b2 hs2 CP d2 Rh LW;exact qQ.elim fun x=>x):P:=h ⟨q⟩
theorem jl9{P Q:Prop}(q:Q)(h:Nonempty Q->P:=by
 intro qQ;have P3:=Rh.out.grown (TH b3);have Q3:=LW.out.grown (TH b3);have MZ:=hid (P3.set 2 (.slice a3 n3 c3));have Pw:=hid (Q3.far (q:=w.heap.size) (by omega) 2 (.slice a3 n3 c3));have HR3:=hid (hr3.weaken (ok':=((w.heap.size+1)<·)) (fun b hb=>by omega));have HS3:=hid (Rd.keep (ok':=((w.heap.size+1)<·)) (fun b hb hlt=>⟨hb,b3.block b hlt⟩) _ _ R2.out);have hb3:=q01 b2 b3;have d2:=P3.cell 2 _ rfl;have f2:=P3.free 2;revert P3 Q3 MZ Pw HR3 HS3 hb3 d2 f2;exact qQ.elim fun x=>x):P:=h ⟨q⟩
theorem jlj{P Q:Prop}(q:Q)(h:Nonempty Q->P:=by
 intro qQ;have P1:=HP0.out.grown (TH b1);have Q1:=HQ0.out.grown (TH b1);have Y7:=hid P1;have HQ1:=hid Q1;have HR1:=hid (hr1.weaken (ok':=((w.heap.size+1)<·)) (fun b hb=>by omega));have hb1:=q01 b0 b1;have hs1:w.heap.size+2<=w1.heap.size:=Nat.le_trans hs0 b1.size;have d1:=P1.cell 1 _ rfl;have f1:=P1.free 1;revert P1 Q1 Y7 HQ1 HR1 hb1 hs1 d1 f1;exact qQ.elim fun x=>x):P:=h ⟨q⟩
theorem DF (at_:At) (vc vp:Value) (B:Nat) (w:World) (h:AtR (·<B) w at_ vc vp) (hB:B<=w.heap.size) (hc:at_.cls.length<=1000000) (hp:at_.aD.length<=1000000) : Calls prog 82 #[.agg #[.string at_.id,vc,vp]] w fun e w'=>∃ J8 J9,e=.returned (.agg #[.string at_.id,J8,J9])/\AtR (w.heap.size<=·) w' at_ J8 J9/\Below w.heap.size w w':=by
 obtain ⟨ac,nc,cc,rfl⟩:=Rd.au h.cls;obtain ⟨ap,np,cp,rfl⟩:=Rd.au h.aD;have HA:=hid h;clear h;go_enter func82,ntmps82;go_upto_region 1 with (fail)
 refine jl7 ?_;intro w0 b0 hs0 CS d1 HP0 HQ0;go_wp2_with fail
 refine CS.out.mono ?_;rintro e w1 ⟨v1,rfl,hr1,b1⟩;obtain ⟨a1,n1,c1,rfl⟩:=Rd.au hr1;refine jlj ?_;intro P1 Q1 Y7 HQ1 HR1 hb1 hs1 d1 f1;clear P1 Q1 HP0 HQ0 CS hr1 b0 b1 hs0;go_upto_region 2 with (fail)
 refine jl8 ?_;clear Y7 HQ1 HR1 hb1 hs1 d1 f1;intro w2 R2 b2 hs2 CP d2 Rh LW;go_wp2_with fail
 refine CP.out.mono ?_;rintro e w3 ⟨v3,rfl,hr3,b3⟩;obtain ⟨a3,n3,c3,rfl⟩:=Rd.au hr3;refine jl9 ?_;intro P3 Q3 MZ Pw HR3 HS3 hb3 d2 f2;clear P3 Q3 Rh LW CP hr3 b2 b3 R2 hs2;go_upto_region 3 with (fail)
 obtain ⟨w4,hw4⟩:∃ w4,w4=w3.setCell ⟨w.heap.size,2,none⟩ (.slice a3 n3 c3):=⟨_,rfl⟩;rw [<- hw4] at MZ Pw;refine jl6 ?_;clear hw4 HR3 HS3 hb3 d2 f2;intro R4 S4 q0 q1 q2 r0 r1 r2 g0 g1 g2 FB HAV;go_wp2;exact bodyPost_ret (v:=.agg #[.string at_.id,.slice a1 n1 c1,.slice a3 n3 c3]) (by simp [results,results82,go_sem,r0,r1,r2]) rfl ⟨_,_,rfl,⟨HAV.out _ _ S4.out _ _ _,HAV.out _ _ R4.out _ _ _⟩,FB.out _ _ _⟩
open Go.RowKit
mutual
def aj.deep:aj->List aj
 | .mk k t d ti a ar ci ks=>.mk k t d ti a ar ci ks::aj.aT ks
def aj.aT:List aj->List aj
 | []=>[]
 | x::l=>x.deep++aj.aT l
end
theorem aj.wu (l m:List aj):aj.aT (l++m)=aj.aT l++aj.aT m:=by
 induction l with
 | nil=>rw [aj.aT];rfl
 | cons x l ih=>rw [List.cons_append,aj.aT,aj.aT,ih,List.append_assoc]
theorem aj.Av (l:List aj) (k:Nat) (x:aj) (h:l[k]?=some x):aj.aT (l.take (k+1))=aj.aT (l.take k)++x.deep:=by rw [List.take_add_one,h,aj.wu];simp [aj.aT]
mutual
theorem aj.KO:∀ (x:aj),x.deep.length=x.sz
 | .mk _ _ _ _ _ _ _ ks=>by rw [aj.deep,aj.sz,List.length_cons,aj.eF ks];omega
theorem aj.eF:∀ (l:List aj),(aj.aT l).length=aj.aU l
 | []=>by rw [aj.aT,aj.aU];rfl
 | x::l=>by rw [aj.aT,aj.aU,List.length_append,aj.KO x,aj.eF l]
end
def Y0 (bo bi:Nat):Value:=.func (.func 81) #[] #[.pointer (some ⟨bo,0,none⟩),.pointer (some ⟨bi,0,none⟩)]
def okO (B0 B:Nat) (vo:Value) (p:Nat) (b:Nat):Prop:=b<B0\/(B<=b/\vo.ownBlock≠some b/\b≠p)
structure OL (B0 B bo bi p:Nat) (vo:Value) (acc:List aj) (rows:List (List Value)) (wr:World):Prop where
 bx:wr.heap[bo]?=some (.cells #[vo] 46 (0,0))
 fn:wr.heap[bi]?=some (.cells #[Y0 bo bi] 116 (0,0))
 own:wr.ownsRow B 66 10 vo acc.length rows.flatten
 red:aO (okO B0 B vo p) wr (acc.map aj.d) rows
 len:∀ r∈rows,r.length=10
 siz:B<=wr.heap.size
section
variable {B0 B bo bi p:Nat} {vo:Value} {acc:List aj} {rows:List (List Value)} {wr w':World}
theorem OL.grown (h:OL B0 B bo bi p vo acc rows wr) (hg:wr.grownBy w' none):OL B0 B bo bi p vo acc rows w':=
 ⟨(hg.block bo (Array.getElem?_eq_some_iff.1 h.bx).1 (by simp)).trans h.bx,(hg.block bi (Array.getElem?_eq_some_iff.1 h.fn).1 (by simp)).trans h.fn,h.own.kept hg (by cases vo.ownBlock<;>simp),aO.keep (fun b hb hlt=>⟨hb,hg.block b hlt (by simp)⟩) _ _ h.red,h.len,Nat.le_trans h.siz hg.size⟩
theorem OL.set (h:OL B0 B bo bi p vo acc rows wr) (ho:bo<B) (hi:bi<B) (h0:B0<=B) (hp:B<=p) (hv:vo.ownBlock≠some p) (j:Nat) (u:Value):OL B0 B bo bi p vo acc rows (wr.setCell ⟨p,j,none⟩ u):=
 ⟨(Below.heap_setCell wr ⟨p,j,none⟩ u bo (by show bo≠p;omega)).trans h.bx,(Below.heap_setCell wr ⟨p,j,none⟩ u bi (by show bi≠p;omega)).trans h.fn,Hl h.own ⟨p,j,none⟩ u hv,
  aO.keep (fun b hb hlt=>⟨hb,Below.heap_setCell wr ⟨p,j,none⟩ u b (by show b≠p;rcases hb with hb | hb;omega;exact hb.2.2)⟩) _ _ h.red,h.len,by have:=h.siz;simpa [World.setCell] using this⟩
end
def fO (bo:Nat) (vo:Value) (w w':World):Prop:=w.heap.size<=w'.heap.size/\w'.os=w.os/\w'.tape=w.tape/\w'.output=w.output/\∀ b,b<w.heap.size->b≠bo->vo.ownBlock≠some b->w'.heap[b]?=w.heap[b]?
theorem fO.below {bo B0 B:Nat} {vo:Value} {w w':World} (h:fO bo vo w w') (h0:B0<=bo) (h1:bo<w.heap.size) (hv:∀ g,vo.ownBlock=some g->B<=g) (hB:B0<=B):Below B0 w w':=
 ⟨h.2.1,h.2.2.1,h.2.2.2.1,h.1,fun b hb=>h.2.2.2.2 b (by omega) (by omega) (fun e=>by have:=hv b e;omega)⟩
def jV (B0 B bo bi:Nat) (vo:Value) (w:World) (out:List aj) (wr:World):Prop:=
 ∃ vo' rows',OL B0 B bo bi bo vo' out rows' wr/\fO bo vo w wr/\(vo'.ownBlock=vo.ownBlock\/∃ g,w.heap.size<=g/\vo'.ownBlock=some g)
def jg5 (B0 B bo bi:Nat) (vo:Value) (w:World) (acc l:List aj) (vi:Value) (wr:World):Prop:=
 ∃ k:Nat,k<=l.length/\vi=.int .i64 k/\jV B0 B bo bi vo w (acc++aj.aT (l.take k)) wr
structure IS (B0 B bo bi p:Nat) (vo:Value) (acc:List aj) (rows:List (List Value)) (cs:List Value) (wr wx:World):Prop where
 ol:OL B0 B bo bi p vo acc rows wx
 pb:PB p cs wx
 bl:Below p wr wx
section
variable {B0 B bo bi p:Nat} {vo:Value} {acc:List aj} {rows:List (List Value)} {cs:List Value} {wr wx w':World}
theorem IS.grown (h:IS B0 B bo bi p vo acc rows cs wr wx) (hg:wx.grownBy w' none):IS B0 B bo bi p vo acc rows cs wr w':=
 ⟨h.ol.grown hg,h.pb.grown hg,h.bl.grown hg (by have:=h.pb.lt;omega) (by simp)⟩
theorem IS.set (h:IS B0 B bo bi p vo acc rows cs wr wx) (ho:bo<B) (hi:bi<B) (h0:B0<=B) (hp:B<=p) (hv:vo.ownBlock≠some p) (j:Nat) (u:Value):IS B0 B bo bi p vo acc rows (cs.set j u) wr (wx.setCell ⟨p,j,none⟩ u):=
 ⟨h.ol.set ho hi h0 hp hv j u,h.pb.set j u,h.bl.setCell (p:=⟨p,j,none⟩) (Nat.le_refl _) u⟩
end
theorem iW {w:World} {B g m cap:Nat} {e:TypeId} {xs zs:List Value} (h:w.ownsRow B e 10 (.slice (some ⟨g,0,none⟩) (m+1) cap) (m+1) (xs++zs)) (hx:xs.length=m*10) (j:Nat) (u:Value) (hu:zs[j]?=some u) (hj:j<10):w.cell? ⟨g,m*10+j,none⟩=some u:=by rw [h.cellAt (m*10+j) (by omega),List.getElem?_append_right (by omega),hx,<- hu];congr 1;omega
theorem ZM {w:World} {B g m cap k:Nat} {e:TypeId} {xs:List Value} (h:w.ownsRow B e k (.slice (some ⟨g,0,none⟩) (m+1) cap) (m+1) xs):m+1<=cap:=by
 rcases h.2 with ⟨h1,_⟩ | ⟨g',cap',cur,h1,_,_,h2,_⟩
 ·cases h1
 ·injection h1 with _ _ h3;omega
theorem jlk{P:Prop}(h:P:=by
 rw [hg0.block bo (by show bo<(w4.alloc o).heap.size;rw [World.size_alloc];omega) (fun e=>by have:=(hv.lt bo e.symm).1;omega)];exact (Below.heap_alloc w4 o bo (by omega)).trans hbx):P:=h
theorem jsk {w4 w5:jN9} {B bo g m n cap k:Nat} {e t:TypeId} {xs ys:List jNk} {o:Obj} {v vx:jNk} (hbx:w4.heap[bo]?=some (.cells #[vx] t (0,0))) (h:w5.ownsRow B e k (.slice (some ⟨g,0,none⟩) m cap) m xs) (hg0:(w4.alloc o).drew.grownBy w5 v.ownBlock) (hv:w4.ownsRow B e k v n ys) (Ih:bo<B) (hs:B<=w4.heap.size):w5.cell? ⟨bo,0,none⟩=some vx/\w5.frozen? ⟨bo,0,none⟩=false/\bo≠g:=by
 have h5:w5.heap[bo]?=some (.cells #[vx] t (0,0)):=by exact jlk
 refine ⟨by simp [World.cell?,h5],by simp [World.frozen?,h5],?_⟩;have:=(h.lt g rfl).1;omega
theorem jy6 {w4 w5:jN9} {p:Nat} {cs:List jNk} {o:Obj} {v:jNk} (h:PB p cs w4) (hg:(w4.alloc o).drew.grownBy w5 v.ownBlock) (hv:v.ownBlock≠some p):PB p cs w5:=by have hl:=h.lt;unfold PB at h ⊢;rw [hg.block p (by show p<(w4.alloc o).heap.size;rw [jL5];omega) (fun e=>hv e.symm)];exact (jL2 w4 o p hl).trans h
theorem Za {w:jN9} {B g m cap:Nat} {e:TypeId} {xs zs:List jNk} (h:w.ownsRow B e 10 (.slice (some ⟨g,0,none⟩) (m+1) cap) (m+1) (xs++zs)) (hx:xs.length=m*10) (j:Nat) (u:jNk) : (w.setCell ⟨g,m*10+j,none⟩ u).ownsRow B e 10 (.slice (some ⟨g,0,none⟩) (m+1) cap) (m+1) (xs++zs.set j u):=by have:=(h.stored (m*10+j) u).1;rw [List.set_append_right _ _ (by omega),hx,Nat.add_sub_cancel_left] at this;exact this
theorem Ql {B0 B bo bi p m g cap co:Nat} {ao:Option Addr} {acc:List aj} {rows:List (List jNk)} {cs:List jNk} {wr w4 w7:jN9} {x:aj} (h:IS B0 B bo bi p (.slice ao m co) acc rows cs wr w4) (hm:m=acc.length) (Ih:bo<B) (Jz:bi<B) (hoi:bo≠bi) (Q9:B0<=bo) (yT:B<=p) (hvp:∀ g,(Value.slice ao m co).ownBlock=some g->g<p) (hx:Rd (fun b=>b<B0\/p<b) w4 x.d cs) (hcs:cs.length=10) (hown:w7.ownsRow B 66 10 (.slice (some ⟨g,0,none⟩) (m+1) cap) (m+1) (rows.flatten++cs)) (hbx:w7.heap[bo]?=some (.cells #[.slice (some ⟨g,0,none⟩) (m+1) cap] 46 (0,0))) (hko:fO bo (.slice ao m co) w4 w7) (hat:(Value.slice ao m co).ownBlock=some g\/w4.heap.size<=g) : jV B0 B bo bi (.slice ao m co) w4 (acc++[x]) w7:=by
 have hs:=h.ol.siz;have hgv:∀ b,b<w4.heap.size->(Value.slice ao m co).ownBlock≠some b->(Value.slice (some ⟨g,0,none⟩) (m+1) cap).ownBlock≠some b:=by
  intro b hb hne e;have e':g=b:=by simpa [Value.ownBlock] using e
  subst e';rcases hat with h1 | h1
  ·exact hne h1
  ·omega
 have hne:∀ b,p<b->(Value.slice ao m co).ownBlock≠some b:=fun b hb e=>by have:=hvp b e;omega
 have hlo:∀ b,b<B->(Value.slice ao m co).ownBlock≠some b:=fun b hb e=>by have:=(h.ol.own.lt b e).1;omega
 refine ⟨_,rows++[cs],⟨hbx,?_,?_,?_,?_,jK9 hs hko.1⟩,hko,?_⟩
 ·exact (hko.2.2.2.2 bi (by omega) (fun e=>hoi e.symm) (hlo bi Jz)).trans h.ol.fn
 ·rw [jKq,List.length_singleton,<- hm,List.flatten_append,List.flatten_singleton];exact hown
 ·rw [List.map_append];refine aO.app (aO.keep (fun b hb hlt=>?_) _ _ h.ol.red) (aO.one ?_)
  ·rcases hb with hb | hb
   ·exact ⟨.inl hb,hko.2.2.2.2 b hlt (by omega) (hlo b (by omega))⟩
   ·exact ⟨.inr ⟨hb.1,hgv b hlt hb.2.1,by omega⟩,hko.2.2.2.2 b hlt (by omega) hb.2.1⟩
  ·refine Rd.keep (fun b hb hlt=>?_) _ _ hx;rcases hb with hb | hb
   ·exact ⟨.inl hb,hko.2.2.2.2 b hlt (by omega) (hlo b (by omega))⟩
   ·exact ⟨.inr ⟨by omega,hgv b hlt (hne b hb),by omega⟩,hko.2.2.2.2 b hlt (by omega) (hne b hb)⟩
 ·intro r hr;rw [List.mem_append,List.mem_singleton] at hr;rcases hr with hr | rfl
  ·exact h.ol.len r hr
  ·exact hcs
 ·rcases hat with h1 | h1
  ·exact .inl (by rw [h1];rfl)
  ·exact .inr ⟨g,h1,rfl⟩
def ten (w:jN9) (g o:Nat) (c0 c1 c2 c3 c4 c5 c6 c7 c8 c9:jNk):jN9:=((((((((((w.setCell ⟨g,o,none⟩ c0).setCell ⟨g,o+1,none⟩ c1).setCell ⟨g,o+2,none⟩ c2).setCell ⟨g,o+3,none⟩ c3).setCell ⟨g,o+4,none⟩ c4).setCell ⟨g,o+5,none⟩ c5).setCell ⟨g,o+6,none⟩ c6).setCell ⟨g,o+7,none⟩ c7).setCell ⟨g,o+8,none⟩ c8).setCell ⟨g,o+9,none⟩ c9)
theorem Qm {w:jN9} {B g m cap:Nat} {e:TypeId} {xs zs:List jNk} (h:w.ownsRow B e 10 (.slice (some ⟨g,0,none⟩) (m+1) cap) (m+1) (xs++zs)) (hx:xs.length=m*10) (hz:zs.length=10) (c0 c1 c2 c3 c4 c5 c6 c7 c8 c9:jNk) : (ten w g (m*10) c0 c1 c2 c3 c4 c5 c6 c7 c8 c9).ownsRow B e 10 (.slice (some ⟨g,0,none⟩) (m+1) cap) (m+1) (xs++[c0,c1,c2,c3,c4,c5,c6,c7,c8,c9]):=by
 obtain ⟨z0,z1,z2,z3,z4,z5,z6,z7,z8,z9,rfl⟩:∃ z0 z1 z2 z3 z4 z5 z6 z7 z8 z9,zs=[z0,z1,z2,z3,z4,z5,z6,z7,z8,z9]:=by
  match zs,hz with
  | [z0,z1,z2,z3,z4,z5,z6,z7,z8,z9],_=>exact ⟨_,_,_,_,_,_,_,_,_,_,rfl⟩
 have h:=Za h hx 0 c0;have h:=Za h hx 1 c1;have h:=Za h hx 2 c2;have h:=Za h hx 3 c3;have h:=Za h hx 4 c4;have h:=Za h hx 5 c5;have h:=Za h hx 6 c6;have h:=Za h hx 7 c7;have h:=Za h hx 8 c8;have h:=Za h hx 9 c9;exact h
theorem KP (w:jN9) (g o:Nat) (c0 c1 c2 c3 c4 c5 c6 c7 c8 c9:jNk) (b:Nat) (hb:b≠g):(ten w g o c0 c1 c2 c3 c4 c5 c6 c7 c8 c9).heap[b]?=w.heap[b]?:=by
 unfold ten
 iterate 10 rw [jL1 _ _ _ b hb]
theorem fO.set {bo:Nat} {vo:jNk} {w w':jN9} (h:fO bo vo w w') (b j:Nat) (u:jNk) (hb:b=bo\/vo.ownBlock=some b\/w.heap.size<=b):fO bo vo w (w'.setCell ⟨b,j,none⟩ u):=by refine ⟨by have:=h.1;simpa [jM1] using this,h.2.1,h.2.2.1,h.2.2.2.1,fun c hc hne Ii=>?_⟩;rw [jL1 w' ⟨b,j,none⟩ u c (by show c≠b;rintro rfl;rcases hb with hb | hb | hb;exact hne hb;exact Ii hb;omega)];exact h.2.2.2.2 c hc hne Ii
theorem fO.ten {bo:Nat} {vo:jNk} {w w':jN9} (h:fO bo vo w w') (b o:Nat) (hb:b=bo\/vo.ownBlock=some b\/w.heap.size<=b) (c0 c1 c2 c3 c4 c5 c6 c7 c8 c9:jNk):fO bo vo w (ten w' b o c0 c1 c2 c3 c4 c5 c6 c7 c8 c9):=
 ((((((((((h.set b _ _ hb).set b _ _ hb).set b _ _ hb).set b _ _ hb).set b _ _ hb).set b _ _ hb).set b _ _ hb).set b _ _ hb).set b _ _ hb).set b _ _ hb)
theorem fO.app {bo:Nat} {vo:jNk} {w w5:jN9} {o:Obj} (hg:(w.alloc o).drew.grownBy w5 vo.ownBlock):fO bo vo w w5:=by refine ⟨jK9 (by show _<=(w.alloc o).heap.size;rw [jL5];omega) hg.size,hg.os,hg.tape,hg.output,fun c hc hne Ii=>?_⟩;rw [hg.block c (by show c<(w.alloc o).heap.size;rw [jL5];omega) (fun e=>Ii e.symm)];exact jL2 w o c hc
theorem Gy {w:jN9} {bo:Nat} {v u:jNk} {t:TypeId} (h:w.heap[bo]?=some (.cells #[v] t (0,0))):(w.setCell ⟨bo,0,none⟩ u).heap[bo]?=some (.cells #[u] t (0,0)):=by exact Jo
theorem jbx {w4 w5:jN9} {B bo n k:Nat} {e t:TypeId} {ys:List jNk} {o:Obj} {v vx:jNk} (hbx:w4.heap[bo]?=some (.cells #[vx] t (0,0))) (hg0:(w4.alloc o).drew.grownBy w5 v.ownBlock) (hv:w4.ownsRow B e k v n ys) (Ih:bo<B) (hs:B<=w4.heap.size):w5.heap[bo]?=some (.cells #[vx] t (0,0)):=by exact jlk
theorem Vn {B0 B bo bi p m g cap co:Nat} {ao:Option Addr} {acc:List aj} {rows:List (List jNk)} {wr w4 w5:jN9} {x:aj} {o:Obj} {zs:List jNk} {c0 c1 c2 c3 c4 c5 c6 c7 c8 c9:jNk} (h:IS B0 B bo bi p (.slice ao m co) acc rows [c0,c1,c2,c3,c4,c5,c6,c7,c8,c9] wr w4) (hm:m=acc.length) (Ih:bo<B) (Jz:bi<B) (hoi:bo≠bi) (Q9:B0<=bo) (yT:B<=p) (hvp:∀ g,(Value.slice ao m co).ownBlock=some g->g<p) (hx:Rd (fun b=>b<B0\/p<b) w4 x.d [c0,c1,c2,c3,c4,c5,c6,c7,c8,c9]) (hown:w5.ownsRow B 66 10 (.slice (some ⟨g,0,none⟩) (m+1) cap) (m+1) (rows.flatten++zs)) (hz:zs.length=10) (hrl:rows.flatten.length=m*10) (hg:(w4.alloc o).drew.grownBy w5 (Value.slice ao m co).ownBlock) (hat:(Value.slice ao m co).ownBlock=some g\/w4.heap.size<=g) : jV B0 B bo bi (.slice ao m co) w4 (acc++[x]) ((ten w5 g (m*10) c0 c1 c2 c3 c4 c5 c6 c7 c8 c9).setCell ⟨bo,0,none⟩ (.slice (some ⟨g,0,none⟩) (m+1) cap)) /\ jV B0 B bo bi (.slice ao m co) w4 (acc++[x]) (ten (w5.setCell ⟨bo,0,none⟩ (.slice (some ⟨g,0,none⟩) (m+1) cap)) g (m*10) c0 c1 c2 c3 c4 c5 c6 c7 c8 c9):=by
 have hgb:bo≠g:=by have:=(hown.lt g rfl).1;omega
 have jB5:w5.heap[bo]?=some (.cells #[.slice ao m co] 46 (0,0)):=jbx h.ol.bx hg h.ol.own Ih h.ol.siz;have hne:(Value.slice (some ⟨g,0,none⟩) (m+1) cap).ownBlock≠some bo:=by
  intro e;have e':g=bo:=by simpa [Value.ownBlock] using e
  exact hgb e'.symm
 have hk:fO bo (.slice ao m co) w4 w5:=fO.app hg;constructor
 ·refine Ql h hm Ih Jz hoi Q9 yT hvp hx rfl (Hl (Qm hown hrl hz c0 c1 c2 c3 c4 c5 c6 c7 c8 c9) ⟨bo,0,none⟩ _ hne) ?_ ((hk.ten g _ (.inr hat) c0 c1 c2 c3 c4 c5 c6 c7 c8 c9).set bo 0 _ (.inl rfl)) hat;exact Gy ((KP w5 g _ c0 c1 c2 c3 c4 c5 c6 c7 c8 c9 bo hgb).trans jB5)
 ·refine Ql h hm Ih Jz hoi Q9 yT hvp hx rfl (Qm (Hl hown ⟨bo,0,none⟩ _ hne) hrl hz c0 c1 c2 c3 c4 c5 c6 c7 c8 c9) ?_ ((hk.set bo 0 _ (.inl rfl)).ten g _ (.inr hat) c0 c1 c2 c3 c4 c5 c6 c7 c8 c9) hat;exact (KP _ g _ c0 c1 c2 c3 c4 c5 c6 c7 c8 c9 bo hgb).trans (Gy jB5)
theorem aj.Gx (l:List aj) (k:Nat) (x:aj) (h:l[k]?=some x):aj.aU (l.take k)+x.sz<=aj.aU l:=by
 have e:aj.aT l=aj.aT (l.take (k+1))++aj.aT (l.drop (k+1)):=by rw [<- aj.wu,List.take_append_drop]
 have e2:=congrArg List.length e;rw [aj.Av l k x h] at e2;simp only [jKq,aj.eF,aj.KO] at e2;omega
theorem jV.trans {B0 B bo bi:Nat} {vo MO:jNk} {w w1:jN9} {wr:jN9} {out:List aj} (hk:fO bo vo w w1) (hor:MO.ownBlock=vo.ownBlock\/∃ g,w.heap.size<=g/\MO.ownBlock=some g) (h2:jV B0 B bo bi MO w1 out wr):jV B0 B bo bi vo w out wr:=by
 obtain ⟨vo2,bI,hol,hk2,hor2⟩:=h2;refine ⟨vo2,bI,hol,⟨jK9 hk.1 hk2.1,hk2.2.1.trans hk.2.1,hk2.2.2.1.trans hk.2.2.1,hk2.2.2.2.1.trans hk.2.2.2.1,fun b hb hne Ii=>?_⟩,?_⟩
 ·refine (hk2.2.2.2.2 b (Nat.lt_of_lt_of_le hb hk.1) hne ?_).trans (hk.2.2.2.2 b hb hne Ii);rcases hor with e | ⟨g,hg,e⟩
  ·rw [e];exact Ii
  ·rw [e];intro h;have:=jL0 h;omega
 ·rcases hor2 with e | ⟨g,hg,e⟩
  ·rw [e];exact hor
  ·exact .inr ⟨g,jK9 hk.1 hg,e⟩
theorem OL.drew {B0 B bo bi p:Nat} {vo:jNk} {acc:List aj} {rows:List (List jNk)} {wr:jN9} (h:OL B0 B bo bi p vo acc rows wr):OL B0 B bo bi p vo acc rows wr.drew:=h.grown (NA ⟨rfl,rfl,rfl,jK8 _,fun _ _ _=>rfl⟩)
theorem fO.drew {bo:Nat} {vo:jNk} {w w':jN9} (h:fO bo vo w w'):fO bo vo w w'.drew:=⟨h.1,h.2.1,h.2.2.1,h.2.2.2.1,h.2.2.2.2⟩
open Go.RowKit
structure aC (T:TypeId) (k:Nat) (ok:Nat->Prop) (U:Nat) (w0:jN9) (ds:List D) (rows:List (List jNk)) (v:jNk) (w:jN9):Prop where
 own:w.ownsRow w0.heap.size T k v ds.length rows.flatten
 red:aO (fun b=>(ok b\/w0.heap.size<=b)/\v.ownBlock≠some b/\b<U) w ds rows
 len:∀ r∈rows,r.length=k
 aY:Below w0.heap.size w0 w
 oU:∀ g,v.ownBlock=some g->g<U
 qL:w0.heap.size<=U
 CZ:U<=w.heap.size
section
variable {T:TypeId} {k U:Nat} {ok:Nat->Prop} {w0 w w':jN9} {ds es:List D} {rows bI:List (List jNk)} {v v':jNk}
theorem aC.nil (T:TypeId) (k:Nat) (ok:Nat->Prop) (w0:jN9):aC T k ok w0.heap.size w0 [] [] (.slice none 0 0) w0:=
 ⟨⟨by simp,.inl ⟨rfl,rfl⟩⟩,aO.none,by simp,jK7 _ _,by simp [Value.ownBlock],jK8 _,jK8 _⟩
theorem aC.up (h:aC T k ok U w0 ds rows v w) {U':Nat} (h1:U<=U') (h2:U'<=w.heap.size):aC T k ok U' w0 ds rows v w:=
 ⟨h.own,aO.keep (fun b hb _=>⟨⟨hb.1,hb.2.1,by omega⟩,rfl⟩) _ _ h.red,h.len,h.aY,fun g hg=>Nat.lt_of_lt_of_le (h.oU g hg) h1,jK9 h.qL h1,h2⟩
theorem aC.top (h:aC T k ok U w0 ds rows v w):aC T k ok w.heap.size w0 ds rows v w:=h.up h.CZ (jK8 _)
theorem aC.grown (h:aC T k ok U w0 ds rows v w) (hg:w.grownBy w' none):aC T k ok U w0 ds rows v w':=
 ⟨h.own.kept hg (by cases v.ownBlock<;>simp),aO.keep (fun b hb hlt=>⟨hb,hg.block b hlt (by simp)⟩) _ _ h.red,h.len,h.aY.grown hg h.aY.size (by simp),h.oU,h.qL,jK9 h.CZ hg.size⟩
theorem aC.below (h:aC T k ok U w0 ds rows v w) (hb:Below w.heap.size w w'):aC T k ok U w0 ds rows v w':=h.grown (TH hb)
theorem aC.drew (h:aC T k ok U w0 ds rows v w):aC T k ok U w0 ds rows v w.drew:=h.grown ⟨rfl,rfl,rfl,jK8 _,fun _ _ _=>rfl⟩
theorem aC.same (h:aC T k ok U w0 ds rows v w) (hs:w.heap.size<=w'.heap.size) (hos:w'.os=w.os/\w'.tape=w.tape/\w'.output=w.output) (hb:∀ b,b<U->w'.heap[b]?=w.heap[b]?):aC T k ok U w0 ds rows v w':=by
 have hl:=h.CZ;have hl0:=h.qL;refine ⟨?_,aO.keep (fun b hb' hlt=>⟨hb',hb b hb'.2.2⟩) _ _ h.red,h.len,⟨hos.1.trans h.aY.os,hos.2.1.trans h.aY.tape,hos.2.2.trans h.aY.output,jK9 h.aY.size hs,fun b hlt=>(hb b (by omega)).trans (h.aY.block b hlt)⟩,h.oU,h.qL,jK9 hl hs⟩;obtain ⟨h1,h2⟩:=h.own;refine ⟨h1,?_⟩;rcases h2 with h2 | ⟨g,cap,cur,rfl,r2,r3,r4⟩
 ·exact .inl h2
 ·exact .inr ⟨g,cap,cur,rfl,r2,(hb g (h.oU g rfl)).trans r3,r4⟩
theorem aC.slice (h:aC T k ok U w0 ds rows v w):∃ a c,v=.slice a ds.length c:=lD h.own
theorem aC.cap (h:aC T k ok U w0 ds rows v w) {n:Nat} (hn:ds.length=n):∃ a c,v=.slice a n c/\n<=c/\c<=maxLen:=by
 subst hn;rcases h.own.2 with ⟨h1,h2⟩ | ⟨g,cap,cur,h1,_,_,h2,h3,_⟩
 ·exact ⟨none,0,by rw [h1,h2],by omega,Nat.zero_le _⟩
 ·exact ⟨_,cap,h1,h2,h3⟩
theorem aC.put {w1:jN9} (h:aC T k ok U w0 ds rows v w) (hB:∀ b,ok b->b<w0.heap.size) (hes:aO (fun b=>ok b\/U<=b) w1 es bI) (hl2:∀ r∈bI,r.length=k) (hw1:w.grownBy w1 none) (hown:w'.ownsRow w0.heap.size T k v' (ds.length+es.length) (rows.flatten++bI.flatten)) (hg:w1.grownBy w' v.ownBlock) (hat:v'.ownBlock=v.ownBlock\/v'.ownBlock=some w1.heap.size) : aC T k ok w'.heap.size w0 (ds++es) (rows++bI) v' w':=by
 have hs:=hg.size;have hs1:=hw1.size;have h0:=h.qL;have h1:=h.CZ;have hV:∀ g,v.ownBlock=some g->w0.heap.size<=g/\g<U:=fun g e=>⟨(h.own.lt g e).1,h.oU g e⟩
 have hv':∀ b,b<w1.heap.size->v.ownBlock≠some b->v'.ownBlock≠some b:=by
  intro b hb hne;rcases hat with e | e
  ·rw [e];exact hne
  ·rw [e];intro h;have:=jL0 h;omega
 have hh:∀ b,b<w.heap.size->v.ownBlock≠some b->w'.heap[b]?=w.heap[b]?:=fun b hb hne=>
  (hg.block b (by omega) (fun e=>hne e.symm)).trans (hw1.block b hb (by simp))
 refine ⟨by rw [jKq,List.flatten_append];exact hown,?_,?_,?_,fun g e=>(hown.lt g e).2,by omega,jK8 _⟩
 ·refine aO.app (aO.keep (fun b hb hlt=>⟨⟨hb.1,hv' b (by omega) hb.2.1,by omega⟩,hh b hlt hb.2.1⟩) _ _ h.red) (aO.keep (fun b hb hlt=>?_) _ _ hes);have hne:v.ownBlock≠some b:=fun e=>by
   have:=hV b e;rcases hb with hb | hb
   ·have:=hB b hb;omega
   ·omega
  exact ⟨⟨hb.imp id (fun h=>by omega),hv' b hlt hne,by omega⟩,hg.block b hlt (fun e=>hne e.symm)⟩
 ·intro r hr;rcases List.mem_append.1 hr with hr | hr
  ·exact h.len r hr
  ·exact hl2 r hr
 ·refine (h.aY.grown hw1 h.aY.size (by simp)).grown hg (by have:=h.aY.size;omega) (fun g e=>(hV g e).1)
theorem aC.rd (h:aC T k ok U w0 ds rows v w):Rd (fun b=>ok b\/w0.heap.size<=b) w (.sl k ds) [v]:=
 Rd.jl h.own (aO.keep (fun b hb _=>⟨hb.1,rfl⟩) _ _ h.red) h.len (fun g hg=>.inr (h.own.lt g hg).1)
theorem aC.iZ (h:aC T k (fun _=>False) U w0 ds rows v w):Rd (w0.heap.size<=·) w (.sl k ds) [v]:=h.rd.weaken (fun b hb=>hb.elim False.elim id)
theorem Rd.Gm {ok:Nat->Prop} {l:List D} (h:Rd ok w (.sl k l) [v]):∃ A cap rows,v=.slice A l.length cap/\l.length<=cap/\cap<=maxLen/\aO ok w l rows/\(∀ r∈rows,r.length=k)/\Reads w w.heap.size k A l.length rows.flatten:=by
 unfold Rd at h;obtain ⟨a,cap,rows,h1,h2,h3,h4,h5,h6⟩:=h;refine ⟨a,cap,rows,by simpa using h1,h2,h3,h4,h5,?_,fun hp=>?_⟩
 ·rw [jQ k rows h5,h4.len]
 ·rcases h6 with h6 | ⟨b,off,h7,h8,hb,h9⟩
  ·omega
  ·refine ⟨⟨b,off,none⟩,h7,hb,fun j u hu=>?_⟩;exact jd6
theorem Rd.bP {ok:Nat->Prop} {d:D} {cs:List jNk} (h:Rd ok w d cs) (hb:Below w.heap.size w w'):Rd ok w' d cs:=Rd.keep (fun b h1 h2=>⟨h1,hb.block b h2⟩) _ _ h
theorem Rd.inside {ok:Nat->Prop} {d:D} {cs:List jNk} (h:Rd ok w d cs):Rd (fun b=>ok b/\b<w.heap.size) w d cs:=Rd.keep (fun b h1 h2=>⟨⟨h1,h2⟩,rfl⟩) _ _ h
theorem nV.bP {ok:Nat->Prop} {l:List D} {a:Option Addr} {cap:Nat} (h:nV ok w k l a cap) (hb:Below w.heap.size w w'):nV ok w' k l a cap:=
 ⟨h.le,h.max,fun hl=>by
  obtain ⟨b,off,h1,h2,h3,h4⟩:=h.at_ hl
  refine ⟨b,off,h1,h2,Nat.lt_of_lt_of_le h3 hb.size,fun i d hd=>?_⟩;obtain ⟨r,g1,g2,g3⟩:=h4 i d hd;exact ⟨r,g1.bP hb,g2,fun j u hu=>(hb.cell (p:=⟨b,_,none⟩) h3).trans (g3 j u hu)⟩⟩
theorem JD{P Q:Prop}(q:Q)(h:Nonempty Q->P:=by
 intro qQ;have hmul:(ds.length+1)*bytes<=140737488355328:=Nat.le_trans (Nat.mul_le_mul (show ds.length+1<=10000001 by omega) tX) (by omega);revert hmul;exact qQ.elim fun x=>x):P:=h ⟨q⟩
theorem jlq{P Q:Prop}(q:Q)(h:Nonempty Q->P:=by
 intro qQ;refine wpList_append_own_at _ hgd s x t ho w0.heap.size T i z k bytes ht hi hz hsize hby hzs hsz v ds.length rows.flatten hs (h.own.alloc _) ⟨w.heap.size,0,none⟩ 1 1 r hxe (by omega) (JA w r T) h1 (by unfold maxLen;omega) hmul (by have:=h.aY.size;simp;omega) ?_;exact qQ.elim fun x=>x):P:=h ⟨q⟩
theorem jlx{P:Prop}(h:P:=by
 refine h.put hB (bI:=[r]) (es:=[d]) (aO.one (Rd.keep (fun b hb hlt=>⟨hb,Below.heap_alloc w _ b hlt⟩) _ _ hx)) (by simp [hr]) (World.grownBy_alloc w _ none) (by simpa using hown) hg hat):P:=h
theorem fF {n:Nat} {ops:Array Oper} {rest:List Oper} {o:Oper} {a:Act} {Q:Exit->Act->jN9->Prop} (hgd:o.guard=none) (s x:Operand) (t:TypeId) (ho:o.op=.call { callee:=.builtin .append,args:=#[s,x],argTypes:=#[t,t] }) (i:TypeInfo) (z:jNk) (bytes:Nat) (ht:prog.underlying t=some (.slice T)) (hi:prog.info? T=some i) (hz:i.zero=some z) (hsize:i.size=k) (hby:i.bytes=bytes) (hzs:z.cells.size=k) (hsz:0<k) (h:aC T k ok U w0 ds rows v w) (hB:∀ b,ok b->b<w0.heap.size) (d:D) (r:List jNk) (hx:Rd (fun b=>ok b\/U<=b) w d r) (hr:r.length=k) (h1:∀ u∈r,u.oneCell'=true) (hdn:ds.length=n) (hn:n<=10000000) (tX:bytes<=1000) (hs:a.eval s=v) (hxe:a.eval x=.slice (some ⟨w.heap.size,0,none⟩) 1 1) (hK:∀ a' c' w',aC T k ok w'.heap.size w0 (ds++[d]) (rows++[r]) (.slice a' (n+1) c') w'->(w.alloc (.cells r.toArray T)).grownBy w' v.ownBlock->wpList prog ops Q rest (a.put o.dst (.slice a' (n+1) c')) w') : wpList prog ops Q (o::rest) a (w.alloc (.cells r.toArray T)):=by subst hdn;refine JD ?_;intro hmul;refine jlq ?_;intro v' w' hown hg _ hat;obtain ⟨a',c',rfl⟩:=lD hown;refine hK a' c' w' ?_ hg;exact jlx
theorem JI {n:Nat} {ops:Array Oper} {rest:List Oper} {o:Oper} {a:Act} {Q:Exit->Act->jN9->Prop} (hgd:o.guard=none) (s x:Operand) (t:TypeId) (ho:o.op=.call { callee:=.builtin .append,args:=#[s,x],argTypes:=#[t,t] }) (i:TypeInfo) (z:jNk) (bytes:Nat) (ht:prog.underlying t=some (.slice T)) (hi:prog.info? T=some i) (hz:i.zero=some z) (hsize:i.size=k) (hby:i.bytes=bytes) (hzs:z.cells.size=k) (hsz:0<k) (h:aC T k ok U w0 ds rows v w) (hB:∀ b,ok b->b<w0.heap.size) (d:D) (r:List jNk) (hx:Rd (fun b=>ok b\/U<=b) w d r) (hr:r.length=k) (h1:∀ u∈r,u.oneCell'=true) (hdn:ds.length=n) (hn:n<=10000000) (tX:bytes<=1000) (hs:a.eval s=v) (hxe:a.eval x=.slice (some ⟨w.heap.size,0,none⟩) 1 1) (hK:∀ a' c' w',aC T k ok w'.heap.size w0 (ds++[d]) (rows++[r]) (.slice a' (n+1) c') w'->(w.alloc (.cells r.toArray T)).grownBy w' v.ownBlock->((Value.slice a' (n+1) c').ownBlock=v.ownBlock\/(Value.slice a' (n+1) c').ownBlock=some (w.heap.size+1))->wpList prog ops Q rest (a.put o.dst (.slice a' (n+1) c')) w') : wpList prog ops Q (o::rest) a (w.alloc (.cells r.toArray T)):=by subst hdn;refine JD ?_;intro hmul;refine jlq ?_;intro v' w' hown hg _ hat;obtain ⟨a',c',rfl⟩:=lD hown;refine hK a' c' w' ?_ hg (by simpa using hat);exact jlx
theorem Js {n m:Nat} {ops:Array Oper} {rest:List Oper} {o:Oper} {a:Act} {Q:Exit->Act->jN9->Prop} (hgd:o.guard=none) (s x:Operand) (t:TypeId) (ho:o.op=.call { callee:=.builtin .append,args:=#[s,x],argTypes:=#[t,t] }) (i:TypeInfo) (z:jNk) (bytes:Nat) (ht:prog.underlying t=some (.slice T)) (hi:prog.info? T=some i) (hz:i.zero=some z) (hsize:i.size=k) (hby:i.bytes=bytes) (hzs:z.cells.size=k) (hsz:0<k) (h:aC T k ok U w0 ds rows v w) (hB:∀ b,ok b->b<w0.heap.size) (vx:jNk) (hx:Rd (fun b=>ok b\/U<=b) w (.sl k es) [vx]) (h1:∀ (rs:List (List jNk)) (ok':Nat->Prop),aO ok' w es rs->∀ u∈rs.flatten,u.oneCell'=true) (hdn:ds.length=n) (hem:es.length=m) (hn:n+m<=10000000) (tX:bytes<=1000) (hs:a.eval s=v) (hxe:a.eval x=vx) (hK:∀ a' c' rows' w',aC T k ok w'.heap.size w0 (ds++es) rows' (.slice a' (n+m) c') w'->w.grownBy w' v.ownBlock->wpList prog ops Q rest (a.put o.dst (.slice a' (n+m) c')) w') : wpList prog ops Q (o::rest) a w:=by subst hdn hem;obtain ⟨A,c,rs,rfl,h2,h3,h4,h5,h6⟩:=Rd.Gm hx;have hmul:(ds.length+es.length)*bytes<=140737488355328:=jK9 (Nat.mul_le_mul hn tX) (by omega);refine Iu _ hgd s x t ho w0.heap.size T i z k bytes ht hi hz hsize hby hzs hsz v ds.length rows.flatten hs h.own w.heap.size A es.length c rs.flatten hxe h6 (h1 rs _ h4) (by unfold maxLen;omega) hmul (by have:=h.aY.size;omega) ?_;intro v' w' hown hg hat;obtain ⟨a',c',rfl⟩:=lD hown;exact hK a' c' _ w' (h.put hB h4 h5 (World.grownBy.refl w none) hown hg hat) hg
theorem jg8{P:Prop}(h:P:=by
 refine h.put hB (bI:=[r]) (es:=[d]) (aO.one (Rd.keep (fun b hb hlt=>⟨hb,Below.heap_alloc w _ b hlt⟩) _ _ hx)) (by simp [hr]) (World.grownBy_alloc w _ none) (by simpa using hown) hg (hat.elim (fun e=>.inl (by rw [e];rfl)) (fun e=>.inr (by rw [e];simp [Value.ownBlock])))):P:=h
theorem jg7{P Q:Prop}(q:Q)(h:Nonempty Q->P:=by
 intro qQ;refine step_append_lies _ hgd s x t ho w0.heap.size T i z k bytes ht hi hz hsize hby hzs hsz v ds.length rows.flatten hs (h.own.alloc _) ⟨w.heap.size,0,none⟩ 1 1 r hxe (by omega) (JA w r T) h1 (by omega) (by unfold maxLen;omega) hmul (by have:=h.aY.size;simp;omega) (w.heap.size+1) (by simp) ?_;exact qQ.elim fun x=>x):P:=h ⟨q⟩
theorem Ab {n:Nat} {ops:Array Oper} {o:Oper} {a:Act} {K:Act->jN9->Prop} {Q:Exit->Act->jN9->Prop} {E:Prop} (hgd:o.guard=none) (s x:Operand) (t:TypeId) (ho:o.op=.call { callee:=.builtin .append,args:=#[s,x],argTypes:=#[t,t] }) (i:TypeInfo) (z:jNk) (bytes:Nat) (ht:prog.underlying t=some (.slice T)) (hi:prog.info? T=some i) (hz:i.zero=some z) (hsize:i.size=k) (hby:i.bytes=bytes) (hzs:z.cells.size=k) (hsz:0<k) (h:aC T k ok U w0 ds rows v w) (hB:∀ b,ok b->b<w0.heap.size) (d:D) (r:List jNk) (hx:Rd (fun b=>ok b\/U<=b) w d r) (hr:r.length=k) (h1:∀ u∈r,u.oneCell'=true) (hdn:ds.length=n) (hn:n<=10000000) (tX:bytes<=1000) (hs:a.eval s=v) (hxe:a.eval x=.slice (some ⟨w.heap.size,0,none⟩) 1 1) (hK:∀ a' c' w',aC T k ok w'.heap.size w0 (ds++[d]) (rows++[r]) (.slice a' (n+1) c') w'->(w.alloc (.cells r.toArray T)).grownBy w' v.ownBlock->K (a.put o.dst (.slice a' (n+1) c')) w') : if Region.wanted o (yielded ops a.tmps)=true then Oper.wp prog o a (w.alloc (.cells r.toArray T)) K Q else E:=by subst hdn;refine JD ?_;intro hmul;refine jg7 ?_;intro g cap w' hown hg hat _;refine hK _ _ w' ?_ hg;exact jg8
def Jq (n:Nat) (w:jN9):jN9:={ w with heap:=w.heap.extract 0 n }
theorem iG {n:Nat} {w:jN9} (h:n<=w.heap.size):(Jq n w).heap.size=n:=by show (w.heap.extract 0 n).size=n;rw [Array.size_extract];omega
theorem XI {n:Nat} {w:jN9} (h:n<=w.heap.size) {b:Nat} (hb:b<n):(Jq n w).heap[b]?=w.heap[b]?:=by show (w.heap.extract 0 n)[b]?=w.heap[b]?;rw [Array.getElem?_extract];simp;omega
theorem mI {n:Nat} {w:jN9} (h:n<=w.heap.size):Below n (Jq n w) w:=
 ⟨rfl,rfl,rfl,by rw [iG h];exact h,fun b hb=>(XI h hb).symm⟩
theorem aC.base (h:aC T k (fun _=>False) U w0 ds rows v w):aC T k (fun _=>False) U (Jq w0.heap.size w) ds rows v w:=by have hz:=iG (w:=w) h.aY.size;have hb:=mI (w:=w) h.aY.size;exact ⟨by rw [hz];exact h.own,by rw [hz];exact h.red,h.len,by rw [hz];exact hb,h.oU,by rw [hz];exact h.qL,h.CZ⟩
theorem aC.hop {p n0:Nat} (h:aC T k (fun _=>False) U (Jq n0 w) ds rows v w) (hn:n0<=w.heap.size) (hp:p<n0) (hg:w.grownBy w' (some p)):aC T k (fun _=>False) U (Jq n0 w') ds rows v w':=by
 have hz:=iG (w:=w) hn;have hn':n0<=w'.heap.size:=jK9 hn hg.size;have hz':=iG (w:=w') hn';have h0:=h.own;have h1:=h.red;have h2:=h.qL;rw [hz] at h0 h1 h2;refine ⟨?_,?_,h.len,?_,h.oU,by rw [hz'];exact h2,jK9 h.CZ hg.size⟩
 ·rw [hz'];exact h0.kept hg (.inr (fun e=>by have:=(h0.lt p e).1;omega))
 ·rw [hz'];exact aO.keep (fun b hb hlt=>⟨hb,hg.block b hlt (fun e=>by have e1:=jL0 e;rcases hb.1 with h3 | h3;exact h3.elim;omega)⟩) _ _ h1
 ·rw [hz'];exact mI hn'
theorem aC.hop2 {p:Nat} (h:aC T k (fun _=>False) U w0 ds rows v w) (hp:p<w0.heap.size) (hg:w.grownBy w' (some p)):∃ w0',w0'.heap.size=w0.heap.size/\aC T k (fun _=>False) U w0' ds rows v w':=
 ⟨_,iG (jK9 h.aY.size hg.size),h.base.hop h.aY.size hp hg⟩
theorem aC.DL {p:Nat} (h:aC T k ok U w0 ds rows v w) (hp:p<w0.heap.size) (hno:¬ ok p) (hg:w.grownBy w' (some p)):∃ w0',w0'.heap.size=w0.heap.size/\aC T k ok U w0' ds rows v w':=by
 have hn':w0.heap.size<=w'.heap.size:=jK9 h.aY.size hg.size;have hz':=iG (w:=w') hn';refine ⟨Jq w0.heap.size w',hz',?_,?_,h.len,?_,h.oU,by rw [hz'];exact h.qL,jK9 h.CZ hg.size⟩
 ·rw [hz'];exact h.own.kept hg (.inr (fun e=>by have:=(h.own.lt p e).1;omega))
 ·rw [hz'];exact aO.keep (fun b hb hlt=>⟨hb,hg.block b hlt (fun e=>by
   have e1:=jL0 e;subst e1;rcases hb.1 with h3 | h3
   ·exact hno h3
   ·omega)⟩) _ _ h.red
 ·rw [hz'];exact mI hn'
end
open Go.RowKit
open Go.RowKit
open Go.RowKit
open Go.RowKit
theorem KR (k:Nat):∀ (rows:List (List jNk)),(∀ r∈rows,r.length=k)->∀ (i j:Nat) (r:List jNk) (u:jNk),rows[i]?=some r->j<k->rows.flatten.set (i*k+j) u=(rows.set i (r.set j u)).flatten
 | [],_,i,j,r,u,h1,_=>by simp at h1
 | x::xs,h,0,j,r,u,h1,h2=>by
  simp at h1;subst h1;have hx:=h x (by simp);rw [Nat.zero_mul,Nat.zero_add,List.flatten_cons,List.set_append_left _ _ (by omega),List.set_cons_zero,List.flatten_cons]
 | x::xs,h,i+1,j,r,u,h1,h2=>by
  have hx:=h x (by simp);have e:(i+1)*k+j-x.length=i*k+j:=by rw [hx,Nat.add_mul];omega
  rw [List.flatten_cons,List.set_append_right _ _ (by rw [hx,Nat.add_mul];omega),e,List.set_cons_succ,List.flatten_cons,KR k xs (fun y hy=>h y (by simp [hy])) i j r u (by simpa using h1) h2]
theorem aO.setAt {ok:Nat->Prop} {w:jN9}:∀ {l:List D} {rows:List (List jNk)},aO ok w l rows->∀ (i:Nat) (d:D) (r:List jNk),l[i]?=some d->Rd ok w d r->aO ok w l (rows.set i r)
 | [],_,_,i,d,r,h1,_=>by simp at h1
 | x::xs,_,h,0,d,r,h1,h2=>by
  obtain ⟨r0,rs,rfl,h3,h4⟩:=h.aF;simp at h1;subst h1;rw [List.set_cons_zero];exact aO.cons h2 h4
 | x::xs,_,h,i+1,d,r,h1,h2=>by
  obtain ⟨r0,rs,rfl,h3,h4⟩:=h.aF;rw [List.set_cons_succ];exact aO.cons h3 (aO.setAt h4 i d r (by simpa using h1) h2)
theorem aC.cell1 {T:TypeId} {k U U' g n c:Nat} {ok:Nat->Prop} {w0 w:jN9} {ds:List D} {rows:List (List jNk)} (h:aC T k ok U w0 ds rows (.slice (some ⟨g,0,none⟩) n c) w) (i j:Nat) (r:List jNk) (d:D) (u:jNk) (hr:rows[i]?=some r) (hd:ds[i]?=some d) (hj:j<k) (h1:U<=U') (h2:U'<=w.heap.size) (hx:Rd (fun b=>(ok b\/w0.heap.size<=b)/\b≠g/\b<U') w d (r.set j u)) : aC T k ok U' w0 ds (rows.set i (r.set j u)) (.slice (some ⟨g,0,none⟩) n c) (w.setCell ⟨g,i*k+j,none⟩ u):=by
 have hn:n=ds.length:=by obtain ⟨a',c',e'⟩:=h.slice;simp at e';exact e'.2.1
 subst hn;have hg:w0.heap.size<=g:=(h.own.lt g rfl).1;have hs:(w.setCell ⟨g,i*k+j,none⟩ u).heap.size=w.heap.size:=by simp [jM1]
 have hu:=h.up h1 h2;refine ⟨?_,?_,?_,?_,hu.oU,hu.qL,by rw [hs];exact h2⟩
 ·have:=(h.own.stored (i*k+j) u).1;rw [KR k rows h.len i j r u hr hj] at this;exact this
 ·refine aO.keep (fun b hb hlt=>⟨hb,jL1 w ⟨g,i*k+j,none⟩ u b ?_⟩) _ _ (aO.setAt hu.red i d _ hd (hx.weaken (fun b hb=>⟨hb.1,fun e=>?_,hb.2.2⟩)))
  ·intro e;exact hb.2.1 (by rw [e];rfl)
  ·exact hb.2.1 (jL0 e).symm
 ·intro q hq;rcases List.mem_or_eq_of_mem_set hq with hq | rfl
  ·exact h.len q hq
  ·rw [List.length_set];exact h.len r (List.mem_of_getElem? hr)
 ·exact h.aY.setCell (p:=⟨g,i*k+j,none⟩) hg u
theorem aC.XJ {T:TypeId} {k U g n c:Nat} {ok:Nat->Prop} {w0 w:jN9} {ds:List D} {rows:List (List jNk)} {i:Nat} {r:List jNk} {d:D} (h:aC T k ok U w0 ds rows (.slice (some ⟨g,0,none⟩) n c) w) (hr:rows[i]?=some r) (hd:ds[i]?=some d) (j:Nat) (u:jNk) (r':List jNk) (hj:j<k) (hr':r.set j u=r') (hx:Rd (fun b=>(ok b\/w0.heap.size<=b)/\b≠g) w d r') : ∃ rows',rows'[i]?=some r'/\aC T k ok (w.setCell ⟨g,i*k+j,none⟩ u).heap.size w0 ds rows' (.slice (some ⟨g,0,none⟩) n c) (w.setCell ⟨g,i*k+j,none⟩ u):=by
 subst hr';refine ⟨rows.set i (r.set j u),?_,?_⟩
 ·have:=(List.getElem?_eq_some_iff.1 hr).1;rw [List.getElem?_set_self this]
 ·have hs:(w.setCell ⟨g,i*k+j,none⟩ u).heap.size=w.heap.size:=by simp [jM1]
  have:=h.cell1 i j r d u hr hd hj h.CZ (jK8 _) (Rd.keep (fun b hb hlt=>⟨⟨hb.1,hb.2,hlt⟩,rfl⟩) _ _ hx);rw [hs];exact this
theorem aC.get {T:TypeId} {k U g n c:Nat} {ok:Nat->Prop} {w0 w:jN9} {ds:List D} {rows:List (List jNk)} {i:Nat} {r:List jNk} {d:D} (h:aC T k ok U w0 ds rows (.slice (some ⟨g,0,none⟩) n c) w) (hr:rows[i]?=some r) (hd:ds[i]?=some d) : Rd (fun b=>(ok b\/w0.heap.size<=b)/\b≠g) w d r/\∀ j u,r[j]?=some u->w.cell? ⟨g,i*k+j,none⟩=some u:=by
 obtain ⟨r',h1,h2⟩:=h.red.get i d hd;obtain rfl:r=r':=by rw [hr] at h1;exact jL0 h1
 refine ⟨h2.weaken (fun b hb=>⟨hb.1,fun e=>hb.2.1 (by rw [e];rfl)⟩),fun j u hu=>?_⟩;have hc:=h.own.cells rfl (i*k+j) u (Y4 k rows h.len i j r u hr hu);rw [<- hc];congr 1;unfold Addr.add;split<;>simp_all
theorem aC.free {T:TypeId} {k U g n c:Nat} {ok:Nat->Prop} {w0 w:jN9} {ds:List D} {rows:List (List jNk)} (h:aC T k ok U w0 ds rows (.slice (some ⟨g,0,none⟩) n c) w) (hn:0<n) (j:Nat):w.frozen? ⟨g,j,none⟩=false:=by
 have hl:n=ds.length:=by obtain ⟨a',c',e'⟩:=h.slice;simp at e';exact e'.2.1
 rcases h.own.2 with ⟨h1,h2⟩ | ⟨g',cap,cur,e,_,hb,_⟩
 ·omega
 ·have e':g=g':=by simp at e;exact e.1
  subst e';simp [World.frozen?,hb]
theorem aC.at_ {T:TypeId} {k U n c:Nat} {ok:Nat->Prop} {w0 w:jN9} {ds:List D} {rows:List (List jNk)} {a:Option Addr} (h:aC T k ok U w0 ds rows (.slice a n c) w) (hn:0<ds.length):∃ g,a=some ⟨g,0,none⟩/\n=ds.length/\n<=c/\c<=maxLen/\w0.heap.size<=g:=by
 rcases h.own.2 with ⟨h1,h2⟩ | ⟨g',cap,cur,e,hg,hb,h3,h4,_⟩
 ·omega
 ·simp at e;obtain ⟨rfl,rfl,rfl⟩:=e;exact ⟨g',rfl,rfl,h3,h4,hg⟩
open Go.RowKit
def sG (w:jN9) (g:Nat):Nat->List jNk->jN9
 | _,[]=>w
 | o,c::cs=>sG (w.setCell ⟨g,o,none⟩ c) g (o+1) cs
theorem iR (g:Nat):∀ (cs:List jNk) (o:Nat) (w:jN9) (b:Nat),b≠g->(sG w g o cs).heap[b]?=w.heap[b]?
 | [],_,_,_,_=>rfl
 | c::cs,o,w,b,h=>by rw [sG,iR g cs _ _ b h];exact jL1 w ⟨g,o,none⟩ c b h
theorem sH (g:Nat):∀ (cs:List jNk) (o:Nat) (w:jN9),(sG w g o cs).heap.size=w.heap.size
 | [],_,_=>rfl
 | c::cs,o,w=>by rw [sG,sH g cs];simp [jM1]
theorem Co (g:Nat):∀ (cs:List jNk) (o:Nat) (w:jN9),(sG w g o cs).os=w.os/\(sG w g o cs).tape=w.tape/\(sG w g o cs).output=w.output
 | [],_,_=>⟨rfl,rfl,rfl⟩
 | c::cs,o,w=>Co g cs (o+1) (w.setCell ⟨g,o,none⟩ c)
theorem wP (g S o':Nat) (u:jNk) (h:S≠g):∀ (cs:List jNk) (o:Nat) (w:jN9),sG (w.setCell ⟨S,o',none⟩ u) g o cs=(sG w g o cs).setCell ⟨S,o',none⟩ u
 | [],_,_=>rfl
 | c::cs,o,w=>by
  rw [sG,sG];have e:(w.setCell ⟨S,o',none⟩ u).setCell ⟨g,o,none⟩ c=(w.setCell ⟨g,o,none⟩ c).setCell ⟨S,o',none⟩ u:=by
   unfold jM1;simp only [World.mk.injEq,and_true];apply Array.ext_getElem?;intro i;simp only [Array.getElem?_modify];by_cases h1:S=i
   ·subst h1;have hb:¬ g=S:=fun e=>h e.symm
    simp [hb]
   ·simp [h1]
  rw [e,wP g S o' u h cs]
theorem KT {B g n c k o:Nat} {T:TypeId} {xs:List jNk} (ho:xs.length=o):∀ (cs:List jNk) (j:Nat) (zs:List jNk) (W:jN9),W.ownsRow B T k (.slice (some ⟨g,0,none⟩) n c) n (xs++zs)->j+cs.length<=zs.length -> (sG W g (o+j) cs).ownsRow B T k (.slice (some ⟨g,0,none⟩) n c) n (xs++(zs.take j++cs++zs.drop (j+cs.length)))
 | [],j,zs,W,h,_=>by simpa [sG] using h
 | u::cs,j,zs,W,h,hl=>by
  have h1:=(h.stored (o+j) u).1;rw [List.set_append_right _ _ (by omega),ho,Nat.add_sub_cancel_left] at h1;simp only [List.length_cons] at hl;have h2:=KT ho cs (j+1) (zs.set j u) _ h1 (by rw [List.length_set];omega);rw [sG];have e1:(zs.set j u).take (j+1)=zs.take j++[u]:=by rw [List.take_add_one,List.take_set_of_le (jK8 _),List.getElem?_set_self (by omega)];rfl
  have e2:(zs.set j u).drop (j+1+cs.length)=zs.drop (j+(u::cs).length):=by rw [List.drop_set_of_lt (by omega)];congr 1;simp only [List.length_cons];omega
  rw [e1,e2] at h2;simpa [Nat.add_assoc] using h2
section
variable {T:TypeId} {k U g n c:Nat} {ok:Nat->Prop} {w0 w:jN9} {ds:List D} {rows:List (List jNk)} {d0 d1:D} {r0 r1:List jNk}
theorem aO.jlz {P:Nat->Prop}:∀ (ds:List D) (rows:List (List jNk)) (d0:D) (r0:List jNk),aO P w (ds++[d0]) (rows++[r0])->rows.length=ds.length->aO P w ds rows
 | [],rows,d0,r0,_,hl=>by rw [List.eq_nil_of_length_eq_zero hl];exact aO.none
 | x::ds,[],d0,r0,_,hl=>by simp at hl
 | x::ds,r::rows,d0,r0,hr,hl=>by
  obtain ⟨r',rs,e,h1,h2⟩:=hr.aF;have e':r'=r/\rs=rows++[r0]:=by simp at e;exact ⟨e.1.symm,e.2.symm⟩
  obtain ⟨rfl,rfl⟩:=e';exact aO.cons h1 (aO.jlz ds rows d0 r0 h2 (by simpa using hl))
theorem aC.jFz (h:aC T k ok U w0 (ds++[d0]) (rows++[r0]) (.slice (some ⟨g,0,none⟩) (n+1) c) w) (hn:ds.length=n) (hl:r1.length=k) (hd:Rd (fun b=>(ok b\/w0.heap.size<=b)/\g≠b/\b<U) w d1 r1) : aC T k ok U w0 (ds++[d1]) (rows++[r1]) (.slice (some ⟨g,0,none⟩) (n+1) c) (sG w g (n*k) r1):=by
 have hrl:rows.length=n:=by have:=h.red.len;simp at this;omega
 have hr0:r0.length=k:=h.len r0 (by simp);have hfl:rows.flatten.length=n*k:=by rw [jQ k rows (fun r hr=>h.len r (by simp [hr])),hrl]
 have hown:=h.own;have e1:(rows++[r0]).flatten=rows.flatten++r0:=by simp
 rw [e1,jKq,List.length_singleton,hn] at hown;have ho:=KT hfl r1 0 r0 w hown (by omega);simp only [List.take_zero,jL7,Nat.zero_add,Nat.add_zero] at ho;rw [List.drop_of_length_le (by omega),List.append_nil] at ho;have hb:∀ b,b≠g->(sG w g (n*k) r1).heap[b]?=w.heap[b]?:=fun b hb=>iR g _ _ _ b hb
 have hz:=sH g r1 (n*k) w;have hg0:w0.heap.size<=g:=(h.own.lt g rfl).1;have hos:=Co g r1 (n*k) w;refine ⟨?_,?_,?_,?_,h.oU,h.qL,by rw [hz];exact h.CZ⟩
 ·rw [show (rows++[r1]).flatten=rows.flatten++r1 by simp,jKq,List.length_singleton,hn];exact ho
 ·refine aO.app (aO.keep (fun b hb' _=>⟨hb',hb b (fun e=>by subst e;exact hb'.2.1 rfl)⟩) _ _ (aO.jlz ds rows d0 r0 h.red (by omega))) (aO.one (Rd.keep (fun b hb' _=>⟨⟨hb'.1,fun e=>hb'.2.1 (by simpa [Value.ownBlock] using e),hb'.2.2⟩,hb b (fun e=>hb'.2.1 e.symm)⟩) _ _ hd))
 ·intro r hr;rcases List.mem_append.1 hr with hr | hr
  ·exact h.len r (by simp [hr])
  ·obtain rfl:=List.mem_singleton.1 hr;exact hl
 ·exact ⟨hos.1.trans h.aY.os,hos.2.1.trans h.aY.tape,hos.2.2.trans h.aY.output,by rw [hz];exact h.aY.size,fun b hb'=>(hb b (by omega)).trans (h.aY.block b hb')⟩
theorem aC.jm0 (h:aC T k ok U w0 (ds++[d0]) (rows++[r0]) (.slice (some ⟨g,0,none⟩) (n+1) c) w) (hn:ds.length=n):(∀ j u,r0[j]?=some u->w.cell? ⟨g,n*k+j,none⟩=some u)/\∀ j,w.frozen? ⟨g,j,none⟩=false:=by
 have hrl:rows.length=n:=by have:=h.red.len;simp at this;omega
 refine ⟨fun j u hu=>?_,fun j=>h.free (by omega) j⟩;refine (h.get (i:=n) (d:=d0) (r:=r0) ?_ ?_).2 j u hu
 ·rw [jMq (by omega),hrl,Nat.sub_self];rfl
 ·rw [jMq (by omega),hn,Nat.sub_self];rfl
end
end Go.Proofs.YtkfnkeflalcphaaGreatDoor

