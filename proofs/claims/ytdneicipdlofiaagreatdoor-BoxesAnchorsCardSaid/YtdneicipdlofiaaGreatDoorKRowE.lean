/- Plain part: different anchors for texts: the first free number. Maps of the call's own with texts as keys: a set (bool elements). Words for copies of inlines and blocks: what is not too long; blocks that are known whole. Plain laws on anchors: how long they are; what is used when the k-th one is looked for. The contract of slug.Of. Contracts of slices.Clone at the three types, and of tree.copyAttr. The contract of tree.copyAttr. tree.Inlines$1: what is collected, and the words for its walk. Contracts of slug.copyAttr and slug.copyLine. The anchors that are left, in the box that slug.Anchors$1 takes them out of; which blocks get them. A row that a call builds: what its elements read lies below U; laws for append of one element and of a slice. A row that a call builds, one of whose cells is stored anew. The contract of count.copyLine. The contract of publisherref21.Of. Contracts of publisherref21.Has, Number, All. The last element of a row, laid there as a zero, is written anew, cell by cell. -/
import Derived.Test.YtdneicipdlofiaaGreatDoorKRFoldR
import Derived.Deep.RegionHeld3
set_option maxHeartbeats 4000000
set_option maxRecDepth 100000
open Go.Lib (hid)
namespace Go.Proofs.YtdneicipdlofiaaGreatDoor
open Go.RowKit.Below renaming refl->jox,heap_setCell->jp8,heap_alloc->jp9
open Nat renaming le_refl->joz,le_trans->jp0
open List renaming length_append->jp4,length_map->jp5
open Option.some renaming inj->jp7
open Go.World renaming size_alloc->jpq,setCell->jq8
open Go renaming World->js1,Value->js3
def fu (T:List ByteArray) (x:ByteArray):Bool:=T.any fun y=>decide (y=x)
theorem mW (T:List ByteArray) (x:ByteArray):fu T x=true↔x∈T:=by
 unfold fu;rw [List.any_eq_true];constructor
 ·rintro ⟨y,hy,h⟩;rw [<- of_decide_eq_true h];exact hy
 ·intro h;exact ⟨x,h,decide_eq_true rfl⟩
theorem Sw (T:List ByteArray) (x:ByteArray):fu T x=false↔x ∉ T:=by rw [<- mW,Bool.not_eq_true]
open Go.RowKit Go.Maps
set_option linter.unusedVariables false
set_option linter.unusedSimpArgs false
theorem jf7:Keyed Tryz.prog 9:=string_keyed Tryz.underlying9
theorem jf8 (w:js1):(zeroValue 4).run Tryz.prog w=.ok (.bool false) w:=by kernel_rfl
def Jb (s:ByteArray):Lit:=.string s.data.toList
theorem Kj (s:ByteArray) (hs:s.size<=maxLen):keyOf Tryz.prog 9 (.string s)=some (Jb s):=WideMaps.keyOf_string_mk Tryz.underlying9 hs
theorem Qz (s t:ByteArray) (h:Jb s=Jb t):s=t:=by
 unfold Jb at h;injection h with h
 exact ByteArray.ext (Array.toList_inj.1 h)
theorem Jc {P:Program} {e:TypeId} (he:P.underlying e=some .bool) {v:js3} {z:DataW Unit × List MemPlace} (h:plainElem P e v=some z):∃ x,v=.bool x/\z=(.lit (.bool x),[]):=by
 unfold plainElem at h;rw [he] at h;cases v<;>simp at h
 exact ⟨_,rfl,h.symm⟩
def bT (w:js1) (b n:Nat) (S:List ByteArray):Prop:=
 ∃ D:DataW Unit,w.ownsMap Tryz.prog 9 (plainElem Tryz.prog 4) b n D/\∀ s:ByteArray,D.atKey (Jb s) (.lit (.bool false))=.lit (.bool (fu S s))
theorem Jd {w:js1} {k:TypeId} {R:js3->Option (DataW Unit × List MemPlace)} {b n:Nat} {D:DataW Unit} (h:w.ownsMap Tryz.prog k R b n D):IsMap D:=by obtain ⟨es,c,_,_,_,rfl⟩:=h;exact ⟨_,rfl⟩
theorem QA (s:ByteArray):WideAt.IsKeyLit (Jb s):=by unfold Jb;simp [WideAt.IsKeyLit]
theorem bT.look {w:js1} {b n:Nat} {S:List ByteArray} (h:bT w b n S) (s:ByteArray) (hs:s.size<=maxLen) : (Instr.lookup 90 (.map (some b)) (.string s) false).run Tryz.prog w=.ok (.bool (fu S s)) w:=by obtain ⟨D,hD,hat⟩:=h;obtain ⟨v,ps,hrun,hv⟩:=hD.lookup jf7 Tryz.underlying90 (jf8 w) (plainElem_bool Tryz.underlying4 false) (Kj s hs);obtain ⟨x,rfl,hx⟩:=Jc Tryz.underlying4 hv;rw [hat s] at hx;simp only [Prod.mk.injEq] at hx;have:fu S s=x:=Lit.bool.inj (DataW.lit.inj hx.1);subst this;exact hrun
theorem bT.put {w:js1} {b n:Nat} {S:List ByteArray} (h:bT w b n S) (s:ByteArray) (hs:s.size<=maxLen) (hn:n<maxLen) : ∃ w',(Instr.mapUpdate 90 (.map (some b)) (.string s) (.bool true)).run Tryz.prog w=.ok () w'/\bT w' b (n+1) (s::S)/\w.grownBy w' (some b):=by
 obtain ⟨D,hD,hat⟩:=h;obtain ⟨w',hrun,hD',hg⟩:=hD.update jf7 Tryz.underlying90 hn (Kj s hs) (plainElem_bool Tryz.underlying4 true);refine ⟨w',hrun,⟨_,hD',fun t=>?_⟩,hg⟩;by_cases e:t=s
 ·subst e;rw [atKey_put_same (Jd hD) (QA t)];simp [fu]
 ·rw [atKey_put_other (fun h=>e (Qz _ _ h)),hat t];have:fu (s::S) t=fu S t:=by simp [fu,show ¬ s=t from fun h=>e h.symm]
  rw [this]
theorem bT.made (w:js1):bT (w.alloc (.map #[] 0)) w.heap.size 0 []:=
 ⟨_,World.ownsMap_made w _ _ _,fun s=>rfl⟩
theorem bT.kept {w w':js1} {b n:Nat} {S:List ByteArray} {row:Option Nat} (h:bT w b n S) (hg:w.grownBy w' row) (hne:some b≠row):bT w' b n S:=by obtain ⟨D,hD,hat⟩:=h;exact ⟨D,hD.kept hg hne,hat⟩
theorem PX {w w':js1} (hb:Below w.heap.size w w'):w.grownBy w' none:=⟨hb.os,hb.tape,hb.output,hb.size,fun i hi _=>hb.block i hi⟩
theorem bT.below {w w':js1} {b n:Nat} {S:List ByteArray} (h:bT w b n S) (hb:Below w.heap.size w w'):bT w' b n S:=h.kept (PX hb) (by simp)
open Go.RowKit
theorem Cu {x y:ByteArray} (h:y≠x):(y.toList==x.toList)=false:=by rw [beq_eq_false_iff_ne];intro e;apply h;apply ByteArray.ext;apply Array.toList_inj.1;rw [<- Lib.toList_data,<- Lib.toList_data,e]
theorem MH (l:List ByteArray) (k:Nat) (y x:ByteArray) (h:l[k]?=some y):fu (l.take (k+1)) x=(fu (l.take k) x||decide (y=x)):=by unfold fu;rw [List.take_add_one,h];simp
theorem MI (l:List ByteArray) (k:Nat) (x:ByteArray) (h:fu (l.take k) x=true):fu l x=true:=by rw [mW] at *;exact List.mem_of_mem_take h
theorem Qc:(Tryz.prog.info? 60).map (fun i=>(i.zero,i.size,i.bytes))=some (some (.agg #[.string ByteArray.empty,.string ByteArray.empty]),2,32):=by kernel_rfl
theorem Nv (w:js1) (B:Nat) (e:TypeId) (k:Nat):w.ownsRow B e k (.slice none 0 0) 0 []:=⟨by simp,.inl ⟨rfl,rfl⟩⟩
theorem Dw {w:js1} {B:Nat} {e:TypeId} {k:Nat} {v:js3} {n:Nat} {xs:List js3} (h:w.ownsRow B e k v n xs) (p:Addr) (u:js3) (hne:v.ownBlock≠some p.block):(w.setCell p u).ownsRow B e k v n xs:=by
 refine ⟨h.1,?_⟩;rcases h.2 with h0 | ⟨g,cap,cur,rfl,hg,hh,r⟩
 ·exact .inl h0
 ·exact .inr ⟨g,cap,cur,rfl,hg,(jp8 w p u g (fun e'=>hne (by rw [<- e'];rfl))).trans hh,r⟩
theorem aL.QB {ok ok':Nat->Prop} {w w':js1} {l:List ByteArray} {rows:List (List js3)} (h:aL ok w (l.map D.str) rows):aL ok' w' (l.map D.str) rows:=by rw [aL.kP l rows h];exact aL.strs l
theorem aL.Kk {ok ok':Nat->Prop} {w w':js1}:∀ {l:List Pr} {rows:List (List js3)},aL ok w (l.map Pr.d) rows->aL ok' w' (l.map Pr.d) rows
 | [],_,h=>by rw [h.bY];exact aL.none
 | p::l,_,h=>by
  obtain ⟨r,rs,rfl,h1,h2⟩:=aL.aD (d:=p.d) (ds:=l.map Pr.d) h;rw [Pr.open_ h1];exact aL.cons (Pr.l6 ok' w' p) (aL.Kk h2)
theorem aL.Kl {ok ok':Nat->Prop} {w w':js1}:∀ {l:List Ci} {rows:List (List js3)},aL ok w (l.map Ci.d) rows->aL ok' w' (l.map Ci.d) rows
 | [],_,h=>by rw [h.bY];exact aL.none
 | p::l,_,h=>by
  obtain ⟨r,rs,rfl,h1,h2⟩:=aL.aD (d:=p.d) (ds:=l.map Ci.d) h;rw [Ci.open_ h1];exact aL.cons (Ci.l6 ok' w' p) (aL.Kl h2)
theorem XU:(Tryz.prog.info? 43).map (fun i=>(i.zero,i.size,i.bytes))=some (some (.agg #[.int .i64 0,.string ByteArray.empty,.string ByteArray.empty,.string ByteArray.empty,.string ByteArray.empty,.slice none 0 0,.slice none 0 0,.slice none 0 0,.slice none 0 0,.slice none 0 0]),10,192):=by kernel_rfl
theorem Yq:(Tryz.prog.info? 126).map (fun i=>(i.zero,i.size,i.bytes))=some (some (.agg #[.string ByteArray.empty,.string ByteArray.empty,.string ByteArray.empty,.bool false]),4,56):=by kernel_rfl
mutual
def aj.bd:aj->Prop
 | .mk _ _ _ _ a ar ci ks=>a.cls.length<=1000000/\a.aJ.length<=1000000/\ar.length<=1000000/\ci.length<=1000000/\aj.l9 ks
def aj.l9:List aj->Prop
 | []=>True
 | x::l=>x.bd/\aj.l9 l
end
theorem aj.rA:∀ (l:List aj) (k:Nat) (x:aj),aj.l9 l->l[k]?=some x->x.bd
 | [],_,_,_,h=>by simp at h
 | y::l,0,x,hb,h=>by simp at h;subst h;rw [aj.l9] at hb;exact hb.1
 | y::l,k+1,x,hb,h=>by rw [aj.l9] at hb;exact aj.rA l k x hb.2 (by simpa using h)
theorem aj.Je (x:aj):1<=x.sz:=by cases x;rw [aj.sz];omega
theorem aj.pK:∀ (l:List aj),l.length<=aj.aX l
 | []=>by simp
 | x::l=>by have:=aj.pK l;have:=x.Je;rw [aj.aX];simp;omega
def PB (p:Nat) (cs:List js3) (w:js1):Prop:=w.heap[p]?=some (.cells cs.toArray 43 (0,0))
theorem PB.cell {p:Nat} {cs:List js3} {w:js1} (h:PB p cs w) (j:Nat) (u:js3) (hu:cs[j]?=some u):w.cell? ⟨p,j,none⟩=some u:=by unfold PB at h;simp [World.cell?,h,hu]
theorem PB.free {p:Nat} {cs:List js3} {w:js1} (h:PB p cs w) (j:Nat):w.frozen? ⟨p,j,none⟩=false:=by unfold PB at h;simp [World.frozen?,h]
theorem PB.set {p:Nat} {cs:List js3} {w:js1} (h:PB p cs w) (j:Nat) (u:js3):PB p (cs.set j u) (w.setCell ⟨p,j,none⟩ u):=by unfold PB at h ⊢;simp [jq8,Array.getElem?_modify,h]
theorem PB.grown {p:Nat} {cs:List js3} {w w':js1} (h:PB p cs w) (hg:w.grownBy w' none):PB p cs w':=(hg.block p (by unfold PB at h;exact (Array.getElem?_eq_some_iff.1 h).1) (by simp)).trans h
theorem PB.lt {p:Nat} {cs:List js3} {w:js1} (h:PB p cs w):p<w.heap.size:=by unfold PB at h;exact (Array.getElem?_eq_some_iff.1 h).1
structure CL (w:js1) (p:Nat) (cs:List js3) (v:js3) (n:Nat) (rows:List (List js3)) (l:List aj) (wr:js1):Prop where
 own:wr.ownsRow w.heap.size 43 10 v n rows.flatten
 red:aL (fun b=>w.heap.size<=b/\v.ownBlock≠some b/\b≠p) wr (l.map aj.d) rows
 pb:PB p cs wr
 gH:Below w.heap.size w wr
def eT (p:Nat) (w w':js1):Prop:=∀ b,p<b->b<w.heap.size->w'.heap[b]?=w.heap[b]?
theorem eT.grown {p:Nat} {w w':js1} (hg:w.grownBy w' none):eT p w w':=fun b _ hlt=>hg.block b hlt (by simp)
theorem eT.set {p:Nat} {w:js1} (j:Nat) (u:js3):eT p w (w.setCell ⟨p,j,none⟩ u):=fun b hb _=>jp8 w ⟨p,j,none⟩ u b (by show b≠p;omega)
theorem Rd.above {p:Nat} {w w':js1} {d:D} {cs:List js3} (h:Rd (p<·) w d cs) (ha:eT p w w'):Rd (p<·) w' d cs:=
 Rd.keep (fun b hb hlt=>⟨hb,ha b hb hlt⟩) d cs h
theorem Rd.weaken {ok ok':Nat->Prop} {w:js1} {d:D} {cs:List js3} (h:Rd ok w d cs) (hk:∀ b,ok b->ok' b):Rd ok' w d cs:=
 Rd.keep (fun b hb _=>⟨hk b hb,rfl⟩) d cs h
theorem AtR.above {p:Nat} {w w':js1} {a:At} {vc vp:js3} (h:AtR (p<·) w a vc vp) (ha:eT p w w'):AtR (p<·) w' a vc vp:=⟨h.cls.above ha,h.aJ.above ha⟩
theorem AtR.weaken {ok ok':Nat->Prop} {w:js1} {a:At} {vc vp:js3} (h:AtR ok w a vc vp) (hk:∀ b,ok b->ok' b):AtR ok' w a vc vp:=⟨h.cls.weaken hk,h.aJ.weaken hk⟩
theorem AtR.below {B:Nat} {w w':js1} {a:At} {vc vp:js3} (h:AtR (·<B) w a vc vp) (hb:Below B w w'):AtR (·<B) w' a vc vp:=⟨h.cls.below hb,h.aJ.below hb⟩
mutual
def ah.bd:ah->Prop
 | .mk _ _ _ _ _ _ a li ks=>a.cls.length<=1000000/\a.aJ.length<=1000000/\aj.l9 li/\aj.aX li<=1000000/\ah.l9 ks
def ah.l9:List ah->Prop
 | []=>True
 | x::l=>x.bd/\ah.l9 l
end
theorem ah.rA:∀ (l:List ah) (k:Nat) (x:ah),ah.l9 l->l[k]?=some x->x.bd
 | [],_,_,_,h=>by simp at h
 | y::l,0,x,hb,h=>by simp at h;subst h;rw [ah.l9] at hb;exact hb.1
 | y::l,k+1,x,hb,h=>by rw [ah.l9] at hb;exact ah.rA l k x hb.2 (by simpa using h)
theorem ah.Je (x:ah):1<=x.sz:=by cases x;rw [ah.sz];omega
theorem ah.pK:∀ (l:List ah),l.length<=ah.aX l
 | []=>by simp
 | x::l=>by have:=ah.pK l;have:=x.Je;rw [ah.aX];simp;omega
section
variable {p:Nat} {cs:List js3} {w w':js1}
end
theorem Rd.au {ok:Nat->Prop} {w:js1} {k:Nat} {l:List D} {v:js3} (h:Rd ok w (.sl k l) [v]):∃ a n c,v=.slice a n c:=by obtain ⟨a',c',h',_⟩:=Rd.aC h;exact ⟨_,_,_,by simpa using h'⟩
open Go.RowKit
open Go.RowKit
open Go.RowKit
theorem qc {w:js1} {B k n:Nat} {xs:List js3} (h:Reads w B k none n xs):n=0:=by
 rcases Nat.eq_zero_or_pos n with h0 | h0
 ·exact h0
 ·obtain ⟨_,e,_⟩:=h.2 h0;cases e
theorem QC {ok:Nat->Prop} {w:js1} {l:List ByteArray} {rows:List (List js3)} (h:aL ok w (l.map D.str) rows):∀ u∈rows.flatten,u.oneCell'=true:=by intro u hu;rw [aL.kP _ _ h,kR] at hu;obtain ⟨s,_,rfl⟩:=List.mem_map.1 hu;rfl
theorem yF {ok:Nat->Prop} {w:js1}:∀ {l:List D} {rows:List (List js3)},aL ok w l rows->(∀ d∈l,∀ r,Rd ok w d r->∀ u∈r,u.oneCell'=true)->∀ u∈rows.flatten,u.oneCell'=true
 | [],_,h,_=>by rw [h.bY];simp
 | d::ds,_,h,hk=>by
  obtain ⟨r,rs,rfl,h1,h2⟩:=h.aD;intro u hu;rw [List.flatten_cons] at hu;rcases List.mem_append.1 hu with hu | hu
  ·exact hk d (by simp) r h1 u hu
  ·exact yF h2 (fun d' hd'=>hk d' (by simp [hd'])) u hu
theorem Uk {ok:Nat->Prop} {w:js1} {l:List Pr} {rows:List (List js3)} (h:aL ok w (l.map Pr.d) rows):∀ u∈rows.flatten,u.oneCell'=true:=
 yF h fun d hd r hr u hu=>by
  obtain ⟨p,_,rfl⟩:=List.mem_map.1 hd;rw [Pr.open_ hr] at hu;simp at hu;rcases hu with rfl | rfl<;>rfl
theorem Ul {ok:Nat->Prop} {w:js1} {l:List Ci} {rows:List (List js3)} (h:aL ok w (l.map Ci.d) rows):∀ u∈rows.flatten,u.oneCell'=true:=
 yF h fun d hd r hr u hu=>by
  obtain ⟨p,_,rfl⟩:=List.mem_map.1 hd;rw [Ci.open_ hr] at hu;simp at hu;rcases hu with rfl | rfl | rfl | rfl<;>rfl
def Jf (w:js1) (d:D) (e:Ending) (w':js1):Prop:=∃ v,e=.returned v/\Rd (w.heap.size<=·) w' d [v]/\Below w.heap.size w w'
theorem qd (w:js1) (e:TypeId) (k:Nat):(w.alloc (.cells #[] e)).ownsRow w.heap.size e k (.slice (some ⟨w.heap.size,0,none⟩) 0 0) 0 []:=
 ⟨by simp,.inr ⟨w.heap.size,0,#[],rfl,joz _,heap_alloc_new w _,joz _,Nat.zero_le _,by simp,by simp⟩⟩
theorem xL (l:List ByteArray) (B:Nat) (v:js3) (w:js1) (h:Rd (·<B) w (dZ l) [v]) (hB:B<=w.heap.size) (hl:l.length<=1000000) : Calls Tryz.prog 96 #[v] w (Jf w (dZ l)):=by
 obtain ⟨i0,hi,hz0,hz1,hz2⟩:=info_parts ku;obtain ⟨A,cap,rows,rfl,h1,h2,h3,h4,h5⟩:=Rd.reads h;rw [jp5] at h1 h5;have e:(l.map D.str).length=l.length:=jp5 _;rw [e];unfold maxLen at h2;have H3:=hid h3;have H4:=hid h4;have H5:=hid (h5.more hB);have H1:=hid (QC h3);clear h h3 h4 h5 e;cases A with
 | none=>
  have h0:l=[]:=List.length_eq_zero_iff.1 (qc H5.out);subst h0;have hq:=fun (w:js1) (a:Option Addr) (n c:Nat)=>Lib.run_eql_slice_nil (P:=Tryz.prog) w _ _ a n c 0 0 Tryz.underlying35
  go_enter Tryz.func96,Tryz.ntmps96;go_wp2;go_ret;exact ⟨_,rfl,Rd.aR _ _ _,jox _ _⟩
 | some ad=>
  have hq:=fun (w:js1) (a:Option Addr) (n c:Nat)=>Lib.run_eql_slice_nil (P:=Tryz.prog) w _ _ a n c 0 0 Tryz.underlying35
  go_enter Tryz.func96,Tryz.ntmps96;go_wp2_with (at_builtin;refine Dy _ rfl (.tmp 5) (.tmp 6) 35 rfl w.heap.size 9 i0 _ 1 16 Tryz.underlying35 hi hz0 hz1 hz2 rfl (by decide) (.slice (some ⟨w.heap.size,0,none⟩) 0 0) 0 [] rfl (qd w _ _) w.heap.size (some ad) l.length cap rows.flatten rfl (H5.out.below ((jox _ w).alloc (joz _) _)) H1.out ?a1 ?a2 ?a3 ?_)
  case a1=>unfold maxLen;omega
  case a2=>omega
  case a3=>simp
  intro v' w1 hown hg _
  (try simp only [Nat.zero_add,List.nil_append] at hown)
  have b1:Below w.heap.size w w1:=((jox _ w).alloc (joz _) _).grown hg (by simp) (fun j hj=>by have e:w.heap.size=j:=jp7 hj;omega);have HO:=hid hown;clear hown hg;go_wp2;go_ret;refine ⟨_,rfl,Rd.xQ (rows:=rows) (B:=w.heap.size) (e:=9) ?_ (aL.QB H3.out) H4.out (fun g hg=>(HO.out.lt g hg).1),b1⟩;rw [jp5];exact HO.out
theorem Ir (l:List Ci) (B:Nat) (v:js3) (w:js1) (h:Rd (·<B) w (PE l) [v]) (hB:B<=w.heap.size) (hl:l.length<=1000000) : Calls Tryz.prog 97 #[v] w (Jf w (PE l)):=by
 obtain ⟨i0,hi,hz0,hz1,hz2⟩:=info_parts Yq;obtain ⟨A,cap,rows,rfl,h1,h2,h3,h4,h5⟩:=Rd.reads h;rw [jp5] at h1 h5;have e:(l.map Ci.d).length=l.length:=jp5 _;rw [e];unfold maxLen at h2;have H3:=hid h3;have H4:=hid h4;have H5:=hid (h5.more hB);have H1:=hid (Ul h3);clear h h3 h4 h5 e;cases A with
 | none=>
  have h0:l=[]:=List.length_eq_zero_iff.1 (qc H5.out);subst h0;have hq:=fun (w:js1) (a:Option Addr) (n c:Nat)=>Lib.run_eql_slice_nil (P:=Tryz.prog) w _ _ a n c 0 0 Tryz.underlying41
  go_enter Tryz.func97,Tryz.ntmps97;go_wp2;go_ret;exact ⟨_,rfl,Rd.aR _ _ _,jox _ _⟩
 | some ad=>
  have hq:=fun (w:js1) (a:Option Addr) (n c:Nat)=>Lib.run_eql_slice_nil (P:=Tryz.prog) w _ _ a n c 0 0 Tryz.underlying41
  go_enter Tryz.func97,Tryz.ntmps97;go_wp2_with (at_builtin;refine Dy _ rfl (.tmp 5) (.tmp 6) 41 rfl w.heap.size 126 i0 _ 4 56 Tryz.underlying41 hi hz0 hz1 hz2 rfl (by decide) (.slice (some ⟨w.heap.size,0,none⟩) 0 0) 0 [] rfl (qd w _ _) w.heap.size (some ad) l.length cap rows.flatten rfl (H5.out.below ((jox _ w).alloc (joz _) _)) H1.out ?a1 ?a2 ?a3 ?_)
  case a1=>unfold maxLen;omega
  case a2=>omega
  case a3=>simp
  intro v' w1 hown hg _
  (try simp only [Nat.zero_add,List.nil_append] at hown)
  have b1:Below w.heap.size w w1:=((jox _ w).alloc (joz _) _).grown hg (by simp) (fun j hj=>by have e:w.heap.size=j:=jp7 hj;omega);have HO:=hid hown;clear hown hg;go_wp2;go_ret;refine ⟨_,rfl,Rd.xQ (rows:=rows) (B:=w.heap.size) (e:=126) ?_ (aL.Kl H3.out) H4.out (fun g hg=>(HO.out.lt g hg).1),b1⟩;rw [jp5];exact HO.out
theorem Jg (l:List Pr) (B:Nat) (v:js3) (w:js1) (h:Rd (·<B) w (Co l) [v]) (hB:B<=w.heap.size) (hl:l.length<=1000000) : Calls Tryz.prog 30 #[v] w (Jf w (Co l)):=by
 obtain ⟨i0,hi,hz0,hz1,hz2⟩:=info_parts Qc;obtain ⟨A,cap,rows,rfl,h1,h2,h3,h4,h5⟩:=Rd.reads h;rw [jp5] at h1 h5;have e:(l.map Pr.d).length=l.length:=jp5 _;rw [e];unfold maxLen at h2;have H3:=hid h3;have H4:=hid h4;have H5:=hid (h5.more hB);have H1:=hid (Uk h3);clear h h3 h4 h5 e;cases A with
 | none=>
  have h0:l=[]:=List.length_eq_zero_iff.1 (qc H5.out);subst h0;have hq:=fun (w:js1) (a:Option Addr) (n c:Nat)=>Lib.run_eql_slice_nil (P:=Tryz.prog) w _ _ a n c 0 0 Tryz.underlying22
  go_enter Tryz.func30,Tryz.ntmps30;go_wp2;go_ret;exact ⟨_,rfl,Rd.aR _ _ _,jox _ _⟩
 | some ad=>
  have hq:=fun (w:js1) (a:Option Addr) (n c:Nat)=>Lib.run_eql_slice_nil (P:=Tryz.prog) w _ _ a n c 0 0 Tryz.underlying22
  go_enter Tryz.func30,Tryz.ntmps30;go_wp2_with (at_builtin;refine Dy _ rfl (.tmp 5) (.tmp 6) 22 rfl w.heap.size 60 i0 _ 2 32 Tryz.underlying22 hi hz0 hz1 hz2 rfl (by decide) (.slice (some ⟨w.heap.size,0,none⟩) 0 0) 0 [] rfl (qd w _ _) w.heap.size (some ad) l.length cap rows.flatten rfl (H5.out.below ((jox _ w).alloc (joz _) _)) H1.out ?a1 ?a2 ?a3 ?_)
  case a1=>unfold maxLen;omega
  case a2=>omega
  case a3=>simp
  intro v' w1 hown hg _
  (try simp only [Nat.zero_add,List.nil_append] at hown)
  have b1:Below w.heap.size w w1:=((jox _ w).alloc (joz _) _).grown hg (by simp) (fun j hj=>by have e:w.heap.size=j:=jp7 hj;omega);have HO:=hid hown;clear hown hg;go_wp2;go_ret;refine ⟨_,rfl,Rd.xQ (rows:=rows) (B:=w.heap.size) (e:=60) ?_ (aL.Kk H3.out) H4.out (fun g hg=>(HO.out.lt g hg).1),b1⟩;rw [jp5];exact HO.out
open Go.RowKit
def AB (p:Nat) (cs:List js3) (w:js1):Prop:=w.heap[p]?=some (.cells cs.toArray 37 (0,0))
section
variable {p:Nat} {cs:List js3} {w w':js1}
theorem AB.cell (h:AB p cs w) (j:Nat) (u:js3) (hu:cs[j]?=some u):w.cell? ⟨p,j,none⟩=some u:=by unfold AB at h;simp [World.cell?,h,hu]
theorem AB.free (h:AB p cs w) (j:Nat):w.frozen? ⟨p,j,none⟩=false:=by unfold AB at h;simp [World.frozen?,h]
theorem AB.set (h:AB p cs w) (j:Nat) (u:js3):AB p (cs.set j u) (w.setCell ⟨p,j,none⟩ u):=by unfold AB at h ⊢;simp [jq8,Array.getElem?_modify,h]
theorem AB.far (h:AB p cs w) {q:Nat} (hq:p≠q) (j:Nat) (u:js3):AB p cs (w.setCell ⟨q,j,none⟩ u):=(jp8 w ⟨q,j,none⟩ u p hq).trans h
theorem AB.lt (h:AB p cs w):p<w.heap.size:=by unfold AB at h;exact (Array.getElem?_eq_some_iff.1 h).1
theorem AB.grown (h:AB p cs w) (hg:w.grownBy w' none):AB p cs w':=(hg.block p h.lt (by simp)).trans h
end
theorem zG (at_:At) (vc vp:js3) (B:Nat) (w:js1) (h:AtR (·<B) w at_ vc vp) (hB:B<=w.heap.size) (hc:at_.cls.length<=1000000) (hp:at_.aJ.length<=1000000) : Calls Tryz.prog 95 #[.agg #[.string at_.id,vc,vp]] w fun e w'=>∃ Rh bS,e=.returned (.agg #[.string at_.id,Rh,bS])/\AtR (w.heap.size<=·) w' at_ Rh bS/\Below w.heap.size w w':=by
 obtain ⟨ac,nc,cc,rfl⟩:=Rd.au h.cls;obtain ⟨ap,np,cp,rfl⟩:=Rd.au h.aJ;have HA:=hid h;clear h;go_enter Tryz.func95,Tryz.ntmps95;go_upto_region 1 with (fail)
 obtain ⟨w0,hw0⟩:∃ w0,w0=(w.alloc (.cells #[.string at_.id,.slice ac nc cc,.slice ap np cp] 37)).alloc (.cells #[.string ⟨#[]⟩,.slice none 0 0,.slice none 0 0] 37):=⟨_,rfl⟩;have P0:AB w.heap.size [.string at_.id,.slice ac nc cc,.slice ap np cp] w0:=by rw [hw0];exact (jp9 _ _ _ (by simp)).trans (heap_alloc_new w _)
 have Q0:AB (w.heap.size+1) [.string ⟨#[]⟩,.slice none 0 0,.slice none 0 0] w0:=by rw [hw0];have:=heap_alloc_new (w.alloc (.cells #[.string at_.id,.slice ac nc cc,.slice ap np cp] 37)) (.cells #[.string ⟨#[]⟩,.slice none 0 0,.slice none 0 0] 37);rw [jpq] at this;exact this
 have b0:Below w.heap.size w w0:=by rw [hw0];exact ((jox _ w).alloc (joz _) _).alloc (by simp) _
 have hs0:w.heap.size+2<=w0.heap.size:=by rw [hw0];simp
 rw [<- hw0];clear hw0;have CS:=hid (xL at_.cls B _ w0 (HA.out.cls.below (b0.mono hB)) (jp0 hB b0.size) hc);have d1:=P0.cell 1 _ rfl;have HP0:=hid P0;have HQ0:=hid Q0;clear P0 Q0;go_wp2_with fail
 refine CS.out.mono ?_;rintro e w1 ⟨v1,rfl,hr1,b1⟩;obtain ⟨a1,n1,c1,rfl⟩:=Rd.au hr1;have P1:=HP0.out.grown (PX b1);have Q1:=HQ0.out.grown (PX b1);have HP1:=hid P1;have Rl:=hid Q1;have HR1:=hid (hr1.weaken (ok':=((w.heap.size+1)<·)) (fun b hb=>by omega));have hb1:=aP b0 b1;have hs1:w.heap.size+2<=w1.heap.size:=jp0 hs0 b1.size;have d1:=P1.cell 1 _ rfl;have f1:=P1.free 1;clear P1 Q1 HP0 HQ0 CS hr1 b0 b1 hs0;go_upto_region 2 with (fail)
 obtain ⟨w2,hw2⟩:∃ w2,w2=w1.setCell ⟨w.heap.size,1,none⟩ (.slice a1 n1 c1):=⟨_,rfl⟩;have P2:AB w.heap.size [.string at_.id,.slice a1 n1 c1,.slice ap np cp] w2:=by rw [hw2];exact HP1.out.set 1 _
 have Q2:AB (w.heap.size+1) [.string ⟨#[]⟩,.slice none 0 0,.slice none 0 0] w2:=by rw [hw2];exact Rl.out.far (by omega) 1 _
 have R2:Hid (Rd ((w.heap.size+1)<·) w2 (dZ at_.cls) [.slice a1 n1 c1]):=by show Rd _ _ _ _;rw [hw2];exact Rd.keep (fun b hb hlt=>⟨hb,jp8 w1 ⟨w.heap.size,1,none⟩ _ b (by show b≠w.heap.size;omega)⟩) _ _ HR1.out
 have b2:Below w.heap.size w w2:=by rw [hw2];exact hb1.setCell (p:=⟨w.heap.size,1,none⟩) (joz _) _
 have hs2:w.heap.size+2<=w2.heap.size:=by rw [hw2];simpa [jq8] using hs1
 rw [<- hw2];clear hw2 HP1 Rl HR1 hb1 hs1 d1 f1;have CP:=hid (Jg at_.aJ B _ w2 (HA.out.aJ.below (b2.mono hB)) (jp0 hB b2.size) hp);have d2:=P2.cell 2 _ rfl;have HP2:=hid P2;have Gn:=hid Q2;clear P2 Q2;go_wp2_with fail
 refine CP.out.mono ?_;rintro e w3 ⟨v3,rfl,hr3,b3⟩;obtain ⟨a3,n3,c3,rfl⟩:=Rd.au hr3;have P3:=HP2.out.grown (PX b3);have Q3:=Gn.out.grown (PX b3);have HP3:=hid (P3.set 2 (.slice a3 n3 c3));have OD:=hid (Q3.far (q:=w.heap.size) (by omega) 2 (.slice a3 n3 c3));have HR3:=hid (hr3.weaken (ok':=((w.heap.size+1)<·)) (fun b hb=>by omega));have YC:=hid (Rd.keep (ok':=((w.heap.size+1)<·)) (fun b hb hlt=>⟨hb,b3.block b hlt⟩) _ _ R2.out);have hb3:=aP b2 b3;have d2:=P3.cell 2 _ rfl;have f2:=P3.free 2;clear P3 Q3 HP2 Gn CP hr3 b2 b3 R2 hs2;go_upto_region 3 with (fail)
 obtain ⟨w4,hw4⟩:∃ w4,w4=w3.setCell ⟨w.heap.size,2,none⟩ (.slice a3 n3 c3):=⟨_,rfl⟩;rw [<- hw4] at HP3 OD;have K4:∀ b,w.heap.size+1<b->b<w3.heap.size->w4.heap[b]?=w3.heap[b]?:=fun b hb _=>by rw [hw4];exact jp8 w3 ⟨w.heap.size,2,none⟩ _ b (by show b≠w.heap.size;omega)
 have R4:=hid (Rd.keep (w':=w4) (ok':=((w.heap.size+1)<·)) (fun b hb hlt=>⟨hb,K4 b hb hlt⟩) _ _ HR3.out);have S4:=hid (Rd.keep (w':=w4) (ok':=((w.heap.size+1)<·)) (fun b hb hlt=>⟨hb,K4 b hb hlt⟩) _ _ YC.out);have b4:Below w.heap.size w w4:=by rw [hw4];exact hb3.setCell (p:=⟨w.heap.size,2,none⟩) (joz _) _
 rw [<- hw4];clear hw4 K4 HR3 YC hb3 d2 f2;have q0:=HP3.out.cell 0 _ rfl;have q1:=HP3.out.cell 1 _ rfl;have q2:=HP3.out.cell 2 _ rfl;have r0:=OD.out.cell 0 _ rfl;have r1:=OD.out.cell 1 _ rfl;have r2:=OD.out.cell 2 _ rfl;have g0:=OD.out.free 0;have g1:=OD.out.free 1;have g2:=OD.out.free 2;have FB:=hid (fun u0 u1 u2=>((b4.setCell (p:=⟨w.heap.size+1,0,none⟩) (by simp) u0).setCell (p:=⟨w.heap.size+1,1,none⟩) (by simp) u1).setCell (p:=⟨w.heap.size+1,2,none⟩) (by simp) u2);have AV:∀ (d:D) (cs:List js3),Rd ((w.heap.size+1)<·) w4 d cs->∀ u0 u1 u2,Rd (w.heap.size<=·) (((w4.setCell ⟨w.heap.size+1,0,none⟩ u0).setCell ⟨w.heap.size+1,1,none⟩ u1).setCell ⟨w.heap.size+1,2,none⟩ u2) d cs:=fun d cs hd u0 u1 u2=>
  (((hd.above (eT.set 0 u0)).above (eT.set 1 u1)).above (eT.set 2 u2)).weaken (fun b hb=>by omega)
 have HAV:=hid AV;clear AV b4;go_wp2;exact bodyPost_ret (v:=.agg #[.string at_.id,.slice a1 n1 c1,.slice a3 n3 c3]) (by simp [results,Tryz.results95,go_sem,r0,r1,r2]) rfl ⟨_,_,rfl,⟨HAV.out _ _ S4.out _ _ _,HAV.out _ _ R4.out _ _ _⟩,FB.out _ _ _⟩
open Go.RowKit
mutual
def aj.deep:aj->List aj
 | .mk k t d ti a ar ci ks=>.mk k t d ti a ar ci ks::aj.aA ks
def aj.aA:List aj->List aj
 | []=>[]
 | x::l=>x.deep++aj.aA l
end
theorem aj.kD (l m:List aj):aj.aA (l++m)=aj.aA l++aj.aA m:=by
 induction l with
 | nil=>rw [aj.aA];rfl
 | cons x l ih=>rw [List.cons_append,aj.aA,aj.aA,ih,List.append_assoc]
theorem aj.xM (l:List aj) (k:Nat) (x:aj) (h:l[k]?=some x):aj.aA (l.take (k+1))=aj.aA (l.take k)++x.deep:=by rw [List.take_add_one,h,aj.kD];simp [aj.aA]
mutual
theorem aj.Gh:∀ (x:aj),x.deep.length=x.sz
 | .mk _ _ _ _ _ _ _ ks=>by rw [aj.deep,aj.sz,List.length_cons,aj.dJ ks];omega
theorem aj.dJ:∀ (l:List aj),(aj.aA l).length=aj.aX l
 | []=>by rw [aj.aA,aj.aX];rfl
 | x::l=>by rw [aj.aA,aj.aX,jp4,aj.Gh x,aj.dJ l]
end
def Ra (bo bi:Nat):js3:=.func (.func 94) #[] #[.pointer (some ⟨bo,0,none⟩),.pointer (some ⟨bi,0,none⟩)]
def okO (B0 B:Nat) (vo:js3) (p:Nat) (b:Nat):Prop:=b<B0\/(B<=b/\vo.ownBlock≠some b/\b≠p)
structure OL (B0 B bo bi p:Nat) (vo:js3) (acc:List aj) (rows:List (List js3)) (wr:js1):Prop where
 bx:wr.heap[bo]?=some (.cells #[vo] 38 (0,0))
 fn:wr.heap[bi]?=some (.cells #[Ra bo bi] 122 (0,0))
 own:wr.ownsRow B 43 10 vo acc.length rows.flatten
 red:aL (okO B0 B vo p) wr (acc.map aj.d) rows
 len:∀ r∈rows,r.length=10
 Vt:B<=wr.heap.size
section
variable {B0 B bo bi p:Nat} {vo:js3} {acc:List aj} {rows:List (List js3)} {wr w':js1}
theorem OL.grown (h:OL B0 B bo bi p vo acc rows wr) (hg:wr.grownBy w' none):OL B0 B bo bi p vo acc rows w':=
 ⟨(hg.block bo (Array.getElem?_eq_some_iff.1 h.bx).1 (by simp)).trans h.bx,(hg.block bi (Array.getElem?_eq_some_iff.1 h.fn).1 (by simp)).trans h.fn,h.own.kept hg (by cases vo.ownBlock<;>simp),aL.keep (fun b hb hlt=>⟨hb,hg.block b hlt (by simp)⟩) _ _ h.red,h.len,jp0 h.Vt hg.size⟩
theorem OL.set (h:OL B0 B bo bi p vo acc rows wr) (ho:bo<B) (hi:bi<B) (h0:B0<=B) (hp:B<=p) (hv:vo.ownBlock≠some p) (j:Nat) (u:js3):OL B0 B bo bi p vo acc rows (wr.setCell ⟨p,j,none⟩ u):=
 ⟨(jp8 wr ⟨p,j,none⟩ u bo (by show bo≠p;omega)).trans h.bx,(jp8 wr ⟨p,j,none⟩ u bi (by show bi≠p;omega)).trans h.fn,Dw h.own ⟨p,j,none⟩ u hv,
  aL.keep (fun b hb hlt=>⟨hb,jp8 wr ⟨p,j,none⟩ u b (by show b≠p;rcases hb with hb | hb;omega;exact hb.2.2)⟩) _ _ h.red,h.len,by have:=h.Vt;simpa [jq8] using this⟩
end
def eU (bo:Nat) (vo:js3) (w w':js1):Prop:=w.heap.size<=w'.heap.size/\w'.os=w.os/\w'.tape=w.tape/\w'.output=w.output/\∀ b,b<w.heap.size->b≠bo->vo.ownBlock≠some b->w'.heap[b]?=w.heap[b]?
theorem eU.below {bo B0 B:Nat} {vo:js3} {w w':js1} (h:eU bo vo w w') (h0:B0<=bo) (h1:bo<w.heap.size) (hv:∀ g,vo.ownBlock=some g->B<=g) (hB:B0<=B):Below B0 w w':=
 ⟨h.2.1,h.2.2.1,h.2.2.2.1,h.1,fun b hb=>h.2.2.2.2 b (by omega) (by omega) (fun e=>by have:=hv b e;omega)⟩
def jE (B0 B bo bi:Nat) (vo:js3) (w:js1) (out:List aj) (wr:js1):Prop:=
 ∃ vo' rows',OL B0 B bo bi bo vo' out rows' wr/\eU bo vo w wr/\(vo'.ownBlock=vo.ownBlock\/∃ g,w.heap.size<=g/\vo'.ownBlock=some g)
def Vs (B0 B bo bi:Nat) (vo:js3) (w:js1) (acc l:List aj) (vi:js3) (wr:js1):Prop:=
 ∃ k:Nat,k<=l.length/\vi=.int .i64 k/\jE B0 B bo bi vo w (acc++aj.aA (l.take k)) wr
structure IS (B0 B bo bi p:Nat) (vo:js3) (acc:List aj) (rows:List (List js3)) (cs:List js3) (wr wx:js1):Prop where
 ol:OL B0 B bo bi p vo acc rows wx
 pb:PB p cs wx
 bl:Below p wr wx
section
variable {B0 B bo bi p:Nat} {vo:js3} {acc:List aj} {rows:List (List js3)} {cs:List js3} {wr wx w':js1}
theorem IS.grown (h:IS B0 B bo bi p vo acc rows cs wr wx) (hg:wx.grownBy w' none):IS B0 B bo bi p vo acc rows cs wr w':=
 ⟨h.ol.grown hg,h.pb.grown hg,h.bl.grown hg (by have:=h.pb.lt;omega) (by simp)⟩
theorem IS.set (h:IS B0 B bo bi p vo acc rows cs wr wx) (ho:bo<B) (hi:bi<B) (h0:B0<=B) (hp:B<=p) (hv:vo.ownBlock≠some p) (j:Nat) (u:js3):IS B0 B bo bi p vo acc rows (cs.set j u) wr (wx.setCell ⟨p,j,none⟩ u):=
 ⟨h.ol.set ho hi h0 hp hv j u,h.pb.set j u,h.bl.setCell (p:=⟨p,j,none⟩) (joz _) u⟩
end
theorem gM {w:js1} {B g m cap:Nat} {e:TypeId} {xs zs:List js3} (h:w.ownsRow B e 10 (.slice (some ⟨g,0,none⟩) (m+1) cap) (m+1) (xs++zs)) (hx:xs.length=m*10) (j:Nat) (u:js3) (hu:zs[j]?=some u) (hj:j<10):w.cell? ⟨g,m*10+j,none⟩=some u:=by rw [h.cellAt (m*10+j) (by omega),List.getElem?_append_right (by omega),hx,<- hu];congr 1;omega
theorem TF {w:js1} {B g m cap k:Nat} {e:TypeId} {xs:List js3} (h:w.ownsRow B e k (.slice (some ⟨g,0,none⟩) (m+1) cap) (m+1) xs):m+1<=cap:=by
 rcases h.2 with ⟨h1,_⟩ | ⟨g',cap',cur,h1,_,_,h2,_⟩
 ·cases h1
 ·injection h1 with _ _ h3;omega
theorem XV {w4 w5:js1} {B bo g m n cap k:Nat} {e t:TypeId} {xs ys:List js3} {o:Obj} {v vx:js3} (hbx:w4.heap[bo]?=some (.cells #[vx] t (0,0))) (h:w5.ownsRow B e k (.slice (some ⟨g,0,none⟩) m cap) m xs) (hg0:(w4.alloc o).drew.grownBy w5 v.ownBlock) (hv:w4.ownsRow B e k v n ys) (BZ:bo<B) (hs:B<=w4.heap.size):w5.cell? ⟨bo,0,none⟩=some vx/\w5.frozen? ⟨bo,0,none⟩=false/\bo≠g:=by
 have h5:w5.heap[bo]?=some (.cells #[vx] t (0,0)):=by rw [hg0.block bo (by show bo<(w4.alloc o).heap.size;rw [jpq];omega) (fun e=>by have:=(hv.lt bo e.symm).1;omega)];exact (jp9 w4 o bo (by omega)).trans hbx
 refine ⟨by simp [World.cell?,h5],by simp [World.frozen?,h5],?_⟩;have:=(h.lt g rfl).1;omega
theorem jdj {w4 w5:js1} {p:Nat} {cs:List js3} {o:Obj} {v:js3} (h:PB p cs w4) (hg:(w4.alloc o).drew.grownBy w5 v.ownBlock) (hv:v.ownBlock≠some p):PB p cs w5:=by have hl:=h.lt;unfold PB at h ⊢;rw [hg.block p (by show p<(w4.alloc o).heap.size;rw [jpq];omega) (fun e=>hv e.symm)];exact (jp9 w4 o p hl).trans h
theorem Rj {w:js1} {B g m cap:Nat} {e:TypeId} {xs zs:List js3} (h:w.ownsRow B e 10 (.slice (some ⟨g,0,none⟩) (m+1) cap) (m+1) (xs++zs)) (hx:xs.length=m*10) (j:Nat) (u:js3) : (w.setCell ⟨g,m*10+j,none⟩ u).ownsRow B e 10 (.slice (some ⟨g,0,none⟩) (m+1) cap) (m+1) (xs++zs.set j u):=by have:=(h.stored (m*10+j) u).1;rw [List.set_append_right _ _ (by omega),hx,Nat.add_sub_cancel_left] at this;exact this
theorem Km {B0 B bo bi p m g cap co:Nat} {ao:Option Addr} {acc:List aj} {rows:List (List js3)} {cs:List js3} {wr w4 w7:js1} {x:aj} (h:IS B0 B bo bi p (.slice ao m co) acc rows cs wr w4) (hm:m=acc.length) (BZ:bo<B) (zo:bi<B) (hoi:bo≠bi) (Jz:B0<=bo) (Q9:B<=p) (hvp:∀ g,(Value.slice ao m co).ownBlock=some g->g<p) (hx:Rd (fun b=>b<B0\/p<b) w4 x.d cs) (hcs:cs.length=10) (hown:w7.ownsRow B 43 10 (.slice (some ⟨g,0,none⟩) (m+1) cap) (m+1) (rows.flatten++cs)) (hbx:w7.heap[bo]?=some (.cells #[.slice (some ⟨g,0,none⟩) (m+1) cap] 38 (0,0))) (hko:eU bo (.slice ao m co) w4 w7) (hat:(Value.slice ao m co).ownBlock=some g\/w4.heap.size<=g) : jE B0 B bo bi (.slice ao m co) w4 (acc++[x]) w7:=by
 have hs:=h.ol.Vt;have hgv:∀ b,b<w4.heap.size->(Value.slice ao m co).ownBlock≠some b->(Value.slice (some ⟨g,0,none⟩) (m+1) cap).ownBlock≠some b:=by
  intro b hb hne e;have e':g=b:=by simpa [Value.ownBlock] using e
  subst e';rcases hat with h1 | h1
  ·exact hne h1
  ·omega
 have hne:∀ b,p<b->(Value.slice ao m co).ownBlock≠some b:=fun b hb e=>by have:=hvp b e;omega
 have hlo:∀ b,b<B->(Value.slice ao m co).ownBlock≠some b:=fun b hb e=>by have:=(h.ol.own.lt b e).1;omega
 refine ⟨_,rows++[cs],⟨hbx,?_,?_,?_,?_,jp0 hs hko.1⟩,hko,?_⟩
 ·exact (hko.2.2.2.2 bi (by omega) (fun e=>hoi e.symm) (hlo bi zo)).trans h.ol.fn
 ·rw [jp4,List.length_singleton,<- hm,List.flatten_append,List.flatten_singleton];exact hown
 ·rw [List.map_append];refine aL.app (aL.keep (fun b hb hlt=>?_) _ _ h.ol.red) (aL.one ?_)
  ·rcases hb with hb | hb
   ·exact ⟨.inl hb,hko.2.2.2.2 b hlt (by omega) (hlo b (by omega))⟩
   ·exact ⟨.inr ⟨hb.1,hgv b hlt hb.2.1,by omega⟩,hko.2.2.2.2 b hlt (by omega) hb.2.1⟩
  ·refine Rd.keep (fun b hb hlt=>?_) _ _ hx;rcases hb with hb | hb
   ·exact ⟨.inl hb,hko.2.2.2.2 b hlt (by omega) (hlo b (by omega))⟩
   ·exact ⟨.inr ⟨by omega,hgv b hlt (hne b hb),by omega⟩,hko.2.2.2.2 b hlt (by omega) (hne b hb)⟩
 ·intro r hr;rw [List.mem_append,List.mem_singleton] at hr;rcases hr with hr | rfl
  ·exact h.ol.len r hr
  ·exact hcs
 ·rcases hat with h1 | h1
  ·exact .inl (by rw [h1];rfl)
  ·exact .inr ⟨g,h1,rfl⟩
def ten (w:js1) (g o:Nat) (c0 c1 c2 c3 c4 c5 c6 c7 c8 c9:js3):js1:=((((((((((w.setCell ⟨g,o,none⟩ c0).setCell ⟨g,o+1,none⟩ c1).setCell ⟨g,o+2,none⟩ c2).setCell ⟨g,o+3,none⟩ c3).setCell ⟨g,o+4,none⟩ c4).setCell ⟨g,o+5,none⟩ c5).setCell ⟨g,o+6,none⟩ c6).setCell ⟨g,o+7,none⟩ c7).setCell ⟨g,o+8,none⟩ c8).setCell ⟨g,o+9,none⟩ c9)
theorem Kn {w:js1} {B g m cap:Nat} {e:TypeId} {xs zs:List js3} (h:w.ownsRow B e 10 (.slice (some ⟨g,0,none⟩) (m+1) cap) (m+1) (xs++zs)) (hx:xs.length=m*10) (hz:zs.length=10) (c0 c1 c2 c3 c4 c5 c6 c7 c8 c9:js3) : (ten w g (m*10) c0 c1 c2 c3 c4 c5 c6 c7 c8 c9).ownsRow B e 10 (.slice (some ⟨g,0,none⟩) (m+1) cap) (m+1) (xs++[c0,c1,c2,c3,c4,c5,c6,c7,c8,c9]):=by
 obtain ⟨z0,z1,z2,z3,z4,z5,z6,z7,z8,z9,rfl⟩:∃ z0 z1 z2 z3 z4 z5 z6 z7 z8 z9,zs=[z0,z1,z2,z3,z4,z5,z6,z7,z8,z9]:=by
  match zs,hz with
  | [z0,z1,z2,z3,z4,z5,z6,z7,z8,z9],_=>exact ⟨_,_,_,_,_,_,_,_,_,_,rfl⟩
 have h:=Rj h hx 0 c0;have h:=Rj h hx 1 c1;have h:=Rj h hx 2 c2;have h:=Rj h hx 3 c3;have h:=Rj h hx 4 c4;have h:=Rj h hx 5 c5;have h:=Rj h hx 6 c6;have h:=Rj h hx 7 c7;have h:=Rj h hx 8 c8;have h:=Rj h hx 9 c9;exact h
theorem Gi (w:js1) (g o:Nat) (c0 c1 c2 c3 c4 c5 c6 c7 c8 c9:js3) (b:Nat) (hb:b≠g):(ten w g o c0 c1 c2 c3 c4 c5 c6 c7 c8 c9).heap[b]?=w.heap[b]?:=by
 unfold ten
 iterate 10 rw [jp8 _ _ _ b hb]
theorem eU.set {bo:Nat} {vo:js3} {w w':js1} (h:eU bo vo w w') (b j:Nat) (u:js3) (hb:b=bo\/vo.ownBlock=some b\/w.heap.size<=b):eU bo vo w (w'.setCell ⟨b,j,none⟩ u):=by refine ⟨by have:=h.1;simpa [jq8] using this,h.2.1,h.2.2.1,h.2.2.2.1,fun c hc hne Al=>?_⟩;rw [jp8 w' ⟨b,j,none⟩ u c (by show c≠b;rintro rfl;rcases hb with hb | hb | hb;exact hne hb;exact Al hb;omega)];exact h.2.2.2.2 c hc hne Al
theorem eU.ten {bo:Nat} {vo:js3} {w w':js1} (h:eU bo vo w w') (b o:Nat) (hb:b=bo\/vo.ownBlock=some b\/w.heap.size<=b) (c0 c1 c2 c3 c4 c5 c6 c7 c8 c9:js3):eU bo vo w (ten w' b o c0 c1 c2 c3 c4 c5 c6 c7 c8 c9):=
 ((((((((((h.set b _ _ hb).set b _ _ hb).set b _ _ hb).set b _ _ hb).set b _ _ hb).set b _ _ hb).set b _ _ hb).set b _ _ hb).set b _ _ hb).set b _ _ hb)
theorem eU.app {bo:Nat} {vo:js3} {w w5:js1} {o:Obj} (hg:(w.alloc o).drew.grownBy w5 vo.ownBlock):eU bo vo w w5:=by refine ⟨jp0 (by show _<=(w.alloc o).heap.size;rw [jpq];omega) hg.size,hg.os,hg.tape,hg.output,fun c hc hne Al=>?_⟩;rw [hg.block c (by show c<(w.alloc o).heap.size;rw [jpq];omega) (fun e=>Al e.symm)];exact jp9 w o c hc
theorem CY {w:js1} {bo:Nat} {v u:js3} {t:TypeId} (h:w.heap[bo]?=some (.cells #[v] t (0,0))):(w.setCell ⟨bo,0,none⟩ u).heap[bo]?=some (.cells #[u] t (0,0)):=by simp [jq8,Array.getElem?_modify,h]
theorem Um {w4 w5:js1} {B bo n k:Nat} {e t:TypeId} {ys:List js3} {o:Obj} {v vx:js3} (hbx:w4.heap[bo]?=some (.cells #[vx] t (0,0))) (hg0:(w4.alloc o).drew.grownBy w5 v.ownBlock) (hv:w4.ownsRow B e k v n ys) (BZ:bo<B) (hs:B<=w4.heap.size):w5.heap[bo]?=some (.cells #[vx] t (0,0)):=by rw [hg0.block bo (by show bo<(w4.alloc o).heap.size;rw [jpq];omega) (fun e=>by have:=(hv.lt bo e.symm).1;omega)];exact (jp9 w4 o bo (by omega)).trans hbx
theorem PZ {B0 B bo bi p m g cap co:Nat} {ao:Option Addr} {acc:List aj} {rows:List (List js3)} {wr w4 w5:js1} {x:aj} {o:Obj} {zs:List js3} {c0 c1 c2 c3 c4 c5 c6 c7 c8 c9:js3} (h:IS B0 B bo bi p (.slice ao m co) acc rows [c0,c1,c2,c3,c4,c5,c6,c7,c8,c9] wr w4) (hm:m=acc.length) (BZ:bo<B) (zo:bi<B) (hoi:bo≠bi) (Jz:B0<=bo) (Q9:B<=p) (hvp:∀ g,(Value.slice ao m co).ownBlock=some g->g<p) (hx:Rd (fun b=>b<B0\/p<b) w4 x.d [c0,c1,c2,c3,c4,c5,c6,c7,c8,c9]) (hown:w5.ownsRow B 43 10 (.slice (some ⟨g,0,none⟩) (m+1) cap) (m+1) (rows.flatten++zs)) (hz:zs.length=10) (hrl:rows.flatten.length=m*10) (hg:(w4.alloc o).drew.grownBy w5 (Value.slice ao m co).ownBlock) (hat:(Value.slice ao m co).ownBlock=some g\/w4.heap.size<=g) : jE B0 B bo bi (.slice ao m co) w4 (acc++[x]) ((ten w5 g (m*10) c0 c1 c2 c3 c4 c5 c6 c7 c8 c9).setCell ⟨bo,0,none⟩ (.slice (some ⟨g,0,none⟩) (m+1) cap)) /\ jE B0 B bo bi (.slice ao m co) w4 (acc++[x]) (ten (w5.setCell ⟨bo,0,none⟩ (.slice (some ⟨g,0,none⟩) (m+1) cap)) g (m*10) c0 c1 c2 c3 c4 c5 c6 c7 c8 c9):=by
 have hgb:bo≠g:=by have:=(hown.lt g rfl).1;omega
 have jf9:w5.heap[bo]?=some (.cells #[.slice ao m co] 38 (0,0)):=Um h.ol.bx hg h.ol.own BZ h.ol.Vt;have hne:(Value.slice (some ⟨g,0,none⟩) (m+1) cap).ownBlock≠some bo:=by
  intro e;have e':g=bo:=by simpa [Value.ownBlock] using e
  exact hgb e'.symm
 have hk:eU bo (.slice ao m co) w4 w5:=eU.app hg;constructor
 ·refine Km h hm BZ zo hoi Jz Q9 hvp hx rfl (Dw (Kn hown hrl hz c0 c1 c2 c3 c4 c5 c6 c7 c8 c9) ⟨bo,0,none⟩ _ hne) ?_ ((hk.ten g _ (.inr hat) c0 c1 c2 c3 c4 c5 c6 c7 c8 c9).set bo 0 _ (.inl rfl)) hat;exact CY ((Gi w5 g _ c0 c1 c2 c3 c4 c5 c6 c7 c8 c9 bo hgb).trans jf9)
 ·refine Km h hm BZ zo hoi Jz Q9 hvp hx rfl (Kn (Dw hown ⟨bo,0,none⟩ _ hne) hrl hz c0 c1 c2 c3 c4 c5 c6 c7 c8 c9) ?_ ((hk.set bo 0 _ (.inl rfl)).ten g _ (.inr hat) c0 c1 c2 c3 c4 c5 c6 c7 c8 c9) hat;exact (Gi _ g _ c0 c1 c2 c3 c4 c5 c6 c7 c8 c9 bo hgb).trans (CY jf9)
theorem aj.CX (l:List aj) (k:Nat) (x:aj) (h:l[k]?=some x):aj.aX (l.take k)+x.sz<=aj.aX l:=by
 have e:aj.aA l=aj.aA (l.take (k+1))++aj.aA (l.drop (k+1)):=by rw [<- aj.kD,List.take_append_drop]
 have e2:=congrArg List.length e;rw [aj.xM l k x h] at e2;simp only [jp4,aj.dJ,aj.Gh] at e2;omega
theorem jE.trans {B0 B bo bi:Nat} {vo Ip:js3} {w w1:js1} {wr:js1} {out:List aj} (hk:eU bo vo w w1) (hor:Ip.ownBlock=vo.ownBlock\/∃ g,w.heap.size<=g/\Ip.ownBlock=some g) (h2:jE B0 B bo bi Ip w1 out wr):jE B0 B bo bi vo w out wr:=by
 obtain ⟨vo2,fM,hol,hk2,hor2⟩:=h2;refine ⟨vo2,fM,hol,⟨jp0 hk.1 hk2.1,hk2.2.1.trans hk.2.1,hk2.2.2.1.trans hk.2.2.1,hk2.2.2.2.1.trans hk.2.2.2.1,fun b hb hne Al=>?_⟩,?_⟩
 ·refine (hk2.2.2.2.2 b (Nat.lt_of_lt_of_le hb hk.1) hne ?_).trans (hk.2.2.2.2 b hb hne Al);rcases hor with e | ⟨g,hg,e⟩
  ·rw [e];exact Al
  ·rw [e];intro h;have:=jp7 h;omega
 ·rcases hor2 with e | ⟨g,hg,e⟩
  ·rw [e];exact hor
  ·exact .inr ⟨g,jp0 hk.1 hg,e⟩
theorem OL.drew {B0 B bo bi p:Nat} {vo:js3} {acc:List aj} {rows:List (List js3)} {wr:js1} (h:OL B0 B bo bi p vo acc rows wr):OL B0 B bo bi p vo acc rows wr.drew:=h.grown (oJ ⟨rfl,rfl,rfl,joz _,fun _ _ _=>rfl⟩)
theorem eU.drew {bo:Nat} {vo:js3} {w w':js1} (h:eU bo vo w w'):eU bo vo w w'.drew:=⟨h.1,h.2.1,h.2.2.1,h.2.2.2.1,h.2.2.2.2⟩
open Go.RowKit
open Go.RowKit
open Go.RowKit
structure eu (T:TypeId) (k:Nat) (ok:Nat->Prop) (U:Nat) (w0:js1) (ds:List D) (rows:List (List js3)) (v:js3) (w:js1):Prop where
 own:w.ownsRow w0.heap.size T k v ds.length rows.flatten
 red:aL (fun b=>(ok b\/w0.heap.size<=b)/\v.ownBlock≠some b/\b<U) w ds rows
 len:∀ r∈rows,r.length=k
 gH:Below w0.heap.size w0 w
 oU:∀ g,v.ownBlock=some g->g<U
 le0:w0.heap.size<=U
 Uz:U<=w.heap.size
section
variable {T:TypeId} {k U:Nat} {ok:Nat->Prop} {w0 w w':js1} {ds es:List D} {rows fM:List (List js3)} {v v':js3}
theorem eu.nil (T:TypeId) (k:Nat) (ok:Nat->Prop) (w0:js1):eu T k ok w0.heap.size w0 [] [] (.slice none 0 0) w0:=
 ⟨⟨by simp,.inl ⟨rfl,rfl⟩⟩,aL.none,by simp,jox _ _,by simp [Value.ownBlock],joz _,joz _⟩
theorem eu.up (h:eu T k ok U w0 ds rows v w) {U':Nat} (h1:U<=U') (h2:U'<=w.heap.size):eu T k ok U' w0 ds rows v w:=
 ⟨h.own,aL.keep (fun b hb _=>⟨⟨hb.1,hb.2.1,by omega⟩,rfl⟩) _ _ h.red,h.len,h.gH,fun g hg=>Nat.lt_of_lt_of_le (h.oU g hg) h1,jp0 h.le0 h1,h2⟩
theorem eu.top (h:eu T k ok U w0 ds rows v w):eu T k ok w.heap.size w0 ds rows v w:=h.up h.Uz (joz _)
theorem eu.slice (h:eu T k ok U w0 ds rows v w):∃ a c,v=.slice a ds.length c:=q01 h.own
theorem eu.cap (h:eu T k ok U w0 ds rows v w) {n:Nat} (hn:ds.length=n):∃ a c,v=.slice a n c/\n<=c/\c<=maxLen:=by
 subst hn;rcases h.own.2 with ⟨h1,h2⟩ | ⟨g,cap,cur,h1,_,_,h2,h3,_⟩
 ·exact ⟨none,0,by rw [h1,h2],by omega,Nat.zero_le _⟩
 ·exact ⟨_,cap,h1,h2,h3⟩
theorem eu.put {w1:js1} (h:eu T k ok U w0 ds rows v w) (hB:∀ b,ok b->b<w0.heap.size) (hes:aL (fun b=>ok b\/U<=b) w1 es fM) (hl2:∀ r∈fM,r.length=k) (hw1:w.grownBy w1 none) (hown:w'.ownsRow w0.heap.size T k v' (ds.length+es.length) (rows.flatten++fM.flatten)) (hg:w1.grownBy w' v.ownBlock) (hat:v'.ownBlock=v.ownBlock\/v'.ownBlock=some w1.heap.size) : eu T k ok w'.heap.size w0 (ds++es) (rows++fM) v' w':=by
 have hs:=hg.size;have hs1:=hw1.size;have h0:=h.le0;have h1:=h.Uz;have hV:∀ g,v.ownBlock=some g->w0.heap.size<=g/\g<U:=fun g e=>⟨(h.own.lt g e).1,h.oU g e⟩
 have hv':∀ b,b<w1.heap.size->v.ownBlock≠some b->v'.ownBlock≠some b:=by
  intro b hb hne;rcases hat with e | e
  ·rw [e];exact hne
  ·rw [e];intro h;have:=jp7 h;omega
 have hh:∀ b,b<w.heap.size->v.ownBlock≠some b->w'.heap[b]?=w.heap[b]?:=fun b hb hne=>
  (hg.block b (by omega) (fun e=>hne e.symm)).trans (hw1.block b hb (by simp))
 refine ⟨by rw [jp4,List.flatten_append];exact hown,?_,?_,?_,fun g e=>(hown.lt g e).2,by omega,joz _⟩
 ·refine aL.app (aL.keep (fun b hb hlt=>⟨⟨hb.1,hv' b (by omega) hb.2.1,by omega⟩,hh b hlt hb.2.1⟩) _ _ h.red) (aL.keep (fun b hb hlt=>?_) _ _ hes);have hne:v.ownBlock≠some b:=fun e=>by
   have:=hV b e;rcases hb with hb | hb
   ·have:=hB b hb;omega
   ·omega
  exact ⟨⟨hb.imp id (fun h=>by omega),hv' b hlt hne,by omega⟩,hg.block b hlt (fun e=>hne e.symm)⟩
 ·intro r hr;rcases List.mem_append.1 hr with hr | hr
  ·exact h.len r hr
  ·exact hl2 r hr
 ·refine (h.gH.grown hw1 h.gH.size (by simp)).grown hg (by have:=h.gH.size;omega) (fun g e=>(hV g e).1)
theorem eu.rd (h:eu T k ok U w0 ds rows v w):Rd (fun b=>ok b\/w0.heap.size<=b) w (.sl k ds) [v]:=
 Rd.xQ h.own (aL.keep (fun b hb _=>⟨hb.1,rfl⟩) _ _ h.red) h.len (fun g hg=>.inr (h.own.lt g hg).1)
theorem Rd.O7 {ok:Nat->Prop} {l:List D} (h:Rd ok w (.sl k l) [v]):∃ A cap rows,v=.slice A l.length cap/\l.length<=cap/\cap<=maxLen/\aL ok w l rows/\(∀ r∈rows,r.length=k)/\Reads w w.heap.size k A l.length rows.flatten:=by
 unfold Rd at h;obtain ⟨a,cap,rows,h1,h2,h3,h4,h5,h6⟩:=h;refine ⟨a,cap,rows,by simpa using h1,h2,h3,h4,h5,?_,fun hp=>?_⟩
 ·rw [qp k rows h5,h4.len]
 ·rcases h6 with h6 | ⟨b,off,h7,h8,hb,h9⟩
  ·omega
  ·refine ⟨⟨b,off,none⟩,h7,hb,fun j u hu=>?_⟩;have e:((⟨b,off,none⟩:Addr).add j)=⟨b,off+j,none⟩:=by unfold Addr.add;split<;>simp_all
   rw [e];exact h9 j u hu
theorem tY {n m:Nat} {ops:Array Oper} {rest:List Oper} {o:Oper} {a:Act} {Q:Exit->Act->js1->Prop} (hgd:o.guard=none) (s x:Operand) (t:TypeId) (ho:o.op=.call { callee:=.builtin .append,args:=#[s,x],argTypes:=#[t,t] }) (i:TypeInfo) (z:js3) (bytes:Nat) (ht:Tryz.prog.underlying t=some (.slice T)) (hi:Tryz.prog.info? T=some i) (hz:i.zero=some z) (hsize:i.size=k) (hby:i.bytes=bytes) (hzs:z.cells.size=k) (hsz:0<k) (h:eu T k ok U w0 ds rows v w) (hB:∀ b,ok b->b<w0.heap.size) (vx:js3) (hx:Rd (fun b=>ok b\/U<=b) w (.sl k es) [vx]) (h1:∀ (rs:List (List js3)) (ok':Nat->Prop),aL ok' w es rs->∀ u∈rs.flatten,u.oneCell'=true) (hdn:ds.length=n) (hem:es.length=m) (hn:n+m<=10000000) (QD:bytes<=1000) (hs:a.eval s=v) (hxe:a.eval x=vx) (hK:∀ a' c' rows' w',eu T k ok w'.heap.size w0 (ds++es) rows' (.slice a' (n+m) c') w'->w.grownBy w' v.ownBlock->wpList Tryz.prog ops Q rest (a.put o.dst (.slice a' (n+m) c')) w') : wpList Tryz.prog ops Q (o::rest) a w:=by subst hdn hem;obtain ⟨A,c,rs,rfl,h2,h3,h4,h5,h6⟩:=Rd.O7 hx;have hmul:(ds.length+es.length)*bytes<=140737488355328:=jp0 (Nat.mul_le_mul hn QD) (by omega);refine Dy _ hgd s x t ho w0.heap.size T i z k bytes ht hi hz hsize hby hzs hsz v ds.length rows.flatten hs h.own w.heap.size A es.length c rs.flatten hxe h6 (h1 rs _ h4) (by unfold maxLen;omega) hmul (by have:=h.gH.size;omega) ?_;intro v' w' hown hg hat;obtain ⟨a',c',rfl⟩:=q01 hown;exact hK a' c' _ w' (h.put hB h4 h5 (World.grownBy.refl w none) hown hg hat) hg
theorem OZ {n:Nat} {ops:Array Oper} {o:Oper} {a:Act} {K:Act->js1->Prop} {Q:Exit->Act->js1->Prop} {E:Prop} (hgd:o.guard=none) (s x:Operand) (t:TypeId) (ho:o.op=.call { callee:=.builtin .append,args:=#[s,x],argTypes:=#[t,t] }) (i:TypeInfo) (z:js3) (bytes:Nat) (ht:Tryz.prog.underlying t=some (.slice T)) (hi:Tryz.prog.info? T=some i) (hz:i.zero=some z) (hsize:i.size=k) (hby:i.bytes=bytes) (hzs:z.cells.size=k) (hsz:0<k) (h:eu T k ok U w0 ds rows v w) (hB:∀ b,ok b->b<w0.heap.size) (d:D) (r:List js3) (hx:Rd (fun b=>ok b\/U<=b) w d r) (hr:r.length=k) (h1:∀ u∈r,u.oneCell'=true) (hdn:ds.length=n) (hn:n<=10000000) (QD:bytes<=1000) (hs:a.eval s=v) (hxe:a.eval x=.slice (some ⟨w.heap.size,0,none⟩) 1 1) (hK:∀ a' c' w',eu T k ok w'.heap.size w0 (ds++[d]) (rows++[r]) (.slice a' (n+1) c') w'->(w.alloc (.cells r.toArray T)).grownBy w' v.ownBlock->K (a.put o.dst (.slice a' (n+1) c')) w') : if Region.wanted o (yielded ops a.tmps)=true then Oper.wp Tryz.prog o a (w.alloc (.cells r.toArray T)) K Q else E:=by subst hdn;have hmul:(ds.length+1)*bytes<=140737488355328:=jp0 (Nat.mul_le_mul (show ds.length+1<=10000001 by omega) QD) (by omega);refine step_append_lies _ hgd s x t ho w0.heap.size T i z k bytes ht hi hz hsize hby hzs hsz v ds.length rows.flatten hs (h.own.alloc _) ⟨w.heap.size,0,none⟩ 1 1 r hxe (by omega) (TD w r T) h1 (by omega) (by unfold maxLen;omega) hmul (by have:=h.gH.size;simp;omega) (w.heap.size+1) (by simp) ?_;intro g cap w' hown hg hat _;refine hK _ _ w' ?_ hg;refine h.put hB (fM:=[r]) (es:=[d]) (aL.one (Rd.keep (fun b hb hlt=>⟨hb,jp9 w _ b hlt⟩) _ _ hx)) (by simp [hr]) (World.grownBy_alloc w _ none) (by simpa using hown) hg (hat.elim (fun e=>.inl (by rw [e];rfl)) (fun e=>.inr (by rw [e];simp [Value.ownBlock])))
def zf (n:Nat) (w:js1):js1:={ w with heap:=w.heap.extract 0 n }
theorem Rp {n:Nat} {w:js1} (h:n<=w.heap.size):(zf n w).heap.size=n:=by show (w.heap.extract 0 n).size=n;rw [Array.size_extract];omega
theorem QE {n:Nat} {w:js1} (h:n<=w.heap.size) {b:Nat} (hb:b<n):(zf n w).heap[b]?=w.heap[b]?:=by show (w.heap.extract 0 n)[b]?=w.heap[b]?;rw [Array.getElem?_extract];simp;omega
theorem oL {n:Nat} {w:js1} (h:n<=w.heap.size):Below n (zf n w) w:=
 ⟨rfl,rfl,rfl,by rw [Rp h];exact h,fun b hb=>(QE h hb).symm⟩
end
open Go.RowKit
theorem vP (k:Nat):∀ (rows:List (List js3)),(∀ r∈rows,r.length=k)->∀ (i j:Nat) (r:List js3) (u:js3),rows[i]?=some r->j<k->rows.flatten.set (i*k+j) u=(rows.set i (r.set j u)).flatten
 | [],_,i,j,r,u,h1,_=>by simp at h1
 | x::xs,h,0,j,r,u,h1,h2=>by
  simp at h1;subst h1;have hx:=h x (by simp);rw [Nat.zero_mul,Nat.zero_add,List.flatten_cons,List.set_append_left _ _ (by omega),List.set_cons_zero,List.flatten_cons]
 | x::xs,h,i+1,j,r,u,h1,h2=>by
  have hx:=h x (by simp);have e:(i+1)*k+j-x.length=i*k+j:=by rw [hx,Nat.add_mul];omega
  rw [List.flatten_cons,List.set_append_right _ _ (by rw [hx,Nat.add_mul];omega),e,List.set_cons_succ,List.flatten_cons,vP k xs (fun y hy=>h y (by simp [hy])) i j r u (by simpa using h1) h2]
theorem eu.get {T:TypeId} {k U g n c:Nat} {ok:Nat->Prop} {w0 w:js1} {ds:List D} {rows:List (List js3)} {i:Nat} {r:List js3} {d:D} (h:eu T k ok U w0 ds rows (.slice (some ⟨g,0,none⟩) n c) w) (hr:rows[i]?=some r) (hd:ds[i]?=some d) : Rd (fun b=>(ok b\/w0.heap.size<=b)/\b≠g) w d r/\∀ j u,r[j]?=some u->w.cell? ⟨g,i*k+j,none⟩=some u:=by
 obtain ⟨r',h1,h2⟩:=h.red.get i d hd;obtain rfl:r=r':=by rw [hr] at h1;exact jp7 h1
 refine ⟨h2.weaken (fun b hb=>⟨hb.1,fun e=>hb.2.1 (by rw [e];rfl)⟩),fun j u hu=>?_⟩;have hc:=h.own.cells rfl (i*k+j) u (flat_get k rows h.len i j r u hr hu);rw [<- hc];congr 1;unfold Addr.add;split<;>simp_all
theorem eu.free {T:TypeId} {k U g n c:Nat} {ok:Nat->Prop} {w0 w:js1} {ds:List D} {rows:List (List js3)} (h:eu T k ok U w0 ds rows (.slice (some ⟨g,0,none⟩) n c) w) (hn:0<n) (j:Nat):w.frozen? ⟨g,j,none⟩=false:=by
 have hl:n=ds.length:=by obtain ⟨a',c',e'⟩:=h.slice;simp at e';exact e'.2.1
 rcases h.own.2 with ⟨h1,h2⟩ | ⟨g',cap,cur,e,_,hb,_⟩
 ·omega
 ·have e':g=g':=by simp at e;exact e.1
  subst e';simp [World.frozen?,hb]
open Go.RowKit
open Go.RowKit
open Go.RowKit
theorem OU (l:List ByteArray) (x:ByteArray) (v:js3) (w:js1) (hs:gQ w 1 v l.length (l.map Value.string)) : Calls Tryz.prog 52 #[v,.string x] w fun e w'=>e=.returned (.bool (fu l x))/\w=w':=by
 obtain ⟨-,a,cap,rfl,hcap,hmx,hcs⟩:=hs;have Jw:=hid hcs;have HZ:Hid (fu (l.take 0) x=false):=rfl;clear hcs;unfold maxLen at hmx;go_enter Tryz.func52,Tryz.ntmps52;go_wp2
 go_loop [5] (fun vi=>∃ k:Nat,k<=l.length/\vi=.int .i64 k/\fu (l.take k) x=false) (fun i=>l.length-(intOf i).toNat)
 case atStart=>exact ⟨0,Nat.zero_le _,rfl,HZ.out⟩
 case round=>
  obtain ⟨k,hk,rfl,hany⟩:=hrel;have HA:=hid hany;clear hany;by_cases hlt:k<l.length
  ·obtain ⟨y,hy⟩:∃ y,l[k]?=some y:=⟨_,List.getElem?_eq_getElem hlt⟩;rcases Jw.out with h0 | ⟨b,off,rfl,hc⟩
   ·omega
   have c0:w.cell? ⟨b,off+k,none⟩=some (.string y):=hc k _ (by simp [hy]);have hsn:=MH l k y x hy;rw [HA.out] at hsn;have rZ:=hid hsn;have HT:=hid (MI l (k+1) x);clear hy hc hsn;by_cases hyx:y=x
   ·subst hyx;go_wp2;go_ret;exact ⟨by rw [HT.out (by rw [rZ.out];simp)];rfl,rfl⟩
   ·have e1:=Cu hyx;go_wp2
    go_round
    case rel=>exact ⟨k+1,by omega,by go_num,by rw [rZ.out];simp [hyx]⟩
    case measure=>simp [intOf];omega
  ·have hkl:k=l.length:=by omega
   have hA:=HA.out;rw [hkl,List.take_length] at hA;have HA2:=hid hA;clear hA HA hkl;go_wp2;go_ret;exact ⟨by rw [HA2.out];rfl,rfl⟩
open Go.RowKit
def xq (w:js1) (g:Nat):Nat->List js3->js1
 | _,[]=>w
 | o,c::cs=>xq (w.setCell ⟨g,o,none⟩ c) g (o+1) cs
theorem xu (g:Nat):∀ (cs:List js3) (o:Nat) (w:js1) (b:Nat),b≠g->(xq w g o cs).heap[b]?=w.heap[b]?
 | [],_,_,_,_=>rfl
 | c::cs,o,w,b,h=>by rw [xq,xu g cs _ _ b h];exact jp8 w ⟨g,o,none⟩ c b h
section
variable {T:TypeId} {k U g n c:Nat} {ok:Nat->Prop} {w0 w:js1} {ds:List D} {rows:List (List js3)} {d0 d1:D} {r0 r1:List js3}
end
end Go.Proofs.YtdneicipdlofiaaGreatDoor

