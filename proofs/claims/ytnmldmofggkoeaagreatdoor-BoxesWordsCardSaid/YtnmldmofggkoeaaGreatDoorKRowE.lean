/- Plain part: different anchors for texts: the first free number. Maps of the call's own with texts as keys: a set (bool elements). Words for copies of inlines and blocks: what is not too long; blocks that are known whole. Plain laws on anchors: how long they are; what is used when the k-th one is looked for. The contract of slug.Of. Contracts of slug.copyAttr and slug.copyLine. The anchors that are left, in the box that slug.Anchors$1 takes them out of; which blocks get them. A row that a call builds: what its elements read lies below U; laws for append of one element and of a slice. A row that a call builds, one of whose cells is stored anew. The contract of publisherref21.Of. Contracts of publisherref21.Has, Number, All. The last element of a row, laid there as a zero, is written anew, cell by cell. -/
import Derived.Test.YtnmldmofggkoeaaGreatDoorKRFoldR
import Derived.Deep.RegionHeld3
namespace Go.Proofs.YtnmldmofggkoeaaGreatDoor
open Go.RowKit.Below renaming heap_setCell->YQ
open Go renaming World->Zu,Value->Zw
def hasB (T:List ByteArray) (x:ByteArray):Bool:=T.any fun y=>decide (y=x)
theorem wU (T:List ByteArray) (x:ByteArray):hasB T x=true↔x∈T:=by
 unfold hasB;rw [List.any_eq_true];constructor
 ·rintro ⟨y,hy,h⟩;rw [<- of_decide_eq_true h];exact hy
 ·intro h;exact ⟨x,h,decide_eq_true rfl⟩
open Go.RowKit Go.Maps
set_option linter.unusedVariables false
set_option linter.unusedSimpArgs false
theorem Pw:Keyed Tryz.prog 9:=string_keyed Tryz.underlying9
theorem Py (w:Zu):(zeroValue 4).run Tryz.prog w=.ok (.bool false) w:=by kernel_rfl
def zf (s:ByteArray):Lit:=.string s.data.toList
theorem Am (s:ByteArray) (hs:s.size<=maxLen):keyOf Tryz.prog 9 (.string s)=some (zf s):=WideMaps.keyOf_string_mk Tryz.underlying9 hs
theorem Fg (s t:ByteArray) (h:zf s=zf t):s=t:=by
 unfold zf at h;injection h with h
 exact ByteArray.ext (Array.toList_inj.1 h)
theorem zh {P:Program} {e:TypeId} (he:P.underlying e=some .bool) {v:Zw} {z:DataW Unit × List MemPlace} (h:plainElem P e v=some z):∃ x,v=.bool x/\z=(.lit (.bool x),[]):=by
 unfold plainElem at h;rw [he] at h;cases v<;>simp at h
 exact ⟨_,rfl,h.symm⟩
def aV (w:Zu) (b n:Nat) (S:List ByteArray):Prop:=
 ∃ D:DataW Unit,w.ownsMap Tryz.prog 9 (plainElem Tryz.prog 4) b n D/\∀ s:ByteArray,D.atKey (zf s) (.lit (.bool false))=.lit (.bool (hasB S s))
theorem zi {w:Zu} {k:TypeId} {R:Zw->Option (DataW Unit × List MemPlace)} {b n:Nat} {D:DataW Unit} (h:w.ownsMap Tryz.prog k R b n D):IsMap D:=by obtain ⟨es,c,_,_,_,rfl⟩:=h;exact ⟨_,rfl⟩
theorem Fh (s:ByteArray):WideAt.IsKeyLit (zf s):=by unfold zf;simp [WideAt.IsKeyLit]
theorem aV.look {w:Zu} {b n:Nat} {S:List ByteArray} (h:aV w b n S) (s:ByteArray) (hs:s.size<=maxLen) : (Instr.lookup 53 (.map (some b)) (.string s) false).run Tryz.prog w=.ok (.bool (hasB S s)) w:=by obtain ⟨D,hD,hat⟩:=h;obtain ⟨v,ps,hrun,hv⟩:=hD.lookup Pw Tryz.underlying53 (Py w) (plainElem_bool Tryz.underlying4 false) (Am s hs);obtain ⟨x,rfl,hx⟩:=zh Tryz.underlying4 hv;rw [hat s] at hx;simp only [Prod.mk.injEq] at hx;have:hasB S s=x:=Lit.bool.inj (DataW.lit.inj hx.1);subst this;exact hrun
theorem aV.put {w:Zu} {b n:Nat} {S:List ByteArray} (h:aV w b n S) (s:ByteArray) (hs:s.size<=maxLen) (hn:n<maxLen) : ∃ w',(Instr.mapUpdate 53 (.map (some b)) (.string s) (.bool true)).run Tryz.prog w=.ok () w'/\aV w' b (n+1) (s::S)/\w.grownBy w' (some b):=by
 obtain ⟨D,hD,hat⟩:=h;obtain ⟨w',hrun,hD',hg⟩:=hD.update Pw Tryz.underlying53 hn (Am s hs) (plainElem_bool Tryz.underlying4 true);refine ⟨w',hrun,⟨_,hD',fun t=>?_⟩,hg⟩;by_cases e:t=s
 ·subst e;rw [atKey_put_same (zi hD) (Fh t)];simp [hasB]
 ·rw [atKey_put_other (fun h=>e (Fg _ _ h)),hat t];have:hasB (s::S) t=hasB S t:=by simp [hasB,show ¬ s=t from fun h=>e h.symm]
  rw [this]
theorem aV.made (w:Zu):aV (w.alloc (.map #[] 0)) w.heap.size 0 []:=
 ⟨_,World.ownsMap_made w _ _ _,fun s=>rfl⟩
theorem aV.kept {w w':Zu} {b n:Nat} {S:List ByteArray} {row:Option Nat} (h:aV w b n S) (hg:w.grownBy w' row) (hne:some b≠row):aV w' b n S:=by obtain ⟨D,hD,hat⟩:=h;exact ⟨D,hD.kept hg hne,hat⟩
theorem Es {w w':Zu} (hb:Below w.heap.size w w'):w.grownBy w' none:=⟨hb.os,hb.tape,hb.output,hb.size,fun i hi _=>hb.block i hi⟩
theorem aV.below {w w':Zu} {b n:Nat} {S:List ByteArray} (h:aV w b n S) (hb:Below w.heap.size w w'):aV w' b n S:=h.kept (Es hb) (by simp)
open Go.RowKit
theorem Ld:(Tryz.prog.info? 57).map (fun i=>(i.zero,i.size,i.bytes))=some (some (.agg #[.string ByteArray.empty,.string ByteArray.empty]),2,32):=by kernel_rfl
theorem nW (w:Zu) (B:Nat) (e:TypeId) (k:Nat):w.ownsRow B e k (.slice none 0 0) 0 []:=⟨by simp,.inl ⟨rfl,rfl⟩⟩
theorem tu {w:Zu} {B:Nat} {e:TypeId} {k:Nat} {v:Zw} {n:Nat} {xs:List Zw} (h:w.ownsRow B e k v n xs) (p:Addr) (u:Zw) (hne:v.ownBlock≠some p.block):(w.setCell p u).ownsRow B e k v n xs:=by
 refine ⟨h.1,?_⟩;rcases h.2 with h0 | ⟨g,cap,cur,rfl,hg,hh,r⟩
 ·exact .inl h0
 ·exact .inr ⟨g,cap,cur,rfl,hg,(YQ w p u g (fun e'=>hne (by rw [<- e'];rfl))).trans hh,r⟩
theorem aG.Ez {ok ok':Nat->Prop} {w w':Zu} {l:List ByteArray} {rows:List (List Zw)} (h:aG ok w (l.map D.str) rows):aG ok' w' (l.map D.str) rows:=by rw [aG.jK l rows h];exact aG.strs l
theorem aG.zS {ok ok':Nat->Prop} {w w':Zu}:∀ {l:List Pr} {rows:List (List Zw)},aG ok w (l.map Pr.d) rows->aG ok' w' (l.map Pr.d) rows
 | [],_,h=>by rw [h.bC];exact aG.none
 | p::l,_,h=>by
  obtain ⟨r,rs,rfl,h1,h2⟩:=aG.aA (d:=p.d) (ds:=l.map Pr.d) h;rw [Pr.open_ h1];exact aG.cons (Pr.nD ok' w' p) (aG.zS h2)
theorem aG.zR {ok ok':Nat->Prop} {w w':Zu}:∀ {l:List Ci} {rows:List (List Zw)},aG ok w (l.map Ci.d) rows->aG ok' w' (l.map Ci.d) rows
 | [],_,h=>by rw [h.bC];exact aG.none
 | p::l,_,h=>by
  obtain ⟨r,rs,rfl,h1,h2⟩:=aG.aA (d:=p.d) (ds:=l.map Ci.d) h;rw [Ci.open_ h1];exact aG.cons (Ci.nD ok' w' p) (aG.zR h2)
theorem K6:(Tryz.prog.info? 52).map (fun i=>(i.zero,i.size,i.bytes))=some (some (.agg #[.int .i64 0,.string ByteArray.empty,.string ByteArray.empty,.string ByteArray.empty,.string ByteArray.empty,.slice none 0 0,.slice none 0 0,.slice none 0 0,.slice none 0 0,.slice none 0 0]),10,192):=by kernel_rfl
theorem Lc:(Tryz.prog.info? 86).map (fun i=>(i.zero,i.size,i.bytes))=some (some (.agg #[.string ByteArray.empty,.string ByteArray.empty,.string ByteArray.empty,.bool false]),4,56):=by kernel_rfl
mutual
def ah.bd:ah->Prop
 | .mk _ _ _ _ a ar ci ks=>a.cls.length<=1000000/\a.aT.length<=1000000/\ar.length<=1000000/\ci.length<=1000000/\ah.ku ks
def ah.ku:List ah->Prop
 | []=>True
 | x::l=>x.bd/\ah.ku l
end
theorem ah.lu:∀ (l:List ah) (k:Nat) (x:ah),ah.ku l->l[k]?=some x->x.bd
 | [],_,_,_,h=>by simp at h
 | y::l,0,x,hb,h=>by simp at h;subst h;rw [ah.ku] at hb;exact hb.1
 | y::l,k+1,x,hb,h=>by rw [ah.ku] at hb;exact ah.lu l k x hb.2 (by simpa using h)
theorem ah.zl (x:ah):1<=x.sz:=by cases x;rw [ah.sz];omega
theorem ah.l7:∀ (l:List ah),l.length<=ah.aW l
 | []=>by simp
 | x::l=>by have:=ah.l7 l;have:=x.zl;rw [ah.aW];simp;omega
def PB (p:Nat) (cs:List Zw) (w:Zu):Prop:=w.heap[p]?=some (.cells cs.toArray 52 (0,0))
theorem PB.cell {p:Nat} {cs:List Zw} {w:Zu} (h:PB p cs w) (j:Nat) (u:Zw) (hu:cs[j]?=some u):w.cell? ⟨p,j,none⟩=some u:=by unfold PB at h;simp [World.cell?,h,hu]
theorem PB.free {p:Nat} {cs:List Zw} {w:Zu} (h:PB p cs w) (j:Nat):w.frozen? ⟨p,j,none⟩=false:=by unfold PB at h;simp [World.frozen?,h]
theorem PB.set {p:Nat} {cs:List Zw} {w:Zu} (h:PB p cs w) (j:Nat) (u:Zw):PB p (cs.set j u) (w.setCell ⟨p,j,none⟩ u):=by unfold PB at h ⊢;simp [World.setCell,Array.getElem?_modify,h]
theorem PB.grown {p:Nat} {cs:List Zw} {w w':Zu} (h:PB p cs w) (hg:w.grownBy w' none):PB p cs w':=(hg.block p (by unfold PB at h;exact (Array.getElem?_eq_some_iff.1 h).1) (by simp)).trans h
theorem PB.lt {p:Nat} {cs:List Zw} {w:Zu} (h:PB p cs w):p<w.heap.size:=by unfold PB at h;exact (Array.getElem?_eq_some_iff.1 h).1
structure CL (w:Zu) (p:Nat) (cs:List Zw) (v:Zw) (n:Nat) (rows:List (List Zw)) (l:List ah) (wr:Zu):Prop where
 own:wr.ownsRow w.heap.size 52 10 v n rows.flatten
 red:aG (fun b=>w.heap.size<=b/\v.ownBlock≠some b/\b≠p) wr (l.map ah.d) rows
 pb:PB p cs wr
 Az:Below w.heap.size w wr
def bZ (p:Nat) (w w':Zu):Prop:=∀ b,p<b->b<w.heap.size->w'.heap[b]?=w.heap[b]?
theorem bZ.grown {p:Nat} {w w':Zu} (hg:w.grownBy w' none):bZ p w w':=fun b _ hlt=>hg.block b hlt (by simp)
theorem bZ.set {p:Nat} {w:Zu} (j:Nat) (u:Zw):bZ p w (w.setCell ⟨p,j,none⟩ u):=fun b hb _=>YQ w ⟨p,j,none⟩ u b (by show b≠p;omega)
theorem Rd.above {p:Nat} {w w':Zu} {d:D} {cs:List Zw} (h:Rd (p<·) w d cs) (ha:bZ p w w'):Rd (p<·) w' d cs:=
 Rd.keep (fun b hb hlt=>⟨hb,ha b hb hlt⟩) d cs h
theorem Rd.weaken {ok ok':Nat->Prop} {w:Zu} {d:D} {cs:List Zw} (h:Rd ok w d cs) (hk:∀ b,ok b->ok' b):Rd ok' w d cs:=
 Rd.keep (fun b hb _=>⟨hk b hb,rfl⟩) d cs h
theorem AtR.above {p:Nat} {w w':Zu} {a:At} {vc vp:Zw} (h:AtR (p<·) w a vc vp) (ha:bZ p w w'):AtR (p<·) w' a vc vp:=⟨h.cls.above ha,h.aT.above ha⟩
theorem AtR.weaken {ok ok':Nat->Prop} {w:Zu} {a:At} {vc vp:Zw} (h:AtR ok w a vc vp) (hk:∀ b,ok b->ok' b):AtR ok' w a vc vp:=⟨h.cls.weaken hk,h.aT.weaken hk⟩
theorem AtR.below {B:Nat} {w w':Zu} {a:At} {vc vp:Zw} (h:AtR (·<B) w a vc vp) (hb:Below B w w'):AtR (·<B) w' a vc vp:=⟨h.cls.below hb,h.aT.below hb⟩
mutual
def aj.bd:aj->Prop
 | .mk _ _ _ _ _ _ a li ks=>a.cls.length<=1000000/\a.aT.length<=1000000/\ah.ku li/\ah.aW li<=1000000/\aj.ku ks
def aj.ku:List aj->Prop
 | []=>True
 | x::l=>x.bd/\aj.ku l
end
theorem aj.lu:∀ (l:List aj) (k:Nat) (x:aj),aj.ku l->l[k]?=some x->x.bd
 | [],_,_,_,h=>by simp at h
 | y::l,0,x,hb,h=>by simp at h;subst h;rw [aj.ku] at hb;exact hb.1
 | y::l,k+1,x,hb,h=>by rw [aj.ku] at hb;exact aj.lu l k x hb.2 (by simpa using h)
theorem aj.zl (x:aj):1<=x.sz:=by cases x;rw [aj.sz];omega
theorem aj.l7:∀ (l:List aj),l.length<=aj.aW l
 | []=>by simp
 | x::l=>by have:=aj.l7 l;have:=x.zl;rw [aj.aW];simp;omega
section
variable {p:Nat} {cs:List Zw} {w w':Zu}
end
theorem Rd.au {ok:Nat->Prop} {w:Zu} {k:Nat} {l:List D} {v:Zw} (h:Rd ok w (.sl k l) [v]):∃ a n c,v=.slice a n c:=by obtain ⟨a',c',h',_⟩:=Rd.aD h;exact ⟨_,_,_,by simpa using h'⟩
open Go.RowKit
open Go.RowKit
open Go.RowKit
open Go.RowKit
open Go.RowKit
structure bN (T:TypeId) (k:Nat) (ok:Nat->Prop) (U:Nat) (w0:Zu) (ds:List D) (rows:List (List Zw)) (v:Zw) (w:Zu):Prop where
 own:w.ownsRow w0.heap.size T k v ds.length rows.flatten
 red:aG (fun b=>(ok b\/w0.heap.size<=b)/\v.ownBlock≠some b/\b<U) w ds rows
 len:∀ r∈rows,r.length=k
 Az:Below w0.heap.size w0 w
 oU:∀ g,v.ownBlock=some g->g<U
 PK:w0.heap.size<=U
 MF:U<=w.heap.size
section
variable {T:TypeId} {k U:Nat} {ok:Nat->Prop} {w0 w w':Zu} {ds es:List D} {rows iP:List (List Zw)} {v v':Zw}
theorem bN.nil (T:TypeId) (k:Nat) (ok:Nat->Prop) (w0:Zu):bN T k ok w0.heap.size w0 [] [] (.slice none 0 0) w0:=
 ⟨⟨by simp,.inl ⟨rfl,rfl⟩⟩,aG.none,by simp,Below.refl _ _,by simp [Value.ownBlock],Nat.le_refl _,Nat.le_refl _⟩
theorem bN.up (h:bN T k ok U w0 ds rows v w) {U':Nat} (h1:U<=U') (h2:U'<=w.heap.size):bN T k ok U' w0 ds rows v w:=
 ⟨h.own,aG.keep (fun b hb _=>⟨⟨hb.1,hb.2.1,by omega⟩,rfl⟩) _ _ h.red,h.len,h.Az,fun g hg=>Nat.lt_of_lt_of_le (h.oU g hg) h1,Nat.le_trans h.PK h1,h2⟩
theorem bN.top (h:bN T k ok U w0 ds rows v w):bN T k ok w.heap.size w0 ds rows v w:=h.up h.MF (Nat.le_refl _)
theorem bN.slice (h:bN T k ok U w0 ds rows v w):∃ a c,v=.slice a ds.length c:=lI h.own
theorem bN.cap (h:bN T k ok U w0 ds rows v w) {n:Nat} (hn:ds.length=n):∃ a c,v=.slice a n c/\n<=c/\c<=maxLen:=by
 subst hn;rcases h.own.2 with ⟨h1,h2⟩ | ⟨g,cap,cur,h1,_,_,h2,h3,_⟩
 ·exact ⟨none,0,by rw [h1,h2],by omega,Nat.zero_le _⟩
 ·exact ⟨_,cap,h1,h2,h3⟩
theorem bN.put {w1:Zu} (h:bN T k ok U w0 ds rows v w) (hB:∀ b,ok b->b<w0.heap.size) (hes:aG (fun b=>ok b\/U<=b) w1 es iP) (hl2:∀ r∈iP,r.length=k) (hw1:w.grownBy w1 none) (hown:w'.ownsRow w0.heap.size T k v' (ds.length+es.length) (rows.flatten++iP.flatten)) (hg:w1.grownBy w' v.ownBlock) (hat:v'.ownBlock=v.ownBlock\/v'.ownBlock=some w1.heap.size) : bN T k ok w'.heap.size w0 (ds++es) (rows++iP) v' w':=by
 have hs:=hg.size;have hs1:=hw1.size;have h0:=h.PK;have h1:=h.MF;have hV:∀ g,v.ownBlock=some g->w0.heap.size<=g/\g<U:=fun g e=>⟨(h.own.lt g e).1,h.oU g e⟩
 have hv':∀ b,b<w1.heap.size->v.ownBlock≠some b->v'.ownBlock≠some b:=by
  intro b hb hne;rcases hat with e | e
  ·rw [e];exact hne
  ·rw [e];intro h;have:=Option.some.inj h;omega
 have hh:∀ b,b<w.heap.size->v.ownBlock≠some b->w'.heap[b]?=w.heap[b]?:=fun b hb hne=>
  (hg.block b (by omega) (fun e=>hne e.symm)).trans (hw1.block b hb (by simp))
 refine ⟨by rw [List.length_append,List.flatten_append];exact hown,?_,?_,?_,fun g e=>(hown.lt g e).2,by omega,Nat.le_refl _⟩
 ·refine aG.app (aG.keep (fun b hb hlt=>⟨⟨hb.1,hv' b (by omega) hb.2.1,by omega⟩,hh b hlt hb.2.1⟩) _ _ h.red) (aG.keep (fun b hb hlt=>?_) _ _ hes);have hne:v.ownBlock≠some b:=fun e=>by
   have:=hV b e;rcases hb with hb | hb
   ·have:=hB b hb;omega
   ·omega
  exact ⟨⟨hb.imp id (fun h=>by omega),hv' b hlt hne,by omega⟩,hg.block b hlt (fun e=>hne e.symm)⟩
 ·intro r hr;rcases List.mem_append.1 hr with hr | hr
  ·exact h.len r hr
  ·exact hl2 r hr
 ·refine (h.Az.grown hw1 h.Az.size (by simp)).grown hg (by have:=h.Az.size;omega) (fun g e=>(hV g e).1)
theorem bN.rd (h:bN T k ok U w0 ds rows v w):Rd (fun b=>ok b\/w0.heap.size<=b) w (.sl k ds) [v]:=
 Rd.pR h.own (aG.keep (fun b hb _=>⟨hb.1,rfl⟩) _ _ h.red) h.len (fun g hg=>.inr (h.own.lt g hg).1)
theorem Rd.Dy {ok:Nat->Prop} {l:List D} (h:Rd ok w (.sl k l) [v]):∃ A cap rows,v=.slice A l.length cap/\l.length<=cap/\cap<=maxLen/\aG ok w l rows/\(∀ r∈rows,r.length=k)/\Reads w w.heap.size k A l.length rows.flatten:=by
 unfold Rd at h;obtain ⟨a,cap,rows,h1,h2,h3,h4,h5,h6⟩:=h;refine ⟨a,cap,rows,by simpa using h1,h2,h3,h4,h5,?_,fun hp=>?_⟩
 ·rw [kL k rows h5,h4.len]
 ·rcases h6 with h6 | ⟨b,off,h7,h8,hb,h9⟩
  ·omega
  ·refine ⟨⟨b,off,none⟩,h7,hb,fun j u hu=>?_⟩;have e:((⟨b,off,none⟩:Addr).add j)=⟨b,off+j,none⟩:=by unfold Addr.add;split<;>simp_all
   rw [e];exact h9 j u hu
theorem mG {n m:Nat} {ops:Array Oper} {rest:List Oper} {o:Oper} {a:Act} {Q:Exit->Act->Zu->Prop} (hgd:o.guard=none) (s x:Operand) (t:TypeId) (ho:o.op=.call { callee:=.builtin .append,args:=#[s,x],argTypes:=#[t,t] }) (i:TypeInfo) (z:Zw) (bytes:Nat) (ht:Tryz.prog.underlying t=some (.slice T)) (hi:Tryz.prog.info? T=some i) (hz:i.zero=some z) (hsize:i.size=k) (hby:i.bytes=bytes) (hzs:z.cells.size=k) (hsz:0<k) (h:bN T k ok U w0 ds rows v w) (hB:∀ b,ok b->b<w0.heap.size) (vx:Zw) (hx:Rd (fun b=>ok b\/U<=b) w (.sl k es) [vx]) (h1:∀ (rs:List (List Zw)) (ok':Nat->Prop),aG ok' w es rs->∀ u∈rs.flatten,u.oneCell'=true) (hdn:ds.length=n) (hem:es.length=m) (hn:n+m<=10000000) (Fj:bytes<=1000) (hs:a.eval s=v) (hxe:a.eval x=vx) (hK:∀ a' c' rows' w',bN T k ok w'.heap.size w0 (ds++es) rows' (.slice a' (n+m) c') w'->w.grownBy w' v.ownBlock->wpList Tryz.prog ops Q rest (a.put o.dst (.slice a' (n+m) c')) w') : wpList Tryz.prog ops Q (o::rest) a w:=by subst hdn hem;obtain ⟨A,c,rs,rfl,h2,h3,h4,h5,h6⟩:=Rd.Dy hx;have hmul:(ds.length+es.length)*bytes<=140737488355328:=Nat.le_trans (Nat.mul_le_mul hn Fj) (by omega);refine LM _ hgd s x t ho w0.heap.size T i z k bytes ht hi hz hsize hby hzs hsz v ds.length rows.flatten hs h.own w.heap.size A es.length c rs.flatten hxe h6 (h1 rs _ h4) (by unfold maxLen;omega) hmul (by have:=h.Az.size;omega) ?_;intro v' w' hown hg hat;obtain ⟨a',c',rfl⟩:=lI hown;exact hK a' c' _ w' (h.put hB h4 h5 (World.grownBy.refl w none) hown hg hat) hg
theorem CF {n:Nat} {ops:Array Oper} {o:Oper} {a:Act} {K:Act->Zu->Prop} {Q:Exit->Act->Zu->Prop} {E:Prop} (hgd:o.guard=none) (s x:Operand) (t:TypeId) (ho:o.op=.call { callee:=.builtin .append,args:=#[s,x],argTypes:=#[t,t] }) (i:TypeInfo) (z:Zw) (bytes:Nat) (ht:Tryz.prog.underlying t=some (.slice T)) (hi:Tryz.prog.info? T=some i) (hz:i.zero=some z) (hsize:i.size=k) (hby:i.bytes=bytes) (hzs:z.cells.size=k) (hsz:0<k) (h:bN T k ok U w0 ds rows v w) (hB:∀ b,ok b->b<w0.heap.size) (d:D) (r:List Zw) (hx:Rd (fun b=>ok b\/U<=b) w d r) (hr:r.length=k) (h1:∀ u∈r,u.oneCell'=true) (hdn:ds.length=n) (hn:n<=10000000) (Fj:bytes<=1000) (hs:a.eval s=v) (hxe:a.eval x=.slice (some ⟨w.heap.size,0,none⟩) 1 1) (hK:∀ a' c' w',bN T k ok w'.heap.size w0 (ds++[d]) (rows++[r]) (.slice a' (n+1) c') w'->(w.alloc (.cells r.toArray T)).grownBy w' v.ownBlock->K (a.put o.dst (.slice a' (n+1) c')) w') : if Region.wanted o (yielded ops a.tmps)=true then Oper.wp Tryz.prog o a (w.alloc (.cells r.toArray T)) K Q else E:=by subst hdn;have hmul:(ds.length+1)*bytes<=140737488355328:=Nat.le_trans (Nat.mul_le_mul (show ds.length+1<=10000001 by omega) Fj) (by omega);refine step_append_lies _ hgd s x t ho w0.heap.size T i z k bytes ht hi hz hsize hby hzs hsz v ds.length rows.flatten hs (h.own.alloc _) ⟨w.heap.size,0,none⟩ 1 1 r hxe (by omega) (jP w r T) h1 (by omega) (by unfold maxLen;omega) hmul (by have:=h.Az.size;simp;omega) (w.heap.size+1) (by simp) ?_;intro g cap w' hown hg hat _;refine hK _ _ w' ?_ hg;refine h.put hB (iP:=[r]) (es:=[d]) (aG.one (Rd.keep (fun b hb hlt=>⟨hb,Below.heap_alloc w _ b hlt⟩) _ _ hx)) (by simp [hr]) (World.grownBy_alloc w _ none) (by simpa using hown) hg (hat.elim (fun e=>.inl (by rw [e];rfl)) (fun e=>.inr (by rw [e];simp [Value.ownBlock])))
def qB (n:Nat) (w:Zu):Zu:={ w with heap:=w.heap.extract 0 n }
theorem FP {n:Nat} {w:Zu} (h:n<=w.heap.size):(qB n w).heap.size=n:=by show (w.heap.extract 0 n).size=n;rw [Array.size_extract];omega
theorem Fp {n:Nat} {w:Zu} (h:n<=w.heap.size) {b:Nat} (hb:b<n):(qB n w).heap[b]?=w.heap[b]?:=by show (w.heap.extract 0 n)[b]?=w.heap[b]?;rw [Array.getElem?_extract];simp;omega
theorem jX {n:Nat} {w:Zu} (h:n<=w.heap.size):Below n (qB n w) w:=
 ⟨rfl,rfl,rfl,by rw [FP h];exact h,fun b hb=>(Fp h hb).symm⟩
end
open Go.RowKit
theorem uG (k:Nat):∀ (rows:List (List Zw)),(∀ r∈rows,r.length=k)->∀ (i j:Nat) (r:List Zw) (u:Zw),rows[i]?=some r->j<k->rows.flatten.set (i*k+j) u=(rows.set i (r.set j u)).flatten
 | [],_,i,j,r,u,h1,_=>by simp at h1
 | x::xs,h,0,j,r,u,h1,h2=>by
  simp at h1;subst h1;have hx:=h x (by simp);rw [Nat.zero_mul,Nat.zero_add,List.flatten_cons,List.set_append_left _ _ (by omega),List.set_cons_zero,List.flatten_cons]
 | x::xs,h,i+1,j,r,u,h1,h2=>by
  have hx:=h x (by simp);have e:(i+1)*k+j-x.length=i*k+j:=by rw [hx,Nat.add_mul];omega
  rw [List.flatten_cons,List.set_append_right _ _ (by rw [hx,Nat.add_mul];omega),e,List.set_cons_succ,List.flatten_cons,uG k xs (fun y hy=>h y (by simp [hy])) i j r u (by simpa using h1) h2]
theorem bN.get {T:TypeId} {k U g n c:Nat} {ok:Nat->Prop} {w0 w:Zu} {ds:List D} {rows:List (List Zw)} {i:Nat} {r:List Zw} {d:D} (h:bN T k ok U w0 ds rows (.slice (some ⟨g,0,none⟩) n c) w) (hr:rows[i]?=some r) (hd:ds[i]?=some d) : Rd (fun b=>(ok b\/w0.heap.size<=b)/\b≠g) w d r/\∀ j u,r[j]?=some u->w.cell? ⟨g,i*k+j,none⟩=some u:=by
 obtain ⟨r',h1,h2⟩:=h.red.get i d hd;obtain rfl:r=r':=by rw [hr] at h1;exact Option.some.inj h1
 refine ⟨h2.weaken (fun b hb=>⟨hb.1,fun e=>hb.2.1 (by rw [e];rfl)⟩),fun j u hu=>?_⟩;have hc:=h.own.cells rfl (i*k+j) u (flat_get k rows h.len i j r u hr hu);rw [<- hc];congr 1;unfold Addr.add;split<;>simp_all
theorem bN.free {T:TypeId} {k U g n c:Nat} {ok:Nat->Prop} {w0 w:Zu} {ds:List D} {rows:List (List Zw)} (h:bN T k ok U w0 ds rows (.slice (some ⟨g,0,none⟩) n c) w) (hn:0<n) (j:Nat):w.frozen? ⟨g,j,none⟩=false:=by
 have hl:n=ds.length:=by obtain ⟨a',c',e'⟩:=h.slice;simp at e';exact e'.2.1
 rcases h.own.2 with ⟨h1,h2⟩ | ⟨g',cap,cur,e,_,hb,_⟩
 ·omega
 ·have e':g=g':=by simp at e;exact e.1
  subst e';simp [World.frozen?,hb]
open Go.RowKit
open Go.RowKit
theorem yx (w:Zu) (c:Nat) (hc:c<256) : (convert 42 9 (.slice (some ⟨w.heap.size,0,none⟩) 1 1)).run Tryz.prog (w.alloc (.cells #[.int .u8 (c:Int)] 5))=.ok (.string ⟨#[UInt8.ofNat c]⟩) (w.alloc (.cells #[.int .u8 (c:Int)] 5)):=by
 refine run_convert_bytes_back _ 42 9 5 ⟨w.heap.size,0,none⟩ 1 [UInt8.ofNat c] Tryz.underlying42 Tryz.underlying5 Tryz.underlying9 (fun j hj=>?_);refine kN w _ _ j _ ?_
 match j,hj with
 | 0,_=>simp [Nat.mod_eq_of_lt hc]
open Go.RowKit
def pV (w:Zu) (g:Nat):Nat->List Zw->Zu
 | _,[]=>w
 | o,c::cs=>pV (w.setCell ⟨g,o,none⟩ c) g (o+1) cs
theorem pW (g:Nat):∀ (cs:List Zw) (o:Nat) (w:Zu) (b:Nat),b≠g->(pV w g o cs).heap[b]?=w.heap[b]?
 | [],_,_,_,_=>rfl
 | c::cs,o,w,b,h=>by rw [pV,pW g cs _ _ b h];exact YQ w ⟨g,o,none⟩ c b h
section
variable {T:TypeId} {k U g n c:Nat} {ok:Nat->Prop} {w0 w:Zu} {ds:List D} {rows:List (List Zw)} {d0 d1:D} {r0 r1:List Zw}
end
end Go.Proofs.YtnmldmofggkoeaaGreatDoor

