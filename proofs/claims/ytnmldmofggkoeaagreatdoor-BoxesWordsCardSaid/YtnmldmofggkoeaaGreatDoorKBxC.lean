/- Words for boxes in memory: a row since a number of blocks, what else stays, the maker. Contract of boxes.lines where no line has an error. A law's wrap that hands the contract the shape of the world too: a package-level variable of an integer's type holds some integer. Contracts of boxes.anchors and of the function that calls itself in it. Contracts of boxes.Check and of the reference's Check of boxes: the first error. -/
import Derived.Test.YtnmldmofggkoeaaGreatDoorKRIds
import Derived.Lib.OwnKind
import Derived.Test.YtnmldmofggkoeaaGreatDoorKLines
import Derived.LaidMore
import Derived.Test.YtnmldmofggkoeaaGreatDoorKRfD
set_option maxHeartbeats 8000000
set_option maxRecDepth 100000
namespace Go.Proofs.YtnmldmofggkoeaaGreatDoor
open List renaming getElem?_eq_getElem->YG,length_append->YM,mem_of_getElem?->YT,take_add_one->Y1,take_length->Y3
open Go.RowKit.Below renaming refl->YH
open Nat renaming le_refl->YI,le_trans->YJ,zero_le->YS
open Option.some renaming inj->YP
open Go.World renaming setCell->Y6
open Go renaming World->Zu,Value->Zw
open Go.RowKit renaming Below->Zv
open Go.RowKit
set_option linter.unusedVariables false
set_option linter.unusedSimpArgs false
def Bx.d (x:Bx):D:=.st [.str x.text,.int .i64 x.ht,.int .i64 x.gr,.bool x.keep,.bool x.fl,dU x.an]
def xO (s:ByteArray) (h g:Int) (k f:Bool) (va:Zw):List Zw:=[.string s,.int .i64 h,.int .i64 g,.bool k,.bool f,va]
theorem Bx.open_ {ok:Nat->Prop} {w:Zu} {x:Bx} {cs:List Zw} (h:Rd ok w x.d cs):∃ va,cs=xO x.text x.ht x.gr x.keep x.fl va/\Rd ok w (dU x.an) [va]:=by obtain ⟨rows,hr,rfl⟩:=Rd.jD h;obtain ⟨r0,t0,rfl,h0,hr⟩:=hr.aA;obtain ⟨r1,t1,rfl,h1,hr⟩:=hr.aA;obtain ⟨r2,t2,rfl,h2,hr⟩:=hr.aA;obtain ⟨r3,t3,rfl,h3,hr⟩:=hr.aA;obtain ⟨r4,t4,rfl,h4,hr⟩:=hr.aA;obtain ⟨r5,t5,rfl,h5,hr⟩:=hr.aA;obtain rfl:=hr.bC;obtain ⟨v,rfl,h5⟩:=Rd.gQ h5;rw [h0.aR,h1.fV,h2.fV,h3.lS,h4.lS];exact ⟨v,rfl,h5⟩
theorem Bx.nD {ok:Nat->Prop} {w:Zu} (x:Bx) {va:Zw} (h:Rd ok w (dU x.an) [va]):Rd ok w x.d (xO x.text x.ht x.gr x.keep x.fl va):=
 Rd.qO (rows:=[[.string x.text],[.int .i64 x.ht],[.int .i64 x.gr],[.bool x.keep],[.bool x.fl],[va]])
  (aG.cons (Rd.bT _ _ _) (aG.cons (Rd.lT _ _ _ _) (aG.cons (Rd.lT _ _ _ _) (aG.cons (Rd.rZ _ _ _) (aG.cons (Rd.rZ _ _ _) (aG.one h))))))
def bH (x:Bx):List Zw:=xO x.text x.ht x.gr x.keep x.fl (.slice none 0 0)
theorem xM:(Tryz.prog.info? 37).map (fun i=>(i.zero,i.size,i.bytes))=some (some (.agg #[.string ByteArray.empty,.int .i64 0,.int .i64 0,.bool false,.bool false,.slice none 0 0]),6,64):=by kernel_rfl
theorem CG {s:ByteArray} {h g:Int} {k f:Bool} {a:Option Addr} {n c:Nat}:∀ u∈xO s h g k f (.slice a n c),u.oneCell'=true:=by intro u hu;simp [xO] at hu;rcases hu with rfl | rfl | rfl | rfl | rfl | rfl<;>simp [Value.oneCell']
theorem zo (l:List Bx) (rs:List (List Zw)) (ok:Nat->Prop) (w:Zu) (h:aG ok w (l.map Bx.d) rs):∀ u∈rs.flatten,u.oneCell'=true:=by
 induction l generalizing rs with
 | nil=>
  have:=h.bC;subst this;simp
 | cons x l ih=>
  obtain ⟨r,rs,rfl,h1,h2⟩:=h.aA;intro u hu;rw [List.flatten_cons] at hu;rcases List.mem_append.1 hu with hu | hu
  ·obtain ⟨va,rfl,hv⟩:=Bx.open_ h1;obtain ⟨a,n,c,rfl⟩:=Rd.au hv;exact CG u hu
  ·exact ih rs h2 u hu
structure aO (P:Nat->Prop) (w w':Zu):Prop where
 os:w'.os=w.os
 tape:w'.tape=w.tape
 output:w'.output=w.output
 size:w.heap.size<=w'.heap.size
 blk:∀ b,b<w.heap.size->¬ P b->w'.heap[b]?=w.heap[b]?
section
variable {P P' Q:Nat->Prop} {w w1 w':Zu}
theorem aO.refl (P:Nat->Prop) (w:Zu):aO P w w:=⟨rfl,rfl,rfl,YI _,fun _ _ _=>rfl⟩
theorem aO.mono (h:aO P w w') (hp:∀ b,b<w.heap.size->P b->P' b):aO P' w w':=⟨h.os,h.tape,h.output,h.size,fun b hb hn=>h.blk b hb (fun e=>hn (hp b hb e))⟩
theorem aO.trans (h:aO P w w1) (h2:aO Q w1 w') (hq:∀ b,b<w.heap.size->Q b->P b):aO P w w':=
 ⟨h2.os.trans h.os,h2.tape.trans h.tape,h2.output.trans h.output,YJ h.size h2.size,fun b hb hn=>(h2.blk b (Nat.lt_of_lt_of_le hb h.size) (fun e=>hn (hq b hb e))).trans (h.blk b hb hn)⟩
theorem aO.of_below (h:Zv w.heap.size w w') (P:Nat->Prop):aO P w w':=⟨h.os,h.tape,h.output,h.size,fun b hb _=>h.block b hb⟩
theorem aO.below (h:aO P w w') (n:Nat) (hn:n<=w.heap.size) (hp:∀ b,P b->n<=b):Zv n w w':=⟨h.os,h.tape,h.output,h.size,fun b hb=>h.blk b (by omega) (fun e=>by have:=hp b e;omega)⟩
theorem aO.set (w:Zu) (p j:Nat) (u:Zw):aO (·=p) w (w.setCell ⟨p,j,none⟩ u):=⟨rfl,rfl,rfl,by simp [Y6],fun b _ hn=>Below.heap_setCell w ⟨p,j,none⟩ u b hn⟩
theorem aO.grown {row:Option Nat} (h:w.grownBy w' row):aO (fun b=>row=some b) w w':=⟨h.os,h.tape,h.output,h.size,fun b hb hn=>h.block b hb (fun e=>hn e.symm)⟩
theorem CB.fr {T:TypeId} {p:Nat} {cs:List Zw} (h:CB T p cs w) (hf:aO P w w') (hn:¬ P p):CB T p cs w':=(hf.blk p h.lt hn).trans h
theorem Rd.fr {ok:Nat->Prop} {d:D} {cs:List Zw} (h:Rd ok w d cs) (hf:aO P w w') (hn:∀ b,ok b->¬ P b):Rd ok w' d cs:=Rd.keep (fun b h1 h2=>⟨h1,hf.blk b h2 (hn b h1)⟩) _ _ h
theorem fO {B:Nat} {e:TypeId} {k:Nat} {v:Zw} {n:Nat} {xs:List Zw} (h:w.ownsRow B e k v n xs) (hf:aO P w w') (hn:∀ g,v.ownBlock=some g->¬ P g):w'.ownsRow B e k v n xs:=by
 have hl:=h.lt;obtain ⟨h1,h2⟩:=h;refine ⟨h1,?_⟩;rcases h2 with h2 | ⟨g,cap,cur,rfl,r2,r3,r4⟩
 ·exact .inl h2
 ·exact .inr ⟨g,cap,cur,rfl,r2,(hf.blk g (hl g rfl).2 (hn g rfl)).trans r3,r4⟩
end
def aI (T:TypeId) (k:Nat) (ok:Nat->Prop) (n U:Nat) (ds:List D) (rows:List (List Zw)) (v:Zw) (w:Zu):Prop:=n<=w.heap.size/\bN T k ok U (qB n w) ds rows v w
section
variable {T:TypeId} {k n U:Nat} {ok ok' P:Nat->Prop} {w0 w w':Zu} {ds es:List D} {rows iP:List (List Zw)} {v v':Zw}
theorem bN.toC (h:bN T k ok U w0 ds rows v w):aI T k ok w0.heap.size U ds rows v w:=by have hz:=FP (w:=w) h.Az.size;have hb:=jX (w:=w) h.Az.size;exact ⟨h.Az.size,by rw [hz];exact h.own,by rw [hz];exact h.red,h.len,by rw [hz];exact hb,h.oU,by rw [hz];exact h.PK,h.MF⟩
theorem aI.Tq {w0:Zu} (h:bN T k ok U w0 ds rows v w) (hn:w0.heap.size=n):aI T k ok n U ds rows v w:=by subst hn;exact h.toC
theorem aI.sz (h:aI T k ok n U ds rows v w):(qB n w).heap.size=n:=FP h.1
theorem aI.nil (T:TypeId) (k:Nat) (ok:Nat->Prop) {n:Nat} {w:Zu} (hn:n<=w.heap.size):aI T k ok n n [] [] (.slice none 0 0) w:=by have hz:=FP hn;have h:=bN.nil T k ok (qB n w);rw [hz] at h;refine ⟨hn,⟨by rw [hz];exact (⟨by simp,.inl ⟨rfl,rfl⟩⟩:w.ownsRow n T k (.slice none 0 0) 0 []),aG.none,by simp,by rw [hz];exact jX hn,by simp [Value.ownBlock],by rw [hz];exact YI _,hn⟩⟩
theorem aI.own (h:aI T k ok n U ds rows v w):w.ownsRow n T k v ds.length rows.flatten:=by have:=h.2.own;rwa [h.sz] at this
theorem aI.red (h:aI T k ok n U ds rows v w):aG (fun b=>(ok b\/n<=b)/\v.ownBlock≠some b/\b<U) w ds rows:=by have:=h.2.red;rwa [h.sz] at this
theorem aI.nD (hn:n<=w.heap.size) (h1:w.ownsRow n T k v ds.length rows.flatten) (h2:aG (fun b=>(ok b\/n<=b)/\v.ownBlock≠some b/\b<U) w ds rows) (h3:∀ r∈rows,r.length=k) (h4:∀ g,v.ownBlock=some g->g<U) (h5:n<=U) (h6:U<=w.heap.size):aI T k ok n U ds rows v w:=by have hz:=FP (w:=w) hn;exact ⟨hn,by rw [hz];exact h1,by rw [hz];exact h2,h3,by rw [hz];exact jX hn,h4,by rw [hz];exact h5,h6⟩
theorem aI.le (h:aI T k ok n U ds rows v w):n<=U:=by have:=h.2.PK;rwa [h.sz] at this
theorem aI.fr (h:aI T k ok n U ds rows v w) (hf:aO P w w') (ho:∀ b,ok b->ok' b) (hn:∀ b,b<w.heap.size->(ok b\/n<=b)->¬ P b):aI T k ok' n U ds rows v w':=by have hl:=h.own.lt;have hs:=hf.size;refine aI.nD (YJ h.1 hs) ?_ (aG.keep (fun b hb hlt=>⟨⟨hb.1.imp (ho b) id,hb.2⟩,hf.blk b hlt (hn b hlt hb.1)⟩) _ _ h.red) h.2.len h.2.oU h.le (YJ h.2.MF hs);exact fO h.own hf (fun g hg=>hn g (hl g hg).2 (.inr (hl g hg).1))
theorem aI.weaken (h:aI T k ok n U ds rows v w) (ho:∀ b,ok b->ok' b):aI T k ok' n U ds rows v w:=h.fr (aO.refl (fun _=>False) w) ho (fun _ _ _ h=>h)
theorem aI.top (h:aI T k ok n U ds rows v w):aI T k ok n w.heap.size ds rows v w:=⟨h.1,h.2.top⟩
theorem aI.below (h:aI T k ok n U ds rows v w) (hb:Zv w.heap.size w w'):aI T k ok n U ds rows v w':=h.fr (aO.of_below hb (fun _=>False)) (fun _ h=>h) (fun _ _ _ h=>h)
theorem aG.MG {ok:Nat->Prop} {w:Zu}:∀ {l:List D} {rows:List (List Zw)},aG ok w l rows->∀ (i:Nat) (d:D) (r:List Zw),i<l.length->Rd ok w d r->aG ok w (l.set i d) (rows.set i r)
 | [],_,_,i,d,r,h1,_=>by simp at h1
 | x::xs,_,h,0,d,r,h1,h2=>by
  obtain ⟨r0,rs,rfl,h3,h4⟩:=h.aA;rw [List.set_cons_zero,List.set_cons_zero];exact aG.cons h2 h4
 | x::xs,_,h,i+1,d,r,h1,h2=>by
  obtain ⟨r0,rs,rfl,h3,h4⟩:=h.aA;rw [List.set_cons_succ,List.set_cons_succ];exact aG.cons h3 (aG.MG h4 i d r (by simpa using h1) h2)
theorem aI.store {g c m:Nat} (h:aI T k ok n U ds rows (.slice (some ⟨g,0,none⟩) m c) w) (i j:Nat) (r:List Zw) (d:D) (u:Zw) (hr:rows[i]?=some r) (hj:j<k) (hx:Rd (fun b=>(ok b\/n<=b)/\b≠g) w d (r.set j u)) : aI T k ok n w.heap.size (ds.set i d) (rows.set i (r.set j u)) (.slice (some ⟨g,0,none⟩) m c) (w.setCell ⟨g,i*k+j,none⟩ u):=by
 have hm:m=ds.length:=by obtain ⟨a',c',e'⟩:=h.2.slice;simp at e';exact e'.2.1
 subst hm;have hil:i<ds.length:=by have:=(List.getElem?_eq_some_iff.1 hr).1;have:=h.red.len;omega
 have hg:=h.own.lt g rfl;have hs:(w.setCell ⟨g,i*k+j,none⟩ u).heap.size=w.heap.size:=by simp [Y6]
 have hu:=h.top;refine aI.nD (by rw [hs];exact h.1) ?_ ?_ ?_ (fun g' e=>by rw [<- hs];have:=(h.own.stored (i*k+j) u).1.lt g' e;omega) h.1 (by rw [hs];exact YI _)
 ·have:=(h.own.stored (i*k+j) u).1;rw [uG k rows h.2.len i j r u hr hj] at this
  rwa [List.length_set]
 ·refine aG.keep (fun b hb hlt=>⟨hb,Below.heap_setCell w ⟨g,i*k+j,none⟩ u b ?_⟩) _ _ (aG.MG hu.red i d _ hil (Rd.keep (fun b hb hlt=>⟨⟨hb.1,fun e=>?_,hlt⟩,rfl⟩) _ _ hx))
  ·intro e;exact hb.2.1 (by rw [e];rfl)
  ·exact hb.2 (YP e).symm
 ·intro q hq;rcases List.mem_or_eq_of_mem_set hq with hq | rfl
  ·exact h.2.len q hq
  ·rw [List.length_set];exact h.2.len r (YT hr)
theorem aI.get {g c m i:Nat} {r:List Zw} {d:D} (h:aI T k ok n U ds rows (.slice (some ⟨g,0,none⟩) m c) w) (hr:rows[i]?=some r) (hd:ds[i]?=some d) : Rd (fun b=>(ok b\/n<=b)/\b≠g) w d r/\∀ j u,r[j]?=some u->w.cell? ⟨g,i*k+j,none⟩=some u:=by
 have:=h.2.get hr hd
 rwa [h.sz] at this
end
structure nQ (m:Nat) (W:Int) (st:St) (vp:Zw) (w:Zu):Prop where
 cb:CB 63 m [.int .i64 W,.int .i64 (st.groups:Int),vp,.int .i64 (st.count:Int),.bool st.lH,.int .i64 (st.err:Int)] w
 own:w.ownsRow m 9 1 vp st.pend.length (st.pend.map Value.string)
section
variable {m:Nat} {W:Int} {st:St} {vp:Zw} {w w':Zu} {P:Nat->Prop}
theorem nQ.fr (h:nQ m W st vp w) (hf:aO P w w') (hm:¬ P m) (hp:∀ g,vp.ownBlock=some g->¬ P g):nQ m W st vp w':=⟨h.cb.fr hf hm,fO h.own hf hp⟩
theorem nQ.below (h:nQ m W st vp w) (hb:Zv w.heap.size w w'):nQ m W st vp w':=h.fr (aO.of_below hb (fun _=>False)) (fun h=>h) (fun _ _ h=>h)
theorem nE {T T':TypeId} {B k B' k' n n':Nat} {v v':Zw} {xs xs':List Zw} (h:w.ownsRow B T k v n xs) (h':w.ownsRow B' T' k' v' n' xs') (hT:T≠T'):∀ g,v.ownBlock=some g->v'.ownBlock≠some g:=by intro g e e';obtain ⟨c,fz,h1⟩:=Lib.ownsRow_kind h g e;obtain ⟨c',X3,h2⟩:=Lib.ownsRow_kind h' g e';rw [h1] at h2;simp at h2;exact hT h2.2.1
theorem bR {T T':TypeId} {B k n p:Nat} {v:Zw} {xs cs:List Zw} (h:w.ownsRow B T k v n xs) (h':CB T' p cs w) (hT:T≠T'):v.ownBlock≠some p:=by intro e;obtain ⟨c,fz,h1⟩:=Lib.ownsRow_kind h p e;unfold CB at h';rw [h1] at h';simp at h';exact hT h'.2.1
theorem nQ.slice (h:nQ m W st vp w):∃ a c,vp=.slice a st.pend.length c:=lI h.own
end
theorem CJ {w w':Zu} {b:Nat} (h:w'.heap[b]?=w.heap[b]?) (j:Nat):w'.frozen? ⟨b,j,none⟩=w.frozen? ⟨b,j,none⟩:=by unfold World.frozen?;simp only [h]
theorem rX {T:TypeId} {p:Nat} {cs:List Zw} {w:Zu} (h:CB T p cs w) (j:Nat):w.frozen? ⟨p,j,none⟩=false:=by unfold CB at h;simp [World.frozen?,h]
theorem qN {T:TypeId} {p:Nat} {cs:List Zw} {w:Zu} (h:CB T p cs w) (j:Nat) (u:Zw):CB T p (cs.set j u) (w.setCell ⟨p,j,none⟩ u):=by unfold CB at h ⊢;simp [Y6,Array.getElem?_modify,h]
def bU (m:Nat) (W:Int) (w:Zu) (vp:Zw) (r:List Bx × St) (e:Ending) (w':Zu):Prop:=
 ∃ v rows eB,e=.returned v/\aI 37 6 (fun b=>vp.ownBlock=some b/\eB.ownBlock≠some b) w.heap.size w'.heap.size (r.1.map Bx.d) rows v w'/\nQ m W r.2 eB w' /\
  (r.2.err=0->eB=vp\/eB=.slice none 0 0)/\(∀ g,eB.ownBlock=some g->vp.ownBlock=some g\/w.heap.size<=g)/\aO (fun b=>b=m\/vp.ownBlock=some b) w w'
open Go.RowKit
def jY (w:Zu):Prop:=∃ m,w.cell? ⟨0,0,none⟩=some (.int .i64 m)
theorem jY.below {w w':Zu} (h:jY w) (hb:Zv w.heap.size w w'):jY w':=by obtain ⟨m,h⟩:=h;exact ⟨m,(hb.cell (p:=⟨_,0,none⟩) (fM h)).trans h⟩
theorem nR (s:ByteArray) (a b:Nat):(s.extract a b).size<=s.size:=by rw [ByteArray.size_extract];omega
theorem mD (sep:ByteArray) (sv:Nat):∀ (k:Nat) (s:ByteArray),∀ x∈Lib.splitB sep sv k s,x.size<=s.size
 | 0,s,x,hx=>by
  rw [Lib.splitB] at hx;simp at hx;rw [hx];exact YI _
 | k+1,s,x,hx=>by
  rw [Lib.splitB] at hx;split at hx
  ·simp at hx;rw [hx];exact YI _
  ·rcases List.mem_cons.1 hx with rfl | hx
   ·exact nR _ _ _
   ·exact YJ (mD sep sv k _ x hx) (nR _ _ _)
theorem jE (s:ByteArray):∀ x∈eH s,x.size<=s.size:=mD _ _ _ _
theorem fZ (s:ByteArray):(eH s).length=Lib.countB s CO+1:=Lib.splitB_all CO (by decide) 0 _ s rfl
theorem kQ (s:ByteArray):(eH s).length<=s.size+1:=by rw [fZ];have:=Lib.countB_le CO (by decide) s.size s (YI _);omega
theorem iQ:∀ (l:List ByteArray),nS l=0->∀ x∈l,nT x=0
 | [],_,x,hx=>by cases hx
 | y::l,h,x,hx=>by
  rw [nS] at h;split at h
  ·rename_i h1;exact absurd h h1
  ·rename_i h1
   rcases List.mem_cons.1 hx with rfl | hx
   ·exact Decidable.not_not.1 h1
   ·exact iQ l h x hx
theorem nU {s:ByteArray} (h:nT s=0):(q01 s).length<=4096/\∀ x∈q01 s,cO x<=1048576:=by
 unfold nT at h;split at h
 ·simp at h
 ·rename_i h1
  exact ⟨by omega,fun x hx=>by
   apply Nat.le_of_not_lt;exact fun h2=>h1 (.inr ⟨x,hx,h2⟩)⟩
theorem uH (wd:Int) (l:List ByteArray) (k:Nat) (x:ByteArray) (h:l[k]?=some x):nV wd (l.take (k+1))=nV wd (l.take k)++kR x wd:=by unfold nV;rw [Y1,h,List.flatMap_append];simp
theorem AA (wd:Int) (l:List ByteArray) (k:Nat):(nV wd (l.take k)).length<=(nV wd l).length:=by have h:l=l.take k++l.drop k:=(List.take_append_drop k l).symm;have:=congrArg (fun l=>(nV wd l).length) h;simp only [nV,List.flatMap_append,YM] at this;unfold nV;omega
theorem lQ.reads {w:Zu} {v:Zw} {n:Nat} {xs:List Zw} (h:lQ w 1 v n xs):∃ a c,v=.slice a n c/\Reads w w.heap.size 1 a n xs:=by
 obtain ⟨h1,a,c,rfl,-,-,h2⟩:=h;refine ⟨a,c,rfl,h1,fun hp=>?_⟩;rcases h2 with h2 | ⟨b,off,rfl,hc⟩
 ·omega
 ·refine ⟨⟨b,off,none⟩,rfl,?_,fun j u hu=>?_⟩
  ·obtain ⟨u,hu⟩:∃ u,xs[0]?=some u:=⟨_,YG (by omega)⟩;exact fM (hc 0 u hu)
  ·have e:((⟨b,off,none⟩:Addr).add j)=⟨b,off+j,none⟩:=by unfold Addr.add;split<;>simp_all
   rw [e];exact hc j u hu
def JB (w:Zu) (L:List ByteArray) (e:Ending) (w':Zu):Prop:=∃ v,e=.returned (.tuple #[v,.int .i64 0])/\w'.ownsRow w.heap.size 9 1 v L.length (L.map Value.string)/\Zv w.heap.size w w'
def CQ (w:Zu) (wd:Int) (ps:List ByteArray) (v vi:Zw) (wr:Zu):Prop:=
 ∃ k:Nat,k<=ps.length/\vi=.int .i64 k/\wr.ownsRow w.heap.size 9 1 v (nV wd (ps.take k)).length ((nV wd (ps.take k)).map Value.string)/\Zv w.heap.size w wr
theorem AJ (li:List ah) (vl:Zw) (wd:Int) (w:Zu) (h:Rd (·<w.heap.size) w (fq li) [vl]) (hlen:(ah.ay li).length<=100000) (he:eO li=0) (hl:(nV wd (eH (dL li))).length<=1000000) (hd0:1<=wd) (hd1:wd<=1048576) (ht:TabAt w) (hml:jY w) : Calls Tryz.prog 54 #[vl,.int .i64 wd] w (JB w (bV li wd)):=by
 obtain ⟨i0,hi0,hz0,hz1,hz2⟩:=info_parts qP;have SC:=Lib.hid (AL li vl w h (by omega));have hsz:(dL li).size<=100000:=by show (ah.ay li).toArray.size<=_;rw [List.size_toArray];exact hlen
 have JC:=Lib.hid (iQ _ he);have VO:=Lib.hid (jE (dL li));have Tt:=Lib.hid (fZ (dL li));have VP:=kQ (dL li);have LJ:Hid (∀ W,jY W->Calls Tryz.prog 57 #[.string (dL li),.string ⟨#[10]⟩] W fun e w'=>e=.returned (.slice (some ⟨W.heap.size,0,none⟩) (eH (dL li)).length (eH (dL li)).length)/\w'=W.alloc (.cells ((eH (dL li)).map Value.string).toArray 9)):=fun W hW=>by
  obtain ⟨m,hm⟩:=hW;have h:=Tryz.strings_Split (dL li) CO m W (by omega) hm (by decide);rw [fZ];exact h
 have QO:Hid (bV li wd=dM (nV wd (eH (dL li)))):=rfl;obtain ⟨V,hV⟩:∃ V,V=bV li wd:=⟨_,rfl⟩;rw [<- hV] at QO ⊢;have HT:=Lib.hid ht;have QS:=Lib.hid hml;have HL:=Lib.hid hl;generalize eH (dL li)=ps at *;clear hV h hlen he ht hml hl;generalize dL li=s at *;go_enter Tryz.func54,Tryz.ntmps54;go_wp2_with fail
 (with_reducible refine SC.out.mono ?_)
 rintro e w1 ⟨rfl,b1⟩;have SP:=Lib.hid (LJ.out w1 (QS.out.below b1));have B1:=Lib.hid b1;clear SC LJ b1;go_wp2_with fail
 (with_reducible refine SP.out.mono ?_)
 rintro e w2 ⟨rfl,hw2⟩;obtain ⟨g,hg⟩:∃ g,g=w1.heap.size:=⟨_,rfl⟩;obtain ⟨n,hn⟩:∃ n,n=ps.length:=⟨_,rfl⟩;have hk2:CB 9 g (ps.map Value.string) w2:=by rw [hw2,hg];exact CB.new _ _ _
 have hb2:Zv w.heap.size w w2:=by rw [hw2];exact B1.out.alloc B1.out.size _
 have hn1:n<=100001:=by omega
 rw [<- hg,<- hn];have HK:=Lib.hid hk2;have HB2:=Lib.hid hb2;have HN:=Lib.hid hn;have R0:Hid (CQ w2 wd ps (.slice none 0 0) (.int .i64 0) w2):=⟨0,YS _,rfl,by simpa [nV] using nW _ _ _ _,YH _ _⟩;clear hw2 hg hn hk2 hb2 SP;go_wp2
 go_loopw [6,15] (fun v vi wr=>CQ w2 wd ps v vi wr) (fun _ vi _=>n-(intOf vi).toNat)
 case atStart=>exact R0.out
 case round=>
  clear R0;obtain ⟨k,hk,rfl,hown,hbel⟩:=hrel;by_cases hlt:k<n
  ·obtain ⟨x,hx⟩:∃ x,ps[k]?=some x:=⟨_,YG (by have:=HN.out;omega)⟩;have hxs:=VO.out x (YT hx);have QT:=nU (JC.out x (YT hx));have c0:wr.cell? ⟨g,k,none⟩=some (.string x):=(HK.out.below hbel).cell k _ (by rw [List.getElem?_map,hx];rfl);have hbw:Zv w.heap.size w wr:=aM HB2.out hbel;have LC:=Lib.hid (AO wr x wd (by omega) QT.1 QT.2 hd0 hd1 (HT.out.below hbw));have hsn:=uH wd ps k x hx;have hle:=AA wd ps (k+1);rw [hsn,YM] at hle;have hl:=HL.out;obtain ⟨m,hm⟩:∃ m,m=(nV wd (ps.take k)).length:=⟨_,rfl⟩;have hm1:m+(kR x wd).length<=1000000:=by omega
   rw [<- hm] at hown;obtain ⟨av,cv,rfl⟩:=lI hown;have HOW:=Lib.hid hown;have HM:=Lib.hid hm;have FQ:=Lib.hid hsn;have LP:=Lib.hid hbel;clear hx hxs QT hbw hsn hle hl hm hown hbel;go_wp2_with fail
   (with_reducible refine LC.out.mono ?_)
   rintro e w4 ⟨v4,rfl,h4,b4⟩;have h4:w4.ownsRow wr.heap.size 9 1 v4 (kR x wd).length ((kR x wd).map Value.string):=h4;obtain ⟨a4,c4,rfl,QU⟩:=(lQ.nX h4).reads;obtain ⟨m4,LQ⟩:∃ m4,m4=(kR x wd).length:=⟨_,rfl⟩;rw [<- LQ] at QU hm1 ⊢;have HR4:=Lib.hid QU;have VQ:=Lib.hid LQ;have PL:=Lib.hid (own_below HOW.out b4);have tV:=Lib.hid (aM LP.out b4);clear h4 QU LQ b4 LC c0;go_wp2_with (at_builtin;refine LM _ rfl _ _ 35 rfl w2.heap.size 9 i0 _ 1 16 Tryz.underlying35 hi0 hz0 hz1 hz2 rfl (by decide) _ _ _ rfl PL.out w4.heap.size _ _ _ _ rfl HR4.out ?x1 ?x2 ?x3 ?x4 ?_)
   case x1=>
    intro u hu;obtain ⟨s,_,rfl⟩:=List.mem_map.1 hu;rfl
   case x2=>unfold maxLen;omega
   case x3=>omega
   case x4=>exact tV.out.size
   intro v5 w5 h5 hg5 FU;have b5:Zv w2.heap.size w2 w5:=tV.out.grown hg5 tV.out.size (fun b e=>(PL.out.lt b e).1);have HF:Hid (CQ w2 wd ps v5 (.int .i64 ((k+1:Nat):Int)) w5):=⟨k+1,by have:=HN.out;omega,rfl,by rw [FQ.out,YM,List.map_append,<- HM.out,<- VQ.out];exact h5,b5⟩;clear h5 hg5 FU b5;go_wp2;go_roundw;case rel=>exact HF.out
   case measure=>simp [intOf];omega
  ·have hkn:k=ps.length:=by have:=HN.out;omega
   rw [hkn,Y3] at hown;have hkn':k=n:=by have:=HN.out;omega
   obtain ⟨m,hm⟩:∃ m,m=(nV wd ps).length:=⟨_,rfl⟩;rw [<- hm] at hown;obtain ⟨av,cv,rfl⟩:=lI hown;have HOW:=Lib.hid hown;have HM:=Lib.hid hm;have CU:=Lib.hid (aM HB2.out hbel);have QV:=HB2.out.size;have LP:=hbel.size;clear hkn hm hown hbel;by_cases hm0:m=0
   ·subst hm0;have hE:V=[⟨#[]⟩]:=by
     rw [QO.out];unfold dM;rw [if_pos (List.length_eq_zero_iff.1 HM.out.symm)]
    have HE:=Lib.hid hE;clear hE;go_wp2
    go_ret2
    rw [HE.out];refine ⟨_,rfl,?_,CU.out.alloc CU.out.size _⟩;exact ⟨by simp,.inr ⟨wr.heap.size,1,#[.string ⟨#[]⟩],rfl,CU.out.size,heap_alloc_new wr _,by simp,by unfold maxLen;omega,by simp,by simp⟩⟩
   ·have q0:((m:Int)==0)=false:=by simpa using hm0
    have hE:V=nV wd ps:=by rw [QO.out];unfold dM;rw [if_neg (fun e=>hm0 (by rw [HM.out,e];rfl))]
    have HE:=Lib.hid hE;have X5:=Lib.hid hm0;clear hE hm0;go_wp2
    go_ret2
    rw [HE.out];exact ⟨_,rfl,by rw [<- HM.out];exact kP HOW.out QV,CU.out⟩
open Go
section
variable {H:Type} {enc:TypeId × Zw->H}
theorem sj {a:Assume} {C:Checked} {os:Os} {f:FuncId} {fn:Func} {s:ChangeSpec} {conds:List PathCond} {apart fresh handsOn again:Bool} {X:Zu->Array Zw->Prop} (hX:∀ (w w':Zu) (args:Array Zw),w.heap=w'.heap->X w args->X w' args) (own:ownKnob C.prog.godebug=none) (started:os.Started) (noInit:C.prog.inits.idxOf? f=none) (hfn:C.prog.funcs[f]?=some fn) (witness:∃ (w:Zu) (tape:Tape) (i:Input),w.os=os/\(w.forCall tape i).Shaped C.prog/\i.vars=[]/\Input.okWide C.prog (w.forCall tape i) .any w.heap.size f i /\ ((s.pre enc C.prog fn conds apart (w.forCall tape i).memory i.args/\X (w.forCall tape i).memory i.args)/\sizedMet enc C.prog fn (OpenSpec.ofChange s) apart (w.forCall tape i).memory i.args)/\a.holds C.prog (lone (Frame.enter C.prog f i.args .normal) [] (w.forCall tape i))) (contract:∀ (W:Zu) (base:Nat) (args:Array Zw) (ds gs:List (DataW H)) (before:List MemPlace), (∀ (j:Nat) t v,fn.params[j]?=some t->args[j]?=some v->Value.okWide C.prog W .any base t v)->DataW.Whole enc C.prog fn.params.toList s.vars apart W args.toList ds gs before -> (DataW.weightsEach C.prog (fn.params.toList++s.plain.varTypes C.prog) (ds++gs)).all (·<=reachBytes)=true->X W args->W.ShapedOpen C.prog -> Calls C.prog f args W fun e W'=>∃ v,e=.returned v/\s.post enc C.prog fn apart fresh handsOn again W args v W') : ReturnsInHanded a C os f .any (fun w args=>(s.pre enc C.prog fn conds apart w args/\X w args)/\sizedMet enc C.prog fn (OpenSpec.ofChange s) apart w args) (s.post enc C.prog fn apart fresh handsOn again):=
 returnsInHanded_of_calls own started noInit witness fun w tape i _ hsh _ hok hpre _=>by
  obtain ⟨_,_,_,fn',hfn',_,_,_,_,hval⟩:=hok;obtain rfl:=YP (hfn'.symm.trans hfn);obtain ⟨⟨⟨ds,gs,before,hw,_⟩,hx⟩,hz⟩:=hpre;refine (contract _ w.heap.size i.args ds gs before hval (DataW.Whole.of_heap (w':=w.forCall tape i) (by rfl) hw) (hz.weights hw) (hX _ _ _ (by rfl) hx) hsh).mono fun e W' h=>?_
  obtain ⟨v,rfl,hp⟩:=h;exact ChangeSpec.post_blind hp
end
theorem uI {W:Zu} (h:W.ShapedOpen Tryz.prog):jY W:=
 cell_of_shapedOpen_int (t:=3) (zero:=#[.int .i64 0]) h (of_decide_eq_true (by kernel_rfl)) (by kernel_rfl) rfl (by kernel_rfl) (by kernel_rfl) Tryz.underlying3
open Go.RowKit
def wZ (o q:Nat):Zw:=.func (.func 84) #[] #[.pointer (some ⟨o,0,none⟩),.pointer (some ⟨q,0,none⟩)]
structure CW (o q B:Nat) (L:List ByteArray) (v:Zw) (w:Zu):Prop where
 k2:aP o v 35 w
 k3:aP q (wZ o q) 81 w
 own:w.ownsRow B 9 1 v L.length (L.map Value.string)
structure xP (o q B:Nat) (L:List ByteArray) (v:Zw) (w w':Zu) (v':Zw):Prop where
 i:CW o q B L v' w'
 fr:aO (fun b=>b=o\/v.ownBlock=some b) w w'
 own:∀ g,v'.ownBlock=some g->v.ownBlock=some g\/w.heap.size<=g
section
variable {o q B:Nat} {L L1 L2:List ByteArray} {v v1 v2:Zw} {w w1 w2 w3:Zu}
theorem CW.no (h:CW o q B L v w):v.ownBlock≠some o/\v.ownBlock≠some q/\q≠o:=
 ⟨bR (T':=35) (cs:=[v]) h.own h.k2 (by decide),bR (T':=81) (cs:=[wZ o q]) h.own h.k3 (by decide),fun e=>by
  have h1:=h.k2;have h2:=h.k3;unfold aP at h1 h2;rw [e,h1] at h2;simp at h2⟩
theorem xP.refl (h:CW o q B L v w):xP o q B L v w w v:=⟨h,aO.refl _ _,fun _ e=>.inl e⟩
theorem xP.trans (h1:xP o q B L1 v w w1 v1) (h2:xP o q B L2 v1 w1 w2 v2):xP o q B L2 v w w2 v2:=
 ⟨h2.i,h1.fr.trans h2.fr (fun b hb e=>e.imp id (fun e=>by rcases h1.own b e with h | h;exact h;omega)),fun g e=>by
  rcases h2.own g e with h | h
  ·exact h1.own g h
  ·exact .inr (YJ h1.fr.size h)⟩
theorem CW.alloc (h:CW o q B L v w) (x:Obj):CW o q B L v (w.alloc x):=⟨h.k2.alloc x,h.k3.alloc x,h.own.alloc x⟩
theorem xP.alloc (h:xP o q B L v w w1 v1) (x:Obj):xP o q B L v w (w1.alloc x) v1:=
 ⟨h.i.alloc x,h.fr.trans (aO.of_below ((YH _ w1).alloc (YI _) x) (fun _=>False)) (fun _ _ h=>h.elim),h.own⟩
theorem CW.push {val:ByteArray} {x:Obj} (h:CW o q B L v w) (hg:(w.alloc x).grownBy w3 v.ownBlock) (hown:w3.ownsRow B 9 1 v2 (L.length+1) (L.map Value.string++[.string val])) (hat:v2.ownBlock=v.ownBlock\/v2.ownBlock=some (w.alloc x).heap.size) : aP o v 35 w3/\xP o q B (L++[val]) v w (w3.setCell ⟨o,0,none⟩ v2) v2:=by
 obtain ⟨n1,n2,n3⟩:=h.no;have hz:(w.alloc x).heap.size=w.heap.size+1:=World.size_alloc _ _;have b2:aP o v 35 w3:=(hg.block o (by have:=h.k2.lt;omega) (fun e=>n1 e.symm)).trans (h.k2.alloc x);have b3:aP q (wZ o q) 81 w3:=(hg.block q (by have:=h.k3.lt;omega) (fun e=>n2 e.symm)).trans (h.k3.alloc x);have hf:=(aO.of_below ((YH _ w).alloc (YI _) x) (fun b=>b=o\/v.ownBlock=some b)).trans (aO.grown hg) (fun b _ e=>.inr e);have hne:v2.ownBlock≠some o:=bR (T':=35) (cs:=[v]) hown b2 (by decide);refine ⟨b2,⟨b2.set v2,b3.far n3 v2,?_⟩,hf.trans (aO.set w3 o 0 v2) (fun b _ e=>.inl e),fun g e=>?_⟩
 ·rw [YM,List.length_singleton,List.map_append];exact fO hown (aO.set w3 o 0 v2) (fun b e e'=>hne (e' ▸ e))
 ·rcases hat with h' | h'
  ·exact .inl (h' ▸ e)
  ·rw [h'] at e;exact .inr (by have:=YP e;omega)
theorem xQ (l:List ah) (k:Nat) (kd:Int) (t d ti:ByteArray) (at_:At) (ar:List ByteArray) (ci:List Ci) (ks:List ah) (h:l[k]?=some (.mk kd t d ti at_ ar ci ks)) : gK (ah.aC (l.take (k+1)))=gK (ah.aC (l.take k))++(zq at_++gK (ah.aC ks)):=by
 rw [Y1,h,ah.jF];show gK (_++ah.aC [_])=_;rw [ah.aC,ah.deep,ah.aC,List.append_nil];unfold gK zq;rw [List.filterMap_append,List.filterMap_cons];simp only [ah.id1];by_cases h:at_.id.data.toList=[]
 ·simp only [if_pos h,List.nil_append]
 ·simp only [if_neg h];rfl
theorem CX (l:List ah) (k:Nat):(gK (ah.aC (l.take k))).length<=(gK (ah.aC l)).length:=by have h:l=l.take k++l.drop k:=(List.take_append_drop k l).symm;have:=congrArg (fun l=>(gK (ah.aC l)).length) h;simp only [ah.jF] at this;unfold gK at *;rw [List.filterMap_append,YM] at this;omega
end
def zu (o q B:Nat) (L:List ByteArray) (l:List ah) (v:Zw) (w:Zu) (vi:Zw) (wr:Zu):Prop:=
 ∃ (k:Nat) (v':Zw),k<=l.length/\vi=.int .i64 k/\xP o q B (L++gK (ah.aC (l.take k))) v w wr v'
def JD (o q B:Nat) (L:List ByteArray) (v:Zw) (w:Zu) (e:Ending) (w':Zu):Prop:=e=.returned (.tuple #[])/\∃ v',xP o q B L v w w' v'
theorem uJ (o q B D:Nat) (hDB:D<=B) (X6:D<=o) (n:Nat):∀ (l:List ah) (L:List ByteArray) (v vs:Zw) (w:Zu),ah.aW l<=n->Rd (·<D) w (fq l) [vs]->CW o q B L v w->B<=w.heap.size->L.length+(gK (ah.aC l)).length<=1000000 -> Calls Tryz.prog 84 #[vs,.pointer (some ⟨o,0,none⟩),.pointer (some ⟨q,0,none⟩)] w (JD o q B (L++gK (ah.aC l)) v w):=by
 induction n using Nat.strongRecOn with
 | _ n ih=>
  intro l L v vs w hn hrd hI hB hlen;obtain ⟨i0,hi0,hz0,hz1,hz2⟩:=info_parts qP;obtain ⟨a,cap,hv,hs⟩:=Rd.aD hrd;obtain rfl:vs=.slice a l.length cap:=by simpa using hv
  have hcap:l.length<=cap:=by simpa using hs.le
  have hmx:=hs.max;have HS:=Lib.hid hs;have IH:=Lib.hid ih;have R0:Hid (zu o q B L l v w (.int .i64 0) w):=⟨0,v,YS _,rfl,by
   show xP o q B (L++gK (ah.aC [])) v w w v;rw [ah.aC,show gK ([]:List ah)=[] from rfl,List.append_nil];exact xP.refl hI⟩
  have JE:=Lib.hid (fun g (e:v.ownBlock=some g)=>(hI.own.lt g e).1);clear hs hv hrd ih hI;unfold maxLen at hmx;go_enter Tryz.func84,Tryz.ntmps84;go_wp2
  go_loopw [8] (fun vi wr=>zu o q B L l v w vi wr) (fun i _=>l.length-(intOf i).toNat)
  case atStart=>exact R0.out
  case round=>
   clear R0;obtain ⟨k,v1,hk,rfl,hK⟩:=hrel;have hst:∀ b,b<D->¬ (b=o\/v.ownBlock=some b):=fun b hb e=>by
    rcases e with e | e
    ·omega
    ·have:=JE.out b e;omega
   by_cases hlt:k<l.length
   ·obtain ⟨x,hx⟩:∃ x,l[k]?=some x:=⟨_,YG hlt⟩;obtain ⟨kd,t,d,ti,at_,ar,ci,ks⟩:=x;have hsr:jV (·<D) wr 10 (l.map ah.d) a cap:=HS.out.below (hK.fr.below D (by omega) (fun b e=>Nat.le_of_not_lt fun h=>hst b h e));obtain ⟨g,off,vc,vp,va,vi,vk,rfl,hok,hbl,hc,hR⟩:=gT hsr hx;obtain ⟨c0,c1,c2,c3,c4,c5,c6,c7,c8,c9⟩:=hc;obtain ⟨ac,nc,cc,rfl⟩:=Rd.au hR.at_.cls
    obtain ⟨ap,np,cp,rfl⟩:=Rd.au hR.at_.aT
    obtain ⟨aa,na,ca,rfl⟩:=Rd.au hR.args;obtain ⟨ai,ni,LU,rfl⟩:=Rd.au hR.gq;obtain ⟨ak,nk,ck,rfl⟩:=Rd.au hR.kids;have uK:=hR.kids;have hsz:=ah.cZ l k _ hx;rw [ah.sz] at hsz;have HT:=Lib.hid (xQ l k kd t d ti at_ ar ci ks hx);have hle:=CX l (k+1);rw [HT.out,YM,YM] at hle;obtain ⟨p,hp⟩:∃ p,p=wr.heap.size:=⟨_,rfl⟩;obtain ⟨w0,hw0⟩:∃ w0,w0=wr.alloc (.cells #[.int .i64 kd,.string t,.string d,.string ti,.string at_.id,.slice ac nc cc,.slice ap np cp,.slice aa na ca,.slice ai ni LU,.slice ak nk ck] 52):=⟨_,rfl⟩;have k0:CB 52 p [.int .i64 kd,.string t,.string d,.string ti,.string at_.id,.slice ac nc cc,.slice ap np cp,.slice aa na ca,.slice ai ni LU,.slice ak nk ck] w0:=by rw [hw0,hp];exact CB.new _ _ _
    have PN:xP o q B (L++gK (ah.aC (l.take k))) v w w0 v1:=by rw [hw0];exact hK.alloc _
    have b0:Zv D wr w0:=by rw [hw0];exact (YH _ _).alloc (by have:=hK.fr.size;omega) _
    have MH:=uK.below b0;have hB0:B<=w0.heap.size:=by have:=PN.fr.size;omega
    obtain ⟨acc,hacc⟩:∃ acc,acc=L++gK (ah.aC (l.take k)):=⟨_,rfl⟩;have hal:acc.length+(zq at_).length+(gK (ah.aC ks)).length<=1000000:=by rw [hacc,YM];omega
    have MI:Hid (L++gK (ah.aC (l.take (k+1)))=acc++zq at_++gK (ah.aC ks)):=by show _=_;rw [HT.out,hacc];simp [List.append_assoc]
    rw [<- hacc] at PN;have IK:=Lib.hid (fun (L':List ByteArray) v' w' hr hi hb hl=>IH.out (ah.aW ks) (by omega) ks L' v' (.slice ak nk ck) w' (YI _) hr hi hb hl);have d0:=k0.cell 4 _ rfl;have d9:=k0.cell 9 _ rfl;have JF:=Lib.hid PN;have VT:=Lib.hid k0;have Tv:=Lib.hid MH;have JG:=Lib.hid hal;have hpo:p≠o/\v1.ownBlock≠some p:=⟨by have:=hK.i.k2.lt;omega,fun e=>by have:=(hK.i.own.lt p e).2;omega⟩;have Ca:=Lib.hid hpo;clear hx uK hR hK b0 hsz hok hbl hsr PN k0 MH hacc hal hle hpo HT IH hlen;go_upto_region 3 with (fail)
    rw [<- hw0,<- hp];clear hw0 hp c0 c1 c2 c3 c4 c5 c6 c7 c8 c9;by_cases hid:at_.id.data.toList=[]
    ·have QW:at_.id.toList.isEmpty=true:=by rw [Lib.toList_data,List.isEmpty_iff];exact hid
     have HI:Hid (zq at_=[]):=by show _=_;unfold zq;rw [if_pos hid]
     have I1:=Lib.hid (IK.out acc v1 w0 Tv.out JF.out.i hB0 (by have:=JG.out;omega));have fc:=JF.out.i.k3.cell;unfold wZ at fc;clear hid IK;go_wp2_with fail
     (with_reducible refine I1.out.mono ?_)
     rintro e w4 ⟨rfl,v4,h4⟩;have HF:Hid (zu o q B L l v w (.int .i64 ((k+1:Nat):Int)) w4):=⟨k+1,v4,by omega,rfl,by
      rw [MI.out,HI.out,List.append_nil];exact JF.out.trans h4⟩
     clear h4 I1 fc d0 d9;go_wp2;go_roundw;case rel=>exact HF.out
     case measure=>simp [intOf];omega
    ·have QW:at_.id.toList.isEmpty=false:=by
      cases h:at_.id.toList.isEmpty with
      | false=>rfl
      | true=>rw [Lib.toList_data,List.isEmpty_iff] at h;exact absurd h hid
     have HI:Hid (zq at_=[at_.id]):=by show _=_;unfold zq;rw [if_neg hid]
     obtain ⟨m,hm⟩:∃ m,m=acc.length:=⟨_,rfl⟩;have hm1:m<=1000000:=by have:=JG.out;omega
     have OW:w0.ownsRow B 9 1 v1 m (acc.map Value.string):=by rw [hm];exact JF.out.i.own
     obtain ⟨a1,c1,rfl⟩:=lI OW;have gv:=JF.out.i.k2.cell;have HOW:=Lib.hid OW;have HM:=Lib.hid hm;clear OW hm hid;go_wp2_with (at_builtin;refine wpList_append_own_at _ rfl _ _ 35 rfl B 9 i0 _ 1 16 Tryz.underlying35 hi0 hz0 hz1 hz2 rfl (by decide) _ _ _ rfl (HOW.out.alloc _) ⟨w0.heap.size,0,none⟩ 1 1 [.string at_.id] rfl rfl (kN w0 (.string at_.id) 9) (by intro u hu;simp at hu;subst hu;rfl) (by unfold maxLen;omega) (by omega) (by simp;omega) ?_)
     intro v2 w3 hown3 hg3 _ FV;obtain ⟨a3,c3,rfl⟩:=lI hown3;have PU:=JF.out.i.push (val:=at_.id) hg3 (by rw [<- HM.out];exact hown3) (by rw [World.size_alloc];exact FV);have bx:=PU.1;have bc:=bx.cell;have bf:=bx.free;have K4:=JF.out.trans PU.2;have Tw:=Lib.hid K4;have kc:CB 52 p [.int .i64 kd,.string t,.string d,.string ti,.string at_.id,.slice ac nc cc,.slice ap np cp,.slice aa na ca,.slice ai ni LU,.slice ak nk ck] (w3.setCell ⟨o,0,none⟩ (.slice a3 (m+1) c3)):=VT.out.fr PU.2.fr (fun e=>by
      rcases e with e | e
      ·exact Ca.out.1 e
      ·exact Ca.out.2 e)
     have Tx:=Tv.out.fr PU.2.fr (fun b hb e=>by
      rcases e with e | e
      ·have hb':b<D:=hb;omega
      ·have:=(HOW.out.lt b e).1;have hb':b<D:=hb;omega)
     have I1:=Lib.hid (IK.out (acc++[at_.id]) _ _ Tx K4.i (by have:=K4.fr.size;omega) (by have h:=JG.out;rw [HI.out] at h;simp at h;simp;omega));have f9:=kc.cell 9 _ rfl;have fc:=K4.i.k3.cell;unfold wZ at fc;clear hown3 hg3 FV PU bx kc Tx K4 d0 d9 gv IK HOW;go_upto_region 5 with (fail)
     obtain ⟨w5,uL⟩:∃ w5,w5=w3.setCell ⟨o,0,none⟩ (.slice a3 (m+1) c3):=⟨_,rfl⟩;rw [<- uL];rw [<- uL] at I1 f9 fc Tw;clear uL bc bf;go_wp2_with fail
     (with_reducible refine I1.out.mono ?_)
     rintro e w4 ⟨rfl,v4,h4⟩;have HF:Hid (zu o q B L l v w (.int .i64 ((k+1:Nat):Int)) w4):=⟨k+1,v4,by omega,rfl,by
      rw [MI.out,HI.out];exact Tw.out.trans h4⟩
     clear h4 I1 fc f9;go_wp2;go_roundw;case rel=>exact HF.out
     case measure=>simp [intOf];omega
   ·have hkl:k=l.length:=by omega
    rw [hkl,Y3] at hK;have HK:=Lib.hid hK;clear hkl hK;go_wp2
    go_end0
    exact ⟨rfl,v1,HK.out⟩
def xR (w:Zu) (L:List ByteArray) (e:Ending) (w':Zu):Prop:=∃ v,e=.returned v/\w'.ownsRow w.heap.size 9 1 v L.length (L.map Value.string)/\Zv w.heap.size w w'
theorem xS (kd lv:Int) (i t d ti:ByteArray) (at_:At) (li:List ah) (ks:List aj) (vc vp vl vk:Zw) (w:Zu) (hR:xg (·<w.heap.size) w at_ li ks vc vp vl vk) (hlen:(gK (ah.aC li)).length<=100000) : Calls Tryz.prog 65 #[.agg #[.int .i64 kd,.int .i64 lv,.string i,.string t,.string d,.string ti,.string at_.id,vc,vp,vl,vk]] w (xR w (bO at_ li)):=by
 obtain ⟨i0,hi0,hz0,hz1,hz2⟩:=info_parts qP;obtain ⟨ac,nc,cc,rfl⟩:=Rd.au hR.at_.cls
 obtain ⟨ap,np,cp,rfl⟩:=Rd.au hR.at_.aT
 obtain ⟨al,nl,cl,rfl⟩:=Rd.au hR.line;obtain ⟨ak,nk,ck,rfl⟩:=Rd.au hR.kids;obtain ⟨S,hS⟩:∃ S,S=w.heap.size:=⟨_,rfl⟩;have qQ:=hR.line;rw [<- hS] at qQ;obtain ⟨w0,hw0⟩:∃ w0,w0=w.alloc (.cells #[.int .i64 kd,.int .i64 lv,.string i,.string t,.string d,.string ti,.string at_.id,.slice ac nc cc,.slice ap np cp,.slice al nl cl,.slice ak nk ck] 47):=⟨_,rfl⟩;obtain ⟨w1,hw1⟩:∃ w1,w1=w0.alloc (.cells #[.slice none 0 0] 35):=⟨_,rfl⟩;have hz0':w0.heap.size=S+1:=by rw [hw0,hS];simp
 have k0:CB 47 S [.int .i64 kd,.int .i64 lv,.string i,.string t,.string d,.string ti,.string at_.id,.slice ac nc cc,.slice ap np cp,.slice al nl cl,.slice ak nk ck] w1:=by rw [hw1];refine CB.below ?_ ((YH _ _).alloc (YI _) _);rw [hw0,hS];exact CB.new _ _ _
 have b1:Zv S w w1:=by rw [hw1,hw0,hS];exact ((YH _ _).alloc (YI _) _).alloc (by simp) _
 have x1:aP (S+1) (.slice none 0 0) 35 w1:=by rw [hw1,<- hz0'];exact aP.new _ _ _
 have d6:=k0.cell 6 _ rfl;have d9:=k0.cell 9 _ rfl;have HS:=Lib.hid hS;have B1:=Lib.hid b1;have K0:=Lib.hid k0;have X1:=Lib.hid x1;have HL:=Lib.hid qQ;have HN:=Lib.hid hlen;have c1:=x1.cell;have f1:=x1.free
 -- what the calls of the closure say,whatever the row so far
 have AP:Hid (∀ (L:List ByteArray) (v:Zw) (W:Zu),L.length<=1->bO at_ li=L++gK (ah.aC li)->Zv S w W->CB 47 S [.int .i64 kd,.int .i64 lv,.string i,.string t,.string d,.string ti,.string at_.id,.slice ac nc cc,.slice ap np cp,.slice al nl cl,.slice ak nk ck] W->aP (S+1) v 35 W->W.ownsRow S 9 1 v L.length (L.map Value.string)->S+1<W.heap.size ->
   Calls Tryz.prog 84 #[.slice al nl cl,.pointer (some ⟨S+1,0,none⟩),.pointer (some ⟨W.heap.size,0,none⟩)] (W.alloc (.cells #[wZ (S+1) W.heap.size] 81)) fun e w'=>e=.returned (.tuple #[])/\∃ v',aP (S+1) v' 35 w'/\w'.ownsRow S 9 1 v' (bO at_ li).length ((bO at_ li).map Value.string)/\Zv S w w'):=by
  intro L v W hL1 hE hb hk hx ho hlt;have hI:CW (S+1) W.heap.size S L v (W.alloc (.cells #[wZ (S+1) W.heap.size] 81)):=⟨hx.alloc _,aP.new _ _ _,ho.alloc _⟩;have b2:Zv S w (W.alloc (.cells #[wZ (S+1) W.heap.size] 81)):=hb.alloc (by omega) _;refine (uJ (S+1) W.heap.size S S (YI _) (by omega) _ li L v (.slice al nl cl) _ (YI _) (HL.out.below b2) hI (by simp;omega) (by have:=HN.out;omega)).mono ?_;rintro e w' ⟨rfl,v',hK⟩;refine ⟨rfl,v',hK.i.k2,by rw [hE];exact hK.i.own,b2.trans (hK.fr.below S (by simp;omega) (fun b e=>?_))⟩;rcases e with e | e
  ·omega
  ·exact (hI.own.lt b e).1
 clear qQ b1 k0 x1 hR hlen;go_enter Tryz.func65,Tryz.ntmps65;go_upto_region 2 with (fail)
 rw [<- hw0,<- hS];try rw [hz0']
 rw [<- hw1];clear hw0 hw1 hS hz0';by_cases hid:at_.id.data.toList=[]
 ·have QW:at_.id.toList.isEmpty=true:=by rw [Lib.toList_data,List.isEmpty_iff];exact hid
  have hE:bO at_ li=[]++gK (ah.aC li):=by unfold bO zq;rw [if_pos hid]
  have FC:=Lib.hid (AP.out [] (.slice none 0 0) w1 (by simp) hE B1.out K0.out X1.out (nW _ _ _ _) X1.out.lt);clear hid hE;go_upto_region 6 with (fail)
  obtain ⟨Q,hQ⟩:∃ Q,Q=w1.heap.size:=⟨_,rfl⟩;obtain ⟨wF,hwF⟩:∃ wF,wF=w1.alloc (.cells #[wZ (S+1) Q] 81):=⟨_,rfl⟩;rw [<- hQ,<- hwF] at FC;have fc:wF.cell? ⟨Q,0,none⟩=some (wZ (S+1) Q):=by rw [hwF,hQ];exact (aP.new w1 (wZ (S+1) w1.heap.size) _).cell
  have e9:wF.cell? ⟨S,9,none⟩=some (.slice al nl cl):=by rw [hwF];exact (CB.below K0.out ((YH _ _).alloc (YI _) _)).cell 9 _ rfl
  unfold wZ at hwF fc;rw [<- hQ];rw [<- hwF];clear hQ hwF d6 d9 c1 f1;go_wp2_with fail
  (with_reducible refine FC.out.mono ?_)
  rintro e w4 ⟨rfl,v4,x4,o4,b4⟩;obtain ⟨a4,c4,rfl⟩:=lI o4;have y4:=x4.cell;have HP:Hid (xR w (bO at_ li) (.returned (.slice a4 (bO at_ li).length c4)) w4):=⟨_,rfl,by rw [<- HS.out];exact o4,by rw [<- HS.out];exact b4⟩;generalize bO at_ li=OA at *
  clear x4 o4 b4 FC e9 fc;go_wp2;go_ret;exact HP.out
 ·have QW:at_.id.toList.isEmpty=false:=by
   cases h:at_.id.toList.isEmpty with
   | false=>rfl
   | true=>rw [Lib.toList_data,List.isEmpty_iff] at h;exact absurd h hid
  have hE:bO at_ li=[at_.id]++gK (ah.aC li):=by unfold bO zq;rw [if_neg hid]
  have HE:=Lib.hid hE;clear hid hE;go_wp2_with (at_builtin;refine wpList_append_own_at _ rfl _ _ 35 rfl S 9 i0 _ 1 16 Tryz.underlying35 hi0 hz0 hz1 hz2 rfl (by decide) _ _ _ rfl ((nW w1 S 9 1).alloc _) ⟨w1.heap.size,0,none⟩ 1 1 [.string at_.id] rfl rfl (kN w1 (.string at_.id) 9) (by intro u hu;simp at hu;subst hu;rfl) (by unfold maxLen;omega) (by omega) (by have:=X1.out.lt;simp;omega) ?_)
  intro v2 w3 hown3 hg3 _ FV;obtain ⟨a3,c3,rfl⟩:=lI hown3;have hb3:Zv w1.heap.size w1 w3:=((YH _ w1).alloc (YI _) _).grown hg3 (by simp) (by simp [Value.ownBlock]);have k3:=K0.out.below hb3;have x3:=X1.out.below X1.out.lt hb3;have MJ:(Value.slice a3 (0+1) c3).ownBlock≠some (S+1):=bR (T':=35) (cs:=[.slice none 0 0]) hown3 x3 (by decide);have FC:=Lib.hid (AP.out [at_.id] (.slice a3 (0+1) c3) (w3.setCell ⟨S+1,0,none⟩ (.slice a3 (0+1) c3)) (by simp) HE.out ((B1.out.trans (hb3.mono (by have:=X1.out.lt;omega))).setCell (by show S<=S+1;omega) _)
   (k3.fr (aO.set w3 (S+1) 0 _) (by omega)) (x3.set _) (fO hown3 (aO.set w3 (S+1) 0 _) (fun b e e'=>MJ (e' ▸ e))) (by have:=x3.lt;simp [Y6];omega))
  have xc:=x3.cell;have xf:=x3.free;have K3:=Lib.hid (k3.fr (aO.set w3 (S+1) 0 (.slice a3 (0+1) c3)) (by omega));clear hown3 hg3 FV hb3 k3 x3 MJ;go_upto_region 4 with (fail)
  obtain ⟨wG,QX⟩:∃ wG,wG=w3.setCell ⟨S+1,0,none⟩ (.slice a3 (0+1) c3):=⟨_,rfl⟩;rw [<- QX] at FC K3;try rw [<- QX]
  clear QX xc xf;go_upto_region 6 with (fail)
  obtain ⟨Q,hQ⟩:∃ Q,Q=wG.heap.size:=⟨_,rfl⟩;obtain ⟨wF,hwF⟩:∃ wF,wF=wG.alloc (.cells #[wZ (S+1) Q] 81):=⟨_,rfl⟩;rw [<- hQ,<- hwF] at FC;have fc:wF.cell? ⟨Q,0,none⟩=some (wZ (S+1) Q):=by rw [hwF,hQ];exact (aP.new wG (wZ (S+1) wG.heap.size) _).cell
  have e9:wF.cell? ⟨S,9,none⟩=some (.slice al nl cl):=by rw [hwF];exact (CB.below K3.out ((YH _ _).alloc (YI _) _)).cell 9 _ rfl
  unfold wZ at hwF fc;rw [<- hQ];rw [<- hwF];clear hQ hwF d6 d9 c1 f1;go_wp2_with fail
  (with_reducible refine FC.out.mono ?_)
  rintro e w4 ⟨rfl,v4,x4,o4,b4⟩;obtain ⟨a4,c4,rfl⟩:=lI o4;have y4:=x4.cell;have HP:Hid (xR w (bO at_ li) (.returned (.slice a4 (bO at_ li).length c4)) w4):=⟨_,rfl,by rw [<- HS.out];exact o4,by rw [<- HS.out];exact b4⟩;generalize bO at_ li=OA at *
  clear x4 o4 b4 FC e9 fc;go_wp2;go_ret;exact HP.out
open Go.RowKit
def mE (seen:List ByteArray) (g:Int) (x:Bx):Nat:=if x.ht<1\/1048576<x.ht then 9 else if dx x.text=false then 17 else if x.gr<g then 5 else qm seen x.an
def gu (seen:List ByteArray) (g:Int):List Bx->Nat
 | []=>0
 | x::l=>if mE seen g x≠0 then mE seen g x else gu (seen++x.an) x.gr l
def iR (l:List Bx):Nat:=if 4096<l.length then 3 else gu [] 0 l
def aU (l:List Bx) (k:Nat):List ByteArray:=((l.take k).map Bx.an).flatten
structure Bx.fine (x:Bx):Prop where
 t:x.text.size<=1000000
 n:x.an.length<=1000
 a:∀ s∈x.an,s.size<=1000000
theorem nY {l:List Bx} {k:Nat} {x:Bx} (h:l[k]?=some x):aU l (k+1)=aU l k++x.an:=by unfold aU;rw [Y1,h];simp
theorem qR (l:List Bx) (h:∀ x∈l,x.fine):∀ k,(aU l k).length<=1000*k
 | 0=>by simp [aU]
 | k+1=>by
  have ih:=qR l h k;cases hx:l[k]? with
  | none=>unfold aU at ih ⊢;rw [Y1,hx];simp at ih ⊢;omega
  | some x=>
   rw [nY hx,YM];have:=(h x (YT hx)).n;omega
theorem iT {ok:Nat->Prop} {w:Zu} {l:List Bx} {a:Option Addr} {cap:Nat} (h:jV ok w 6 (l.map Bx.d) a cap) {k:Nat} {t:ByteArray} {ht gr:Int} {kp fl:Bool} {an:List ByteArray} (hk:l[k]?=some ⟨t,ht,gr,kp,fl,an⟩) : ∃ b off va,a=some ⟨b,off,none⟩/\ok b/\b<w.heap.size/\(w.cell? ⟨b,off+k*6,none⟩=some (.string t)/\w.cell? ⟨b,off+k*6+1,none⟩=some (.int .i64 ht)/\w.cell? ⟨b,off+k*6+2,none⟩=some (.int .i64 gr)/\w.cell? ⟨b,off+k*6+3,none⟩=some (.bool kp)/\w.cell? ⟨b,off+k*6+4,none⟩=some (.bool fl)/\w.cell? ⟨b,off+k*6+5,none⟩=some va)/\Rd ok w (dU an) [va]:=by
 have hlt:k<l.length:=(List.getElem?_eq_some_iff.1 hk).1;obtain ⟨b,off,ha,hok,hb,hc⟩:=h.at_ (by simpa using Nat.lt_of_le_of_lt (YS _) hlt)
 obtain ⟨r,hr,hl,hcell⟩:=hc k _ (by rw [List.getElem?_map,hk];rfl);obtain ⟨va,rfl,hv⟩:=Bx.open_ hr;refine ⟨b,off,va,ha,hok,hb,⟨hcell 0 _ rfl,?_,?_,?_,?_,?_⟩,hv⟩
 ·rw [Nat.add_assoc];exact hcell 1 _ rfl
 ·rw [Nat.add_assoc];exact hcell 2 _ rfl
 ·rw [Nat.add_assoc];exact hcell 3 _ rfl
 ·rw [Nat.add_assoc];exact hcell 4 _ rfl
 ·rw [Nat.add_assoc];exact hcell 5 _ rfl
def Ic (w:Zu) (mb:Nat) (l:List Bx) (V:Nat) (vg vi:Zw) (wr:Zu):Prop:=
 ∃ (k:Nat) (g:Int),k<=l.length/\vi=.int .i64 k/\vg=.int .i64 g/\aV wr mb (aU l k).length (aU l k).reverse/\Zv w.heap.size w wr/\gu (aU l k) g (l.drop k)=V
def Ie (w:Zu) (mb:Nat) (seen cls:List ByteArray) (E:Nat) (vi:Zw) (wr:Zu):Prop:=
 ∃ j:Nat,j<=cls.length/\vi=.int .i64 j/\aV wr mb (seen.length+j) (seen++cls.take j).reverse/\Zv w.heap.size w wr/\qm (seen++cls.take j) (cls.drop j)=E
theorem mF (l:List Bx) (v:Zw) (w:Zu) (h:Rd (·<w.heap.size) w (.sl 6 (l.map Bx.d)) [v]) (hf:∀ x∈l,x.fine) : Calls Tryz.prog 8 #[v] w (dO (.int .i64 (iR l:Nat)) w):=by
 obtain ⟨a,c,hv,hs⟩:=Rd.aD h;obtain ⟨n,hn⟩:∃ n,n=l.length:=⟨_,rfl⟩;obtain rfl:v=.slice a n c:=by rw [hn];simpa using hv
 have hcap:n<=c:=by have:=hs.le;rw [List.length_map] at this;omega
 have hmx:=hs.max;unfold maxLen at hmx;have HE:Hid (iR l=if 4096<n then 3 else gu [] 0 l):=by rw [hn];rfl
 obtain ⟨V,hV⟩:∃ V,V=iR l:=⟨_,rfl⟩;rw [<- hV] at HE ⊢;have HN:=Lib.hid hn;have HSL:=Lib.hid hs;have HF:=Lib.hid hf;clear h hv hn hs hf hV;by_cases hbig:4096<n
 ·have q1:decide ((4096:Int)<(n:Int))=true:=by simp;omega
  have HV:Hid (V=3):=by show V=3;rw [HE.out,if_pos hbig]
  clear hbig HE;go_enter Tryz.func8,Tryz.ntmps8;go_wp2;go_ret;exact ⟨by rw [HV.out];rfl,YH _ _⟩
 have q1:decide ((4096:Int)<(n:Int))=false:=by simp;omega
 have LV:Hid (V=gu [] 0 l):=by show V=_;rw [HE.out,if_neg hbig]
 obtain ⟨mb,hmb⟩:∃ mb,mb=w.heap.size:=⟨_,rfl⟩;obtain ⟨w1,hw1⟩:∃ w1,w1=w.alloc (.map #[] 0):=⟨_,rfl⟩;have R0:Hid (Ic w mb l V (.int .i64 0) (.int .i64 0) w1):=⟨0,0,YS _,rfl,rfl,by rw [hw1,hmb];exact aV.made w,by rw [hw1];exact (YH _ _).alloc (YI _) _,LV.out.symm⟩;have VU:=Lib.hid hmb;have hmm:=@run_makeMap Tryz.prog;clear HE LV;go_enter Tryz.func8,Tryz.ntmps8;go_wp2;rw [<- hw1,<- hmb];clear hmm hw1 hmb q1
 go_loopw [4,15] (fun vg vi wr=>Ic w mb l V vg vi wr) (fun _ vi _=>n-(intOf vi).toNat)
 case atStart=>exact R0.out
 case round=>
  clear R0;obtain ⟨k,g,hk,rfl,rfl,hset,hbel,aH⟩:=hrel;by_cases hlt:k<n
  ·obtain ⟨y,hy⟩:∃ y,l[k]?=some y:=⟨_,YG (by have:=HN.out;omega)⟩;have QY:=HF.out y (YT hy);rw [Fv l k y hy] at aH;have MK:=nY hy;have ML:=qR l HF.out k;obtain ⟨yt,yh,yg,yk,yf,ya⟩:=y;obtain ⟨b,off,va,rfl,-,hbl,⟨c0,c1,c2,c3,c4,c5⟩,hva⟩:=iT HSL.out hy;have e1:∀ j x,w.cell? ⟨b,j,none⟩=some x->wr.cell? ⟨b,j,none⟩=some x:=fun j x e=>by rw [hbel.cell (p:=⟨b,j,none⟩) (fM e)];exact e
   have c0:=e1 _ _ c0;have c1:=e1 _ _ c1;have c2:=e1 _ _ c2;have c3:=e1 _ _ c3;have c4:=e1 _ _ c4;have c5:=e1 _ _ c5;obtain ⟨aa,ca,CY,hsa⟩:=Rd.aD hva;obtain ⟨na,hna⟩:∃ na,na=ya.length:=⟨_,rfl⟩;obtain rfl:va=.slice aa na ca:=by rw [hna];simpa using CY
   have hca:na<=ca:=by have:=hsa.le;rw [List.length_map] at this;omega
   have QZ:=hsa.max;unfold maxLen at QZ;have MN:na<=1000:=by have:=QY.n;rw [hna];exact this
   obtain ⟨q,hq⟩:∃ q,q=wr.heap.size:=⟨_,rfl⟩;obtain ⟨wq,hwq⟩:∃ wq,wq=wr.alloc (.cells #[.string yt,.int .i64 yh,.int .i64 yg,.bool yk,.bool yf,.slice aa na ca] 37):=⟨_,rfl⟩;have kq:CB 37 q [.string yt,.int .i64 yh,.int .i64 yg,.bool yk,.bool yf,.slice aa na ca] wq:=by rw [hwq,hq];exact CB.new _ _ _
   have bq:Zv wr.heap.size wr wq:=by rw [hwq];exact (YH _ _).alloc (YI _) _
   have SQ:=Lib.hid (hset.below bq);have BQ:=Lib.hid (aM hbel bq);have KQ:=Lib.hid kq;have d0:=kq.cell 0 _ rfl;have d1:=kq.cell 1 _ rfl;have HY:=Lib.hid hy;have Tz:=Lib.hid QY;have Q5:=Lib.hid hsa;have Fw:=Lib.hid hna;have bB:=Lib.hid aH;have MO:=Lib.hid MK;have Q6:=Lib.hid ML;clear hset hbel hy QY aH MK ML hva CY hsa hna kq bq hbl e1;by_cases hh:yh<1\/1048576<yh
   ·have HV:Hid (V=9):=by
     show V=9;have h:=bB.out;rw [gu,show mE (aU l k) g ⟨yt,yh,yg,yk,yf,ya⟩=9 from by unfold mE;rw [if_pos hh]] at h;rw [<- h];rfl
    rcases hh with hh | hh
    case' inl=>
     have q1:decide (yh<1)=true:=by simp;omega
     clear hh
    case' inr=>
     have q1:decide (yh<1)=false:=by simp;omega
     have q2:decide ((1048576:Int)<yh)=true:=by simp;omega
     clear hh
    all_goals
     go_upto_region 8 with (fail)
     rw [<- hwq,<- hq];clear hwq hq;go_wp2;go_ret;exact ⟨by rw [HV.out];rfl,BQ.out⟩
   have q1:decide (yh<1)=false:=by simp;omega
   have q2:decide ((1048576:Int)<yh)=false:=by simp;omega
   have Q7:Hid (mE (aU l k) g ⟨yt,yh,yg,yk,yf,ya⟩=if dx yt=false then 17 else if yg<g then 5 else qm (aU l k) ya):=by show _=_;unfold mE;rw [if_neg hh]
   have VC:=Lib.hid (fu yt wq (by have:=Tz.out.t;dsimp only at this;omega));clear hh;cases hvv:dx yt with
   | false=>
    rw [hvv] at VC;have HV:Hid (V=17):=by show V=17;have h:=bB.out;rw [gu,Q7.out,if_pos hvv] at h;rw [<- h];rfl
    clear hvv;go_upto_region 8 with (fail)
    rw [<- hwq,<- hq];clear hwq hq;go_wp2_with fail
    refine VC.out.mono ?_;rintro e w3 ⟨rfl,qn,rfl⟩;go_wp2;go_ret;exact ⟨by rw [HV.out];rfl,eY BQ.out _⟩
   | true=>
   rw [hvv] at VC;have Q8:Hid (mE (aU l k) g ⟨yt,yh,yg,yk,yf,ya⟩=if yg<g then 5 else qm (aU l k) ya):=by show _=_;rw [Q7.out,if_neg (by rw [hvv];decide)]
   clear hvv Q7;by_cases hg:yg<g
   ·have q3:decide (yg<g)=true:=by simpa using hg
    have HV:Hid (V=5):=by show V=5;have h:=bB.out;rw [gu,Q8.out,if_pos hg] at h;rw [<- h];rfl
    clear hg;go_upto_region 8 with (fail)
    rw [<- hwq,<- hq];clear hwq hq;go_wp2_with fail
    refine VC.out.mono ?_;rintro e w3 ⟨rfl,qn,rfl⟩;have d2:=(CB.dN KQ.out qn).cell 2 _ rfl;go_wp2;go_ret;exact ⟨by rw [HV.out];rfl,eY BQ.out _⟩
   have q3:decide (yg<g)=false:=by simpa using hg
   have hh3:Hid (mE (aU l k) g ⟨yt,yh,yg,yk,yf,ya⟩=qm (aU l k) ya):=by show _=_;rw [Q8.out,if_neg hg]
   clear hg Q8;go_upto_region 8 with (fail)
   rw [<- hwq,<- hq];clear hwq hq;go_wp2_with fail
   refine VC.out.mono ?_;rintro e w3 ⟨rfl,qn,rfl⟩;have d2:=(CB.dN KQ.out qn).cell 2 _ rfl;have d5:=(CB.dN KQ.out qn).cell 5 _ rfl;obtain ⟨w3,hw3⟩:∃ w3,w3=wq.drewN qn:=⟨_,rfl⟩;have B3:Hid (Zv w.heap.size w w3):=by rw [hw3];exact eY BQ.out _
   have S3:Hid (aV w3 mb (aU l k).length (aU l k).reverse):=by rw [hw3];exact SQ.out
   rw [<- hw3] at d2 d5 ⊢;obtain ⟨E1,hE1⟩:∃ E1,E1=qm (aU l k) ya:=⟨_,rfl⟩;have R1:Hid (Ie w mb (aU l k) ya E1 (.int .i64 0) w3):=⟨0,YS _,rfl,by simpa using S3.out,B3.out,by rw [hE1];simp⟩;rw [<- hE1] at hh3;clear hw3 hE1 d0 d1 VC SQ BQ KQ S3 c0 c1 c2 c3 c4 c5;go_wp2
   go_loopw [40] (fun vi wr=>Ie w mb (aU l k) ya E1 vi wr) (fun vi _=>na-(intOf vi).toNat)
   case atStart=>exact R1.out
   case round=>
    clear R1 d2 d5;obtain ⟨j,hj,rfl,hset,hbel,aH⟩:=hrel;by_cases hjt:j<na
    ·obtain ⟨x,hx⟩:∃ x,ya[j]?=some x:=⟨_,YG (by have:=Fw.out;omega)⟩;obtain ⟨b2,off2,rfl,-,-,f0⟩:=su Q5.out hx;have f0:wr.cell? ⟨b2,off2+j,none⟩=some (.string x):=by rw [hbel.cell (p:=⟨b2,off2+j,none⟩) (fM f0)];exact f0
     have hxs:=Tz.out.a x (YT hx);have CN:=Lib.hid (fun w=>dH x w (by omega));have hlk:=hset.look x (by unfold maxLen;omega);obtain ⟨w',hup,hS',hgr⟩:=hset.put x (by unfold maxLen;omega) (by have:=Q6.out;have:=HN.out;unfold maxLen;omega);rw [gy] at hlk;have CZ:Hid (aU l k++ya.take (j+1)=aU l k++ya.take j++[x]):=by show _=_;rw [Y1,hx];simp
     rw [Fv ya j x hx,qm] at aH;have iE:=Lib.hid aH;have tV:=Lib.hid hbel;have MP:=Lib.hid hS';have AQ:=Lib.hid (hbel.grown hgr hbel.size (fun j hj=>by cases hj;rw [VU.out];exact YI _));clear aH hS' hgr hset hbel hx;cases hn:lJ x with
     | false=>
      rw [hn] at CN;have HV:Hid (V=6):=by show V=6;have h:=iE.out;rw [if_pos hn] at h;have h2:=bB.out;rw [gu,hh3.out,<- h] at h2;exact h2.symm
      clear hn hup hlk;go_wp2_with fail
      refine (CN.out _).mono ?_;rintro e w5 ⟨rfl,rfl⟩;go_wp2;go_ret;exact ⟨by rw [HV.out];rfl,tV.out⟩
     | true=>
      rw [hn] at CN;cases hb:hasB (aU l k++ya.take j) x with
      | true=>
       rw [hb] at hlk;have HV:Hid (V=7):=by show V=7;have h:=iE.out;rw [if_neg (by rw [hn];decide),if_pos hb] at h;have h2:=bB.out;rw [gu,hh3.out,<- h] at h2;exact h2.symm
       clear hn hb hup;go_wp2_with fail
       refine (CN.out _).mono ?_;rintro e w5 ⟨rfl,rfl⟩;go_wp2;go_ret;exact ⟨by rw [HV.out];rfl,tV.out⟩
      | false=>
       rw [hb] at hlk;have JH:Hid (qm (aU l k++ya.take (j+1)) (ya.drop (j+1))=E1):=by show _=_;have h:=iE.out;rw [if_neg (by rw [hn];decide),if_neg (by rw [hb];decide)] at h;rw [CZ.out];exact h
       clear hn hb;go_wp2_with fail
       refine (CN.out _).mono ?_;rintro e w5 ⟨rfl,rfl⟩;go_wp2;go_roundw;case rel=>exact ⟨j+1,by have:=Fw.out;omega,by go_num,by rw [CZ.out,List.reverse_append];exact MP.out,AQ.out,JH.out⟩
       case measure=>simp [intOf];omega
    ·have hjn:j=ya.length:=by have:=Fw.out;omega
     rw [hjn,Y3,List.drop_length,qm] at aH;rw [hjn,Y3,<- YM] at hset;have X7:j=na:=by have:=Fw.out;omega
     have MP:Hid (aV wr mb (aU l (k+1)).length (aU l (k+1)).reverse):=by rw [MO.out];exact hset
     have AQ:=Lib.hid hbel;have VW:Hid (gu (aU l (k+1)) yg (l.drop (k+1))=V):=by show _=_;have h2:=bB.out;rw [gu,hh3.out,<- aH] at h2;rw [MO.out];simpa using h2
     clear aH hset hbel hjn;go_wp2;go_roundw;case rel=>exact ⟨k+1,yg,by have:=HN.out;omega,by go_num,rfl,MP.out,AQ.out,VW.out⟩
     case measure=>simp [intOf];omega
  ·have hkn:k=n:=by have:=HN.out;omega
   have hkl:k=l.length:=by have:=HN.out;omega
   rw [hkl,List.drop_length,gu] at aH;have HV:Hid (V=0):=aH.symm;have AQ:=Lib.hid hbel;clear aH hset hbel hkl;go_wp2;go_ret;exact ⟨by rw [HV.out];rfl,AQ.out⟩
end Go.Proofs.YtnmldmofggkoeaaGreatDoor

