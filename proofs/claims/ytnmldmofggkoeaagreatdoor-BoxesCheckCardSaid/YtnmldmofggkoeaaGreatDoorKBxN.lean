/- Words for boxes in memory: a row since a number of blocks, what else stays, the maker. Contract of boxes.lines where no line has an error. A law's wrap that hands the contract the shape of the world too: a package-level variable of an integer's type holds some integer. Contracts of boxes.anchors and of the function that calls itself in it. -/
import Derived.Test.YtnmldmofggkoeaaGreatDoorKRIds
import Derived.Lib.OwnKind
import Derived.Test.YtnmldmofggkoeaaGreatDoorKLines
import Derived.LaidMore
set_option maxHeartbeats 4000000
set_option maxRecDepth 100000
namespace Go.Proofs.YtnmldmofggkoeaaGreatDoor
open List renaming getElem?_eq_getElem->XR,length_append->XZ,mem_of_getElem?->X9
open Go.RowKit.Below renaming refl->XT
open Nat renaming le_refl->XU,le_trans->XV
open Option.some renaming inj->X5
open Go.World renaming setCell->Yl
open Go renaming World->YJ,Value->YL
open Go.RowKit renaming Below->YK
open Go.RowKit
set_option linter.unusedVariables false
set_option linter.unusedSimpArgs false
def Bx.d (x:Bx):D:=.st [.str x.text,.int .i64 x.ht,.int .i64 x.gr,.bool x.keep,.bool x.fl,dL x.an]
def xG (s:ByteArray) (h g:Int) (k f:Bool) (va:YL):List YL:=[.string s,.int .i64 h,.int .i64 g,.bool k,.bool f,va]
theorem Bx.open_ {ok:Nat->Prop} {w:YJ} {x:Bx} {cs:List YL} (h:Rd ok w x.d cs):∃ va,cs=xG x.text x.ht x.gr x.keep x.fl va/\Rd ok w (dL x.an) [va]:=by obtain ⟨rows,hr,rfl⟩:=Rd.jf h;obtain ⟨r0,t0,rfl,h0,hr⟩:=hr.ay;obtain ⟨r1,t1,rfl,h1,hr⟩:=hr.ay;obtain ⟨r2,t2,rfl,h2,hr⟩:=hr.ay;obtain ⟨r3,t3,rfl,h3,hr⟩:=hr.ay;obtain ⟨r4,t4,rfl,h4,hr⟩:=hr.ay;obtain ⟨r5,t5,rfl,h5,hr⟩:=hr.ay;obtain rfl:=hr.aZ;obtain ⟨v,rfl,h5⟩:=Rd.iJ h5;rw [h0.aP,h1.iK,h2.iK,h3.lJ,h4.lJ];exact ⟨v,rfl,h5⟩
theorem Bx.mO {ok:Nat->Prop} {w:YJ} (x:Bx) {va:YL} (h:Rd ok w (dL x.an) [va]):Rd ok w x.d (xG x.text x.ht x.gr x.keep x.fl va):=
 Rd.qH (rows:=[[.string x.text],[.int .i64 x.ht],[.int .i64 x.gr],[.bool x.keep],[.bool x.fl],[va]])
  (aH.cons (Rd.bG _ _ _) (aH.cons (Rd.nM _ _ _ _) (aH.cons (Rd.nM _ _ _ _) (aH.cons (Rd.rQ _ _ _) (aH.cons (Rd.rQ _ _ _) (aH.one h))))))
def bH (x:Bx):List YL:=xG x.text x.ht x.gr x.keep x.fl (.slice none 0 0)
theorem xH:(Tryz.prog.info? 37).map (fun i=>(i.zero,i.size,i.bytes))=some (some (.agg #[.string ByteArray.empty,.int .i64 0,.int .i64 0,.bool false,.bool false,.slice none 0 0]),6,64):=by kernel_rfl
theorem Cz {s:ByteArray} {h g:Int} {k f:Bool} {a:Option Addr} {n c:Nat}:∀ u∈xG s h g k f (.slice a n c),u.oneCell'=true:=by intro u hu;simp [xG] at hu;rcases hu with rfl | rfl | rfl | rfl | rfl | rfl<;>simp [Value.oneCell']
theorem zu (l:List Bx) (rs:List (List YL)) (ok:Nat->Prop) (w:YJ) (h:aH ok w (l.map Bx.d) rs):∀ u∈rs.flatten,u.oneCell'=true:=by
 induction l generalizing rs with
 | nil=>
  have:=h.aZ;subst this;simp
 | cons x l ih=>
  obtain ⟨r,rs,rfl,h1,h2⟩:=h.ay;intro u hu;rw [List.flatten_cons] at hu;rcases List.mem_append.1 hu with hu | hu
  ·obtain ⟨va,rfl,hv⟩:=Bx.open_ h1;obtain ⟨a,n,c,rfl⟩:=Rd.au hv;exact Cz u hu
  ·exact ih rs h2 u hu
structure aN (P:Nat->Prop) (w w':YJ):Prop where
 os:w'.os=w.os
 tape:w'.tape=w.tape
 output:w'.output=w.output
 size:w.heap.size<=w'.heap.size
 blk:∀ b,b<w.heap.size->¬ P b->w'.heap[b]?=w.heap[b]?
section
variable {P P' Q:Nat->Prop} {w w1 w':YJ}
theorem aN.refl (P:Nat->Prop) (w:YJ):aN P w w:=⟨rfl,rfl,rfl,XU _,fun _ _ _=>rfl⟩
theorem aN.mono (h:aN P w w') (hp:∀ b,b<w.heap.size->P b->P' b):aN P' w w':=⟨h.os,h.tape,h.output,h.size,fun b hb hn=>h.blk b hb (fun e=>hn (hp b hb e))⟩
theorem aN.trans (h:aN P w w1) (h2:aN Q w1 w') (hq:∀ b,b<w.heap.size->Q b->P b):aN P w w':=
 ⟨h2.os.trans h.os,h2.tape.trans h.tape,h2.output.trans h.output,XV h.size h2.size,fun b hb hn=>(h2.blk b (Nat.lt_of_lt_of_le hb h.size) (fun e=>hn (hq b hb e))).trans (h.blk b hb hn)⟩
theorem aN.of_below (h:YK w.heap.size w w') (P:Nat->Prop):aN P w w':=⟨h.os,h.tape,h.output,h.size,fun b hb _=>h.block b hb⟩
theorem aN.below (h:aN P w w') (n:Nat) (hn:n<=w.heap.size) (hp:∀ b,P b->n<=b):YK n w w':=⟨h.os,h.tape,h.output,h.size,fun b hb=>h.blk b (by omega) (fun e=>by have:=hp b e;omega)⟩
theorem aN.set (w:YJ) (p j:Nat) (u:YL):aN (·=p) w (w.setCell ⟨p,j,none⟩ u):=⟨rfl,rfl,rfl,by simp [Yl],fun b _ hn=>Below.heap_setCell w ⟨p,j,none⟩ u b hn⟩
theorem aN.grown {row:Option Nat} (h:w.grownBy w' row):aN (fun b=>row=some b) w w':=⟨h.os,h.tape,h.output,h.size,fun b hb hn=>h.block b hb (fun e=>hn e.symm)⟩
theorem CB.fr {T:TypeId} {p:Nat} {cs:List YL} (h:CB T p cs w) (hf:aN P w w') (hn:¬ P p):CB T p cs w':=(hf.blk p h.lt hn).trans h
theorem Rd.fr {ok:Nat->Prop} {d:D} {cs:List YL} (h:Rd ok w d cs) (hf:aN P w w') (hn:∀ b,ok b->¬ P b):Rd ok w' d cs:=Rd.keep (fun b h1 h2=>⟨h1,hf.blk b h2 (hn b h1)⟩) _ _ h
theorem fK {B:Nat} {e:TypeId} {k:Nat} {v:YL} {n:Nat} {xs:List YL} (h:w.ownsRow B e k v n xs) (hf:aN P w w') (hn:∀ g,v.ownBlock=some g->¬ P g):w'.ownsRow B e k v n xs:=by
 have hl:=h.lt;obtain ⟨h1,h2⟩:=h;refine ⟨h1,?_⟩;rcases h2 with h2 | ⟨g,cap,cur,rfl,r2,r3,r4⟩
 ·exact .inl h2
 ·exact .inr ⟨g,cap,cur,rfl,r2,(hf.blk g (hl g rfl).2 (hn g rfl)).trans r3,r4⟩
end
def aI (T:TypeId) (k:Nat) (ok:Nat->Prop) (n U:Nat) (ds:List D) (rows:List (List YL)) (v:YL) (w:YJ):Prop:=n<=w.heap.size/\bN T k ok U (ql n w) ds rows v w
section
variable {T:TypeId} {k n U:Nat} {ok ok' P:Nat->Prop} {w0 w w':YJ} {ds es:List D} {rows iL:List (List YL)} {v v':YL}
theorem bN.toC (h:bN T k ok U w0 ds rows v w):aI T k ok w0.heap.size U ds rows v w:=by have hz:=FE (w:=w) h.Ao.size;have hb:=jK (w:=w) h.Ao.size;exact ⟨h.Ao.size,by rw [hz];exact h.own,by rw [hz];exact h.red,h.len,by rw [hz];exact hb,h.oU,by rw [hz];exact h.O4,h.Mh⟩
theorem aI.Sk {w0:YJ} (h:bN T k ok U w0 ds rows v w) (hn:w0.heap.size=n):aI T k ok n U ds rows v w:=by subst hn;exact h.toC
theorem aI.sz (h:aI T k ok n U ds rows v w):(ql n w).heap.size=n:=FE h.1
theorem aI.nil (T:TypeId) (k:Nat) (ok:Nat->Prop) {n:Nat} {w:YJ} (hn:n<=w.heap.size):aI T k ok n n [] [] (.slice none 0 0) w:=by have hz:=FE hn;have h:=bN.nil T k ok (ql n w);rw [hz] at h;refine ⟨hn,⟨by rw [hz];exact (⟨by simp,.inl ⟨rfl,rfl⟩⟩:w.ownsRow n T k (.slice none 0 0) 0 []),aH.none,by simp,by rw [hz];exact jK hn,by simp [Value.ownBlock],by rw [hz];exact XU _,hn⟩⟩
theorem aI.own (h:aI T k ok n U ds rows v w):w.ownsRow n T k v ds.length rows.flatten:=by have:=h.2.own;rwa [h.sz] at this
theorem aI.red (h:aI T k ok n U ds rows v w):aH (fun b=>(ok b\/n<=b)/\v.ownBlock≠some b/\b<U) w ds rows:=by have:=h.2.red;rwa [h.sz] at this
theorem aI.mO (hn:n<=w.heap.size) (h1:w.ownsRow n T k v ds.length rows.flatten) (h2:aH (fun b=>(ok b\/n<=b)/\v.ownBlock≠some b/\b<U) w ds rows) (h3:∀ r∈rows,r.length=k) (h4:∀ g,v.ownBlock=some g->g<U) (h5:n<=U) (h6:U<=w.heap.size):aI T k ok n U ds rows v w:=by have hz:=FE (w:=w) hn;exact ⟨hn,by rw [hz];exact h1,by rw [hz];exact h2,h3,by rw [hz];exact jK hn,h4,by rw [hz];exact h5,h6⟩
theorem aI.le (h:aI T k ok n U ds rows v w):n<=U:=by have:=h.2.O4;rwa [h.sz] at this
theorem aI.fr (h:aI T k ok n U ds rows v w) (hf:aN P w w') (ho:∀ b,ok b->ok' b) (hn:∀ b,b<w.heap.size->(ok b\/n<=b)->¬ P b):aI T k ok' n U ds rows v w':=by have hl:=h.own.lt;have hs:=hf.size;refine aI.mO (XV h.1 hs) ?_ (aH.keep (fun b hb hlt=>⟨⟨hb.1.imp (ho b) id,hb.2⟩,hf.blk b hlt (hn b hlt hb.1)⟩) _ _ h.red) h.2.len h.2.oU h.le (XV h.2.Mh hs);exact fK h.own hf (fun g hg=>hn g (hl g hg).2 (.inr (hl g hg).1))
theorem aI.weaken (h:aI T k ok n U ds rows v w) (ho:∀ b,ok b->ok' b):aI T k ok' n U ds rows v w:=h.fr (aN.refl (fun _=>False) w) ho (fun _ _ _ h=>h)
theorem aI.top (h:aI T k ok n U ds rows v w):aI T k ok n w.heap.size ds rows v w:=⟨h.1,h.2.top⟩
theorem aI.below (h:aI T k ok n U ds rows v w) (hb:YK w.heap.size w w'):aI T k ok n U ds rows v w':=h.fr (aN.of_below hb (fun _=>False)) (fun _ h=>h) (fun _ _ _ h=>h)
theorem aH.Mi {ok:Nat->Prop} {w:YJ}:∀ {l:List D} {rows:List (List YL)},aH ok w l rows->∀ (i:Nat) (d:D) (r:List YL),i<l.length->Rd ok w d r->aH ok w (l.set i d) (rows.set i r)
 | [],_,_,i,d,r,h1,_=>by simp at h1
 | x::xs,_,h,0,d,r,h1,h2=>by
  obtain ⟨r0,rs,rfl,h3,h4⟩:=h.ay;rw [List.set_cons_zero,List.set_cons_zero];exact aH.cons h2 h4
 | x::xs,_,h,i+1,d,r,h1,h2=>by
  obtain ⟨r0,rs,rfl,h3,h4⟩:=h.ay;rw [List.set_cons_succ,List.set_cons_succ];exact aH.cons h3 (aH.Mi h4 i d r (by simpa using h1) h2)
theorem aI.store {g c m:Nat} (h:aI T k ok n U ds rows (.slice (some ⟨g,0,none⟩) m c) w) (i j:Nat) (r:List YL) (d:D) (u:YL) (hr:rows[i]?=some r) (hj:j<k) (hx:Rd (fun b=>(ok b\/n<=b)/\b≠g) w d (r.set j u)) : aI T k ok n w.heap.size (ds.set i d) (rows.set i (r.set j u)) (.slice (some ⟨g,0,none⟩) m c) (w.setCell ⟨g,i*k+j,none⟩ u):=by
 have hm:m=ds.length:=by obtain ⟨a',c',e'⟩:=h.2.slice;simp at e';exact e'.2.1
 subst hm;have hil:i<ds.length:=by have:=(List.getElem?_eq_some_iff.1 hr).1;have:=h.red.len;omega
 have hg:=h.own.lt g rfl;have hs:(w.setCell ⟨g,i*k+j,none⟩ u).heap.size=w.heap.size:=by simp [Yl]
 have hu:=h.top;refine aI.mO (by rw [hs];exact h.1) ?_ ?_ ?_ (fun g' e=>by rw [<- hs];have:=(h.own.stored (i*k+j) u).1.lt g' e;omega) h.1 (by rw [hs];exact XU _)
 ·have:=(h.own.stored (i*k+j) u).1;rw [uj k rows h.2.len i j r u hr hj] at this
  rwa [List.length_set]
 ·refine aH.keep (fun b hb hlt=>⟨hb,Below.heap_setCell w ⟨g,i*k+j,none⟩ u b ?_⟩) _ _ (aH.Mi hu.red i d _ hil (Rd.keep (fun b hb hlt=>⟨⟨hb.1,fun e=>?_,hlt⟩,rfl⟩) _ _ hx))
  ·intro e;exact hb.2.1 (by rw [e];rfl)
  ·exact hb.2 (X5 e).symm
 ·intro q hq;rcases List.mem_or_eq_of_mem_set hq with hq | rfl
  ·exact h.2.len q hq
  ·rw [List.length_set];exact h.2.len r (X9 hr)
theorem aI.get {g c m i:Nat} {r:List YL} {d:D} (h:aI T k ok n U ds rows (.slice (some ⟨g,0,none⟩) m c) w) (hr:rows[i]?=some r) (hd:ds[i]?=some d) : Rd (fun b=>(ok b\/n<=b)/\b≠g) w d r/\∀ j u,r[j]?=some u->w.cell? ⟨g,i*k+j,none⟩=some u:=by
 have:=h.2.get hr hd
 rwa [h.sz] at this
end
structure nN (m:Nat) (W:Int) (st:St) (vp:YL) (w:YJ):Prop where
 cb:CB 63 m [.int .i64 W,.int .i64 (st.groups:Int),vp,.int .i64 (st.count:Int),.bool st.lq,.int .i64 (st.err:Int)] w
 own:w.ownsRow m 9 1 vp st.pend.length (st.pend.map Value.string)
section
variable {m:Nat} {W:Int} {st:St} {vp:YL} {w w':YJ} {P:Nat->Prop}
theorem nN.fr (h:nN m W st vp w) (hf:aN P w w') (hm:¬ P m) (hp:∀ g,vp.ownBlock=some g->¬ P g):nN m W st vp w':=⟨h.cb.fr hf hm,fK h.own hf hp⟩
theorem nN.below (h:nN m W st vp w) (hb:YK w.heap.size w w'):nN m W st vp w':=h.fr (aN.of_below hb (fun _=>False)) (fun h=>h) (fun _ _ h=>h)
theorem mY {T T':TypeId} {B k B' k' n n':Nat} {v v':YL} {xs xs':List YL} (h:w.ownsRow B T k v n xs) (h':w.ownsRow B' T' k' v' n' xs') (hT:T≠T'):∀ g,v.ownBlock=some g->v'.ownBlock≠some g:=by intro g e e';obtain ⟨c,fz,h1⟩:=Lib.ownsRow_kind h g e;obtain ⟨c',Xe,h2⟩:=Lib.ownsRow_kind h' g e';rw [h1] at h2;simp at h2;exact hT h2.2.1
theorem bR {T T':TypeId} {B k n p:Nat} {v:YL} {xs cs:List YL} (h:w.ownsRow B T k v n xs) (h':CB T' p cs w) (hT:T≠T'):v.ownBlock≠some p:=by intro e;obtain ⟨c,fz,h1⟩:=Lib.ownsRow_kind h p e;unfold CB at h';rw [h1] at h';simp at h';exact hT h'.2.1
theorem nN.slice (h:nN m W st vp w):∃ a c,vp=.slice a st.pend.length c:=lu h.own
end
theorem CF {w w':YJ} {b:Nat} (h:w'.heap[b]?=w.heap[b]?) (j:Nat):w'.frozen? ⟨b,j,none⟩=w.frozen? ⟨b,j,none⟩:=by unfold World.frozen?;simp only [h]
theorem rR {T:TypeId} {p:Nat} {cs:List YL} {w:YJ} (h:CB T p cs w) (j:Nat):w.frozen? ⟨p,j,none⟩=false:=by unfold CB at h;simp [World.frozen?,h]
theorem qI {T:TypeId} {p:Nat} {cs:List YL} {w:YJ} (h:CB T p cs w) (j:Nat) (u:YL):CB T p (cs.set j u) (w.setCell ⟨p,j,none⟩ u):=by unfold CB at h ⊢;simp [Yl,Array.getElem?_modify,h]
def bT (m:Nat) (W:Int) (w:YJ) (vp:YL) (r:List Bx × St) (e:Ending) (w':YJ):Prop:=
 ∃ v rows dZ,e=.returned v/\aI 37 6 (fun b=>vp.ownBlock=some b/\dZ.ownBlock≠some b) w.heap.size w'.heap.size (r.1.map Bx.d) rows v w'/\nN m W r.2 dZ w' /\
  (r.2.err=0->dZ=vp\/dZ=.slice none 0 0)/\(∀ g,dZ.ownBlock=some g->vp.ownBlock=some g\/w.heap.size<=g)/\aN (fun b=>b=m\/vp.ownBlock=some b) w w'
open Go.RowKit
def kG (w:YJ):Prop:=∃ m,w.cell? ⟨0,0,none⟩=some (.int .i64 m)
theorem kG.below {w w':YJ} (h:kG w) (hb:YK w.heap.size w w'):kG w':=by obtain ⟨m,h⟩:=h;exact ⟨m,(hb.cell (p:=⟨_,0,none⟩) (fJ h)).trans h⟩
theorem nO (s:ByteArray) (a b:Nat):(s.extract a b).size<=s.size:=by rw [ByteArray.size_extract];omega
theorem l9 (sep:ByteArray) (sv:Nat):∀ (k:Nat) (s:ByteArray),∀ x∈Lib.splitB sep sv k s,x.size<=s.size
 | 0,s,x,hx=>by
  rw [Lib.splitB] at hx;simp at hx;rw [hx];exact XU _
 | k+1,s,x,hx=>by
  rw [Lib.splitB] at hx;split at hx
  ·simp at hx;rw [hx];exact XU _
  ·rcases List.mem_cons.1 hx with rfl | hx
   ·exact nO _ _ _
   ·exact XV (l9 sep sv k _ x hx) (nO _ _ _)
theorem jg (s:ByteArray):∀ x∈fM s,x.size<=s.size:=l9 _ _ _ _
theorem fV (s:ByteArray):(fM s).length=Lib.countB s CG+1:=Lib.splitB_all CG (by decide) 0 _ s rfl
theorem kH (s:ByteArray):(fM s).length<=s.size+1:=by rw [fV];have:=Lib.countB_le CG (by decide) s.size s (XU _);omega
theorem iM:∀ (l:List ByteArray),rT l=0->∀ x∈l,um x=0
 | [],_,x,hx=>by cases hx
 | y::l,h,x,hx=>by
  rw [rT] at h;split at h
  ·rename_i h1;exact absurd h h1
  ·rename_i h1
   rcases List.mem_cons.1 hx with rfl | hx
   ·exact Decidable.not_not.1 h1
   ·exact iM l h x hx
theorem nP {s:ByteArray} (h:um s=0):(jh s).length<=4096/\∀ x∈jh s,dD x<=1048576:=by
 unfold um at h;split at h
 ·simp at h
 ·rename_i h1
  exact ⟨by omega,fun x hx=>by
   apply Nat.le_of_not_lt;exact fun h2=>h1 (.inr ⟨x,hx,h2⟩)⟩
theorem uo (wd:Int) (l:List ByteArray) (k:Nat) (x:ByteArray) (h:l[k]?=some x):pX wd (l.take (k+1))=pX wd (l.take k)++rU x wd:=by unfold pX;rw [List.take_add_one,h,List.flatMap_append];simp
theorem Ap (wd:Int) (l:List ByteArray) (k:Nat):(pX wd (l.take k)).length<=(pX wd l).length:=by have h:l=l.take k++l.drop k:=(List.take_append_drop k l).symm;have:=congrArg (fun l=>(pX wd l).length) h;simp only [pX,List.flatMap_append,XZ] at this;unfold pX;omega
theorem jH.reads {w:YJ} {v:YL} {n:Nat} {xs:List YL} (h:jH w 1 v n xs):∃ a c,v=.slice a n c/\Reads w w.heap.size 1 a n xs:=by
 obtain ⟨h1,a,c,rfl,-,-,h2⟩:=h;refine ⟨a,c,rfl,h1,fun hp=>?_⟩;rcases h2 with h2 | ⟨b,off,rfl,hc⟩
 ·omega
 ·refine ⟨⟨b,off,none⟩,rfl,?_,fun j u hu=>?_⟩
  ·obtain ⟨u,hu⟩:∃ u,xs[0]?=some u:=⟨_,XR (by omega)⟩;exact fJ (hc 0 u hu)
  ·have e:((⟨b,off,none⟩:Addr).add j)=⟨b,off+j,none⟩:=by unfold Addr.add;split<;>simp_all
   rw [e];exact hc j u hu
def Jp (w:YJ) (L:List ByteArray) (e:Ending) (w':YJ):Prop:=∃ v,e=.returned (.tuple #[v,.int .i64 0])/\w'.ownsRow w.heap.size 9 1 v L.length (L.map Value.string)/\YK w.heap.size w w'
def CJ (w:YJ) (wd:Int) (ps:List ByteArray) (v vi:YL) (wr:YJ):Prop:=
 ∃ k:Nat,k<=ps.length/\vi=.int .i64 k/\wr.ownsRow w.heap.size 9 1 v (pX wd (ps.take k)).length ((pX wd (ps.take k)).map Value.string)/\YK w.heap.size w wr
theorem Aq (li:List ah) (vl:YL) (wd:Int) (w:YJ) (h:Rd (·<w.heap.size) w (fC li) [vl]) (hlen:(ah.aA li).length<=100000) (he:iN li=0) (hl:(pX wd (fM (eZ li))).length<=1000000) (hd0:1<=wd) (hd1:wd<=1048576) (ht:TabAt w) (hml:kG w) : Calls Tryz.prog 54 #[vl,.int .i64 wd] w (Jp w (dF li wd)):=by
 obtain ⟨i0,hi0,hz0,hz1,hz2⟩:=info_parts nL;have SC:=Lib.hid (Ar li vl w h (by omega));have hsz:(eZ li).size<=100000:=by show (ah.aA li).toArray.size<=_;rw [List.size_toArray];exact hlen
 have Jq:=Lib.hid (iM _ he);have U9:=Lib.hid (jg (eZ li));have Mj:=Lib.hid (fV (eZ li));have Va:=kH (eZ li);have Lf:Hid (∀ W,kG W->Calls Tryz.prog 57 #[.string (eZ li),.string ⟨#[10]⟩] W fun e w'=>e=.returned (.slice (some ⟨W.heap.size,0,none⟩) (fM (eZ li)).length (fM (eZ li)).length)/\w'=W.alloc (.cells ((fM (eZ li)).map Value.string).toArray 9)):=fun W hW=>by
  obtain ⟨m,hm⟩:=hW;have h:=Tryz.strings_Split (eZ li) CG m W (by omega) hm (by decide);rw [fV];exact h
 have Qn:Hid (dF li wd=lK (pX wd (fM (eZ li)))):=rfl;obtain ⟨V,hV⟩:∃ V,V=dF li wd:=⟨_,rfl⟩;rw [<- hV] at Qn ⊢;have HT:=Lib.hid ht;have Vb:=Lib.hid hml;have HL:=Lib.hid hl;generalize fM (eZ li)=ps at *;clear hV h hlen he ht hml hl;generalize eZ li=s at *;go_enter Tryz.func54,Tryz.ntmps54;go_wp2_with fail
 (with_reducible refine SC.out.mono ?_)
 rintro e w1 ⟨rfl,b1⟩;have SP:=Lib.hid (Lf.out w1 (Vb.out.below b1));have B1:=Lib.hid b1;clear SC Lf b1;go_wp2_with fail
 (with_reducible refine SP.out.mono ?_)
 rintro e w2 ⟨rfl,hw2⟩;obtain ⟨g,hg⟩:∃ g,g=w1.heap.size:=⟨_,rfl⟩;obtain ⟨n,hn⟩:∃ n,n=ps.length:=⟨_,rfl⟩;have hk2:CB 9 g (ps.map Value.string) w2:=by rw [hw2,hg];exact CB.new _ _ _
 have hb2:YK w.heap.size w w2:=by rw [hw2];exact B1.out.alloc B1.out.size _
 have hn1:n<=100001:=by omega
 rw [<- hg,<- hn];have HK:=Lib.hid hk2;have HB2:=Lib.hid hb2;have HN:=Lib.hid hn;have R0:Hid (CJ w2 wd ps (.slice none 0 0) (.int .i64 0) w2):=⟨0,Nat.zero_le _,rfl,by simpa [pX] using nQ _ _ _ _,XT _ _⟩;clear hw2 hg hn hk2 hb2 SP;go_wp2
 go_loopw [6,15] (fun v vi wr=>CJ w2 wd ps v vi wr) (fun _ vi _=>n-(intOf vi).toNat)
 case atStart=>exact R0.out
 case round=>
  clear R0;obtain ⟨k,hk,rfl,hown,hbel⟩:=hrel;by_cases hlt:k<n
  ·obtain ⟨x,hx⟩:∃ x,ps[k]?=some x:=⟨_,XR (by have:=HN.out;omega)⟩;have hxs:=U9.out x (X9 hx);have Qo:=nP (Jq.out x (X9 hx));have c0:wr.cell? ⟨g,k,none⟩=some (.string x):=(HK.out.below hbel).cell k _ (by rw [List.getElem?_map,hx];rfl);have hbw:YK w.heap.size w wr:=aL HB2.out hbel;have LC:=Lib.hid (Au wr x wd (by omega) Qo.1 Qo.2 hd0 hd1 (HT.out.below hbw));have hsn:=uo wd ps k x hx;have hle:=Ap wd ps (k+1);rw [hsn,XZ] at hle;have hl:=HL.out;obtain ⟨m,hm⟩:∃ m,m=(pX wd (ps.take k)).length:=⟨_,rfl⟩;have hm1:m+(rU x wd).length<=1000000:=by omega
   rw [<- hm] at hown;obtain ⟨av,cv,rfl⟩:=lu hown;have HOW:=Lib.hid hown;have HM:=Lib.hid hm;have uq:=Lib.hid hsn;have Lh:=Lib.hid hbel;clear hx hxs Qo hbw hsn hle hl hm hown hbel;go_wp2_with fail
   (with_reducible refine LC.out.mono ?_)
   rintro e w4 ⟨v4,rfl,h4,b4⟩;have h4:w4.ownsRow wr.heap.size 9 1 v4 (rU x wd).length ((rU x wd).map Value.string):=h4;obtain ⟨a4,c4,rfl,Qp⟩:=(jH.lI h4).reads;obtain ⟨m4,Li⟩:∃ m4,m4=(rU x wd).length:=⟨_,rfl⟩;rw [<- Li] at Qp hm1 ⊢;have HR4:=Lib.hid Qp;have Vd:=Lib.hid Li;have O5:=Lib.hid (Jo HOW.out b4);have mX:=Lib.hid (aL Lh.out b4);clear h4 Qp Li b4 LC c0;go_wp2_with (at_builtin;refine Lg _ rfl _ _ 35 rfl w2.heap.size 9 i0 _ 1 16 Tryz.underlying35 hi0 hz0 hz1 hz2 rfl (by decide) _ _ _ rfl O5.out w4.heap.size _ _ _ _ rfl HR4.out ?x1 ?x2 ?x3 ?x4 ?_)
   case x1=>
    intro u hu;obtain ⟨s,_,rfl⟩:=List.mem_map.1 hu;rfl
   case x2=>unfold maxLen;omega
   case x3=>omega
   case x4=>exact mX.out.size
   intro v5 w5 h5 hg5 FH;have b5:YK w2.heap.size w2 w5:=mX.out.grown hg5 mX.out.size (fun b e=>(O5.out.lt b e).1);have HF:Hid (CJ w2 wd ps v5 (.int .i64 ((k+1:Nat):Int)) w5):=⟨k+1,by have:=HN.out;omega,rfl,by rw [uq.out,XZ,List.map_append,<- HM.out,<- Vd.out];exact h5,b5⟩;clear h5 hg5 FH b5;go_wp2;go_roundw;case rel=>exact HF.out
   case measure=>simp [intOf];omega
  ·have hkn:k=ps.length:=by have:=HN.out;omega
   rw [hkn,List.take_length] at hown;have hkn':k=n:=by have:=HN.out;omega
   obtain ⟨m,hm⟩:∃ m,m=(pX wd ps).length:=⟨_,rfl⟩;rw [<- hm] at hown;obtain ⟨av,cv,rfl⟩:=lu hown;have HOW:=Lib.hid hown;have HM:=Lib.hid hm;have CO:=Lib.hid (aL HB2.out hbel);have Qq:=HB2.out.size;have Lh:=hbel.size;clear hkn hm hown hbel;by_cases hm0:m=0
   ·subst hm0;have hE:V=[⟨#[]⟩]:=by
     rw [Qn.out];unfold lK;rw [if_pos (List.length_eq_zero_iff.1 HM.out.symm)]
    have HE:=Lib.hid hE;clear hE;go_wp2
    go_ret2
    rw [HE.out];refine ⟨_,rfl,?_,CO.out.alloc CO.out.size _⟩;exact ⟨by simp,.inr ⟨wr.heap.size,1,#[.string ⟨#[]⟩],rfl,CO.out.size,heap_alloc_new wr _,by simp,by unfold maxLen;omega,by simp,by simp⟩⟩
   ·have q0:((m:Int)==0)=false:=by simpa using hm0
    have hE:V=pX wd ps:=by rw [Qn.out];unfold lK;rw [if_neg (fun e=>hm0 (by rw [HM.out,e];rfl))]
    have HE:=Lib.hid hE;have Xf:=Lib.hid hm0;clear hE hm0;go_wp2
    go_ret2
    rw [HE.out];exact ⟨_,rfl,by rw [<- HM.out];exact kE HOW.out Qq,CO.out⟩
open Go
section
variable {H:Type} {enc:TypeId × YL->H}
theorem rV {a:Assume} {C:Checked} {os:Os} {f:FuncId} {fn:Func} {s:ChangeSpec} {conds:List PathCond} {apart fresh handsOn again:Bool} {X:YJ->Array YL->Prop} (hX:∀ (w w':YJ) (args:Array YL),w.heap=w'.heap->X w args->X w' args) (own:ownKnob C.prog.godebug=none) (started:os.Started) (noInit:C.prog.inits.idxOf? f=none) (hfn:C.prog.funcs[f]?=some fn) (witness:∃ (w:YJ) (tape:Tape) (i:Input),w.os=os/\(w.forCall tape i).Shaped C.prog/\i.vars=[]/\Input.okWide C.prog (w.forCall tape i) .any w.heap.size f i /\ ((s.pre enc C.prog fn conds apart (w.forCall tape i).memory i.args/\X (w.forCall tape i).memory i.args)/\sizedMet enc C.prog fn (OpenSpec.ofChange s) apart (w.forCall tape i).memory i.args)/\a.holds C.prog (lone (Frame.enter C.prog f i.args .normal) [] (w.forCall tape i))) (contract:∀ (W:YJ) (base:Nat) (args:Array YL) (ds gs:List (DataW H)) (before:List MemPlace), (∀ (j:Nat) t v,fn.params[j]?=some t->args[j]?=some v->Value.okWide C.prog W .any base t v)->DataW.Whole enc C.prog fn.params.toList s.vars apart W args.toList ds gs before -> (DataW.weightsEach C.prog (fn.params.toList++s.plain.varTypes C.prog) (ds++gs)).all (·<=reachBytes)=true->X W args->W.ShapedOpen C.prog -> Calls C.prog f args W fun e W'=>∃ v,e=.returned v/\s.post enc C.prog fn apart fresh handsOn again W args v W') : ReturnsInHanded a C os f .any (fun w args=>(s.pre enc C.prog fn conds apart w args/\X w args)/\sizedMet enc C.prog fn (OpenSpec.ofChange s) apart w args) (s.post enc C.prog fn apart fresh handsOn again):=
 returnsInHanded_of_calls own started noInit witness fun w tape i _ hsh _ hok hpre _=>by
  obtain ⟨_,_,_,fn',hfn',_,_,_,_,hval⟩:=hok;obtain rfl:=X5 (hfn'.symm.trans hfn);obtain ⟨⟨⟨ds,gs,before,hw,_⟩,hx⟩,hz⟩:=hpre;refine (contract _ w.heap.size i.args ds gs before hval (DataW.Whole.of_heap (w':=w.forCall tape i) (by rfl) hw) (hz.weights hw) (hX _ _ _ (by rfl) hx) hsh).mono fun e W' h=>?_
  obtain ⟨v,rfl,hp⟩:=h;exact ChangeSpec.post_blind hp
end
theorem uw {W:YJ} (h:W.ShapedOpen Tryz.prog):kG W:=
 cell_of_shapedOpen_int (t:=3) (zero:=#[.int .i64 0]) h (of_decide_eq_true (by kernel_rfl)) (by kernel_rfl) rfl (by kernel_rfl) (by kernel_rfl) Tryz.underlying3
open Go.RowKit
def wR (o q:Nat):YL:=.func (.func 84) #[] #[.pointer (some ⟨o,0,none⟩),.pointer (some ⟨q,0,none⟩)]
structure CQ (o q B:Nat) (L:List ByteArray) (v:YL) (w:YJ):Prop where
 k2:aO o v 35 w
 k3:aO q (wR o q) 81 w
 own:w.ownsRow B 9 1 v L.length (L.map Value.string)
structure xI (o q B:Nat) (L:List ByteArray) (v:YL) (w w':YJ) (v':YL):Prop where
 i:CQ o q B L v' w'
 fr:aN (fun b=>b=o\/v.ownBlock=some b) w w'
 own:∀ g,v'.ownBlock=some g->v.ownBlock=some g\/w.heap.size<=g
section
variable {o q B:Nat} {L L1 L2:List ByteArray} {v v1 v2:YL} {w w1 w2 w3:YJ}
theorem CQ.no (h:CQ o q B L v w):v.ownBlock≠some o/\v.ownBlock≠some q/\q≠o:=
 ⟨bR (T':=35) (cs:=[v]) h.own h.k2 (by decide),bR (T':=81) (cs:=[wR o q]) h.own h.k3 (by decide),fun e=>by
  have h1:=h.k2;have h2:=h.k3;unfold aO at h1 h2;rw [e,h1] at h2;simp at h2⟩
theorem xI.refl (h:CQ o q B L v w):xI o q B L v w w v:=⟨h,aN.refl _ _,fun _ e=>.inl e⟩
theorem xI.trans (h1:xI o q B L1 v w w1 v1) (h2:xI o q B L2 v1 w1 w2 v2):xI o q B L2 v w w2 v2:=
 ⟨h2.i,h1.fr.trans h2.fr (fun b hb e=>e.imp id (fun e=>by rcases h1.own b e with h | h;exact h;omega)),fun g e=>by
  rcases h2.own g e with h | h
  ·exact h1.own g h
  ·exact .inr (XV h1.fr.size h)⟩
theorem CQ.alloc (h:CQ o q B L v w) (x:Obj):CQ o q B L v (w.alloc x):=⟨h.k2.alloc x,h.k3.alloc x,h.own.alloc x⟩
theorem xI.alloc (h:xI o q B L v w w1 v1) (x:Obj):xI o q B L v w (w1.alloc x) v1:=
 ⟨h.i.alloc x,h.fr.trans (aN.of_below ((XT _ w1).alloc (XU _) x) (fun _=>False)) (fun _ _ h=>h.elim),h.own⟩
theorem CQ.push {val:ByteArray} {x:Obj} (h:CQ o q B L v w) (hg:(w.alloc x).grownBy w3 v.ownBlock) (hown:w3.ownsRow B 9 1 v2 (L.length+1) (L.map Value.string++[.string val])) (hat:v2.ownBlock=v.ownBlock\/v2.ownBlock=some (w.alloc x).heap.size) : aO o v 35 w3/\xI o q B (L++[val]) v w (w3.setCell ⟨o,0,none⟩ v2) v2:=by
 obtain ⟨n1,n2,n3⟩:=h.no;have hz:(w.alloc x).heap.size=w.heap.size+1:=World.size_alloc _ _;have b2:aO o v 35 w3:=(hg.block o (by have:=h.k2.lt;omega) (fun e=>n1 e.symm)).trans (h.k2.alloc x);have b3:aO q (wR o q) 81 w3:=(hg.block q (by have:=h.k3.lt;omega) (fun e=>n2 e.symm)).trans (h.k3.alloc x);have hf:=(aN.of_below ((XT _ w).alloc (XU _) x) (fun b=>b=o\/v.ownBlock=some b)).trans (aN.grown hg) (fun b _ e=>.inr e);have hne:v2.ownBlock≠some o:=bR (T':=35) (cs:=[v]) hown b2 (by decide);refine ⟨b2,⟨b2.set v2,b3.far n3 v2,?_⟩,hf.trans (aN.set w3 o 0 v2) (fun b _ e=>.inl e),fun g e=>?_⟩
 ·rw [XZ,List.length_singleton,List.map_append];exact fK hown (aN.set w3 o 0 v2) (fun b e e'=>hne (e' ▸ e))
 ·rcases hat with h' | h'
  ·exact .inl (h' ▸ e)
  ·rw [h'] at e;exact .inr (by have:=X5 e;omega)
theorem xJ (l:List ah) (k:Nat) (kd:Int) (t d ti:ByteArray) (at_:At) (ar:List ByteArray) (ci:List Ci) (ks:List ah) (h:l[k]?=some (.mk kd t d ti at_ ar ci ks)) : iy (ah.aD (l.take (k+1)))=iy (ah.aD (l.take k))++(Av at_++iy (ah.aD ks)):=by
 rw [List.take_add_one,h,ah.ji];show iy (_++ah.aD [_])=_;rw [ah.aD,ah.deep,ah.aD,List.append_nil];unfold iy Av;rw [List.filterMap_append,List.filterMap_cons];simp only [ah.id1];by_cases h:at_.id.data.toList=[]
 ·simp only [if_pos h,List.nil_append]
 ·simp only [if_neg h];rfl
theorem CU (l:List ah) (k:Nat):(iy (ah.aD (l.take k))).length<=(iy (ah.aD l)).length:=by have h:l=l.take k++l.drop k:=(List.take_append_drop k l).symm;have:=congrArg (fun l=>(iy (ah.aD l)).length) h;simp only [ah.ji] at this;unfold iy at *;rw [List.filterMap_append,XZ] at this;omega
end
def zw (o q B:Nat) (L:List ByteArray) (l:List ah) (v:YL) (w:YJ) (vi:YL) (wr:YJ):Prop:=
 ∃ (k:Nat) (v':YL),k<=l.length/\vi=.int .i64 k/\xI o q B (L++iy (ah.aD (l.take k))) v w wr v'
def Jr (o q B:Nat) (L:List ByteArray) (v:YL) (w:YJ) (e:Ending) (w':YJ):Prop:=e=.returned (.tuple #[])/\∃ v',xI o q B L v w w' v'
theorem uy (o q B D:Nat) (hDB:D<=B) (Xg:D<=o) (n:Nat):∀ (l:List ah) (L:List ByteArray) (v vs:YL) (w:YJ),ah.aV l<=n->Rd (·<D) w (fC l) [vs]->CQ o q B L v w->B<=w.heap.size->L.length+(iy (ah.aD l)).length<=1000000 -> Calls Tryz.prog 84 #[vs,.pointer (some ⟨o,0,none⟩),.pointer (some ⟨q,0,none⟩)] w (Jr o q B (L++iy (ah.aD l)) v w):=by
 induction n using Nat.strongRecOn with
 | _ n ih=>
  intro l L v vs w hn hrd hI hB hlen;obtain ⟨i0,hi0,hz0,hz1,hz2⟩:=info_parts nL;obtain ⟨a,cap,hv,hs⟩:=Rd.aC hrd;obtain rfl:vs=.slice a l.length cap:=by simpa using hv
  have hcap:l.length<=cap:=by simpa using hs.le
  have hmx:=hs.max;have HS:=Lib.hid hs;have IH:=Lib.hid ih;have R0:Hid (zw o q B L l v w (.int .i64 0) w):=⟨0,v,Nat.zero_le _,rfl,by
   show xI o q B (L++iy (ah.aD [])) v w w v;rw [ah.aD,show iy ([]:List ah)=[] from rfl,List.append_nil];exact xI.refl hI⟩
  have zx:=Lib.hid (fun g (e:v.ownBlock=some g)=>(hI.own.lt g e).1);clear hs hv hrd ih hI;unfold maxLen at hmx;go_enter Tryz.func84,Tryz.ntmps84;go_wp2
  go_loopw [8] (fun vi wr=>zw o q B L l v w vi wr) (fun i _=>l.length-(intOf i).toNat)
  case atStart=>exact R0.out
  case round=>
   clear R0;obtain ⟨k,v1,hk,rfl,hK⟩:=hrel;have hst:∀ b,b<D->¬ (b=o\/v.ownBlock=some b):=fun b hb e=>by
    rcases e with e | e
    ·omega
    ·have:=zx.out b e;omega
   by_cases hlt:k<l.length
   ·obtain ⟨x,hx⟩:∃ x,l[k]?=some x:=⟨_,XR hlt⟩;obtain ⟨kd,t,d,ti,at_,ar,ci,ks⟩:=x;have hsr:lD (·<D) wr 10 (l.map ah.d) a cap:=HS.out.below (hK.fr.below D (by omega) (fun b e=>Nat.le_of_not_lt fun h=>hst b h e));obtain ⟨g,off,vc,vp,va,vi,vk,rfl,hok,hbl,hc,hR⟩:=gN hsr hx;obtain ⟨c0,c1,c2,c3,c4,c5,c6,c7,c8,c9⟩:=hc;obtain ⟨ac,nc,cc,rfl⟩:=Rd.au hR.at_.cls
    obtain ⟨ap,np,cp,rfl⟩:=Rd.au hR.at_.aS
    obtain ⟨aa,na,ca,rfl⟩:=Rd.au hR.args;obtain ⟨ai,ni,Lj,rfl⟩:=Rd.au hR.fZ;obtain ⟨ak,nk,ck,rfl⟩:=Rd.au hR.kids;have uz:=hR.kids;have hsz:=ah.cZ l k _ hx;rw [ah.sz] at hsz;have HT:=Lib.hid (xJ l k kd t d ti at_ ar ci ks hx);have hle:=CU l (k+1);rw [HT.out,XZ,XZ] at hle;obtain ⟨p,hp⟩:∃ p,p=wr.heap.size:=⟨_,rfl⟩;obtain ⟨w0,hw0⟩:∃ w0,w0=wr.alloc (.cells #[.int .i64 kd,.string t,.string d,.string ti,.string at_.id,.slice ac nc cc,.slice ap np cp,.slice aa na ca,.slice ai ni Lj,.slice ak nk ck] 52):=⟨_,rfl⟩;have k0:CB 52 p [.int .i64 kd,.string t,.string d,.string ti,.string at_.id,.slice ac nc cc,.slice ap np cp,.slice aa na ca,.slice ai ni Lj,.slice ak nk ck] w0:=by rw [hw0,hp];exact CB.new _ _ _
    have O6:xI o q B (L++iy (ah.aD (l.take k))) v w w0 v1:=by rw [hw0];exact hK.alloc _
    have b0:YK D wr w0:=by rw [hw0];exact (XT _ _).alloc (by have:=hK.fr.size;omega) _
    have Mk:=uz.below b0;have hB0:B<=w0.heap.size:=by have:=O6.fr.size;omega
    obtain ⟨acc,hacc⟩:∃ acc,acc=L++iy (ah.aD (l.take k)):=⟨_,rfl⟩;have hal:acc.length+(Av at_).length+(iy (ah.aD ks)).length<=1000000:=by rw [hacc,XZ];omega
    have Ml:Hid (L++iy (ah.aD (l.take (k+1)))=acc++Av at_++iy (ah.aD ks)):=by show _=_;rw [HT.out,hacc];simp [List.append_assoc]
    rw [<- hacc] at O6;have IK:=Lib.hid (fun (L':List ByteArray) v' w' hr hi hb hl=>IH.out (ah.aV ks) (by omega) ks L' v' (.slice ak nk ck) w' (XU _) hr hi hb hl);have d0:=k0.cell 4 _ rfl;have d9:=k0.cell 9 _ rfl;have Js:=Lib.hid O6;have Ve:=Lib.hid k0;have Sl:=Lib.hid Mk;have FI:=Lib.hid hal;have hpo:p≠o/\v1.ownBlock≠some p:=⟨by have:=hK.i.k2.lt;omega,fun e=>by have:=(hK.i.own.lt p e).2;omega⟩;have BU:=Lib.hid hpo;clear hx uz hR hK b0 hsz hok hbl hsr O6 k0 Mk hacc hal hle hpo HT IH hlen;go_upto_region 3 with (fail)
    rw [<- hw0,<- hp];clear hw0 hp c0 c1 c2 c3 c4 c5 c6 c7 c8 c9;by_cases hid:at_.id.data.toList=[]
    ·have Qr:at_.id.toList.isEmpty=true:=by rw [Lib.toList_data,List.isEmpty_iff];exact hid
     have HI:Hid (Av at_=[]):=by show _=_;unfold Av;rw [if_pos hid]
     have I1:=Lib.hid (IK.out acc v1 w0 Sl.out Js.out.i hB0 (by have:=FI.out;omega));have fc:=Js.out.i.k3.cell;unfold wR at fc;clear hid IK;go_wp2_with fail
     (with_reducible refine I1.out.mono ?_)
     rintro e w4 ⟨rfl,v4,h4⟩;have HF:Hid (zw o q B L l v w (.int .i64 ((k+1:Nat):Int)) w4):=⟨k+1,v4,by omega,rfl,by
      rw [Ml.out,HI.out,List.append_nil];exact Js.out.trans h4⟩
     clear h4 I1 fc d0 d9;go_wp2;go_roundw;case rel=>exact HF.out
     case measure=>simp [intOf];omega
    ·have Qr:at_.id.toList.isEmpty=false:=by
      cases h:at_.id.toList.isEmpty with
      | false=>rfl
      | true=>rw [Lib.toList_data,List.isEmpty_iff] at h;exact absurd h hid
     have HI:Hid (Av at_=[at_.id]):=by show _=_;unfold Av;rw [if_neg hid]
     obtain ⟨m,hm⟩:∃ m,m=acc.length:=⟨_,rfl⟩;have hm1:m<=1000000:=by have:=FI.out;omega
     have OW:w0.ownsRow B 9 1 v1 m (acc.map Value.string):=by rw [hm];exact Js.out.i.own
     obtain ⟨a1,c1,rfl⟩:=lu OW;have gv:=Js.out.i.k2.cell;have HOW:=Lib.hid OW;have HM:=Lib.hid hm;clear OW hm hid;go_wp2_with (at_builtin;refine wpList_append_own_at _ rfl _ _ 35 rfl B 9 i0 _ 1 16 Tryz.underlying35 hi0 hz0 hz1 hz2 rfl (by decide) _ _ _ rfl (HOW.out.alloc _) ⟨w0.heap.size,0,none⟩ 1 1 [.string at_.id] rfl rfl (kD w0 (.string at_.id) 9) (by intro u hu;simp at hu;subst hu;rfl) (by unfold maxLen;omega) (by omega) (by simp;omega) ?_)
     intro v2 w3 hown3 hg3 _ FJ;obtain ⟨a3,c3,rfl⟩:=lu hown3;have PU:=Js.out.i.push (val:=at_.id) hg3 (by rw [<- HM.out];exact hown3) (by rw [World.size_alloc];exact FJ);have bx:=PU.1;have bc:=bx.cell;have bf:=bx.free;have K4:=Js.out.trans PU.2;have Sm:=Lib.hid K4;have kc:CB 52 p [.int .i64 kd,.string t,.string d,.string ti,.string at_.id,.slice ac nc cc,.slice ap np cp,.slice aa na ca,.slice ai ni Lj,.slice ak nk ck] (w3.setCell ⟨o,0,none⟩ (.slice a3 (m+1) c3)):=Ve.out.fr PU.2.fr (fun e=>by
      rcases e with e | e
      ·exact BU.out.1 e
      ·exact BU.out.2 e)
     have Sn:=Sl.out.fr PU.2.fr (fun b hb e=>by
      rcases e with e | e
      ·have hb':b<D:=hb;omega
      ·have:=(HOW.out.lt b e).1;have hb':b<D:=hb;omega)
     have I1:=Lib.hid (IK.out (acc++[at_.id]) _ _ Sn K4.i (by have:=K4.fr.size;omega) (by have h:=FI.out;rw [HI.out] at h;simp at h;simp;omega));have f9:=kc.cell 9 _ rfl;have fc:=K4.i.k3.cell;unfold wR at fc;clear hown3 hg3 FJ PU bx kc Sn K4 d0 d9 gv IK HOW;go_upto_region 5 with (fail)
     obtain ⟨w5,uD⟩:∃ w5,w5=w3.setCell ⟨o,0,none⟩ (.slice a3 (m+1) c3):=⟨_,rfl⟩;rw [<- uD];rw [<- uD] at I1 f9 fc Sm;clear uD bc bf;go_wp2_with fail
     (with_reducible refine I1.out.mono ?_)
     rintro e w4 ⟨rfl,v4,h4⟩;have HF:Hid (zw o q B L l v w (.int .i64 ((k+1:Nat):Int)) w4):=⟨k+1,v4,by omega,rfl,by
      rw [Ml.out,HI.out];exact Sm.out.trans h4⟩
     clear h4 I1 fc f9;go_wp2;go_roundw;case rel=>exact HF.out
     case measure=>simp [intOf];omega
   ·have hkl:k=l.length:=by omega
    rw [hkl,List.take_length] at hK;have HK:=Lib.hid hK;clear hkl hK;go_wp2
    go_end0
    exact ⟨rfl,v1,HK.out⟩
def xK (w:YJ) (L:List ByteArray) (e:Ending) (w':YJ):Prop:=∃ v,e=.returned v/\w'.ownsRow w.heap.size 9 1 v L.length (L.map Value.string)/\YK w.heap.size w w'
theorem xL (kd lv:Int) (i t d ti:ByteArray) (at_:At) (li:List ah) (ks:List aj) (vc vp vl vk:YL) (w:YJ) (hR:wS (·<w.heap.size) w at_ li ks vc vp vl vk) (hlen:(iy (ah.aD li)).length<=100000) : Calls Tryz.prog 65 #[.agg #[.int .i64 kd,.int .i64 lv,.string i,.string t,.string d,.string ti,.string at_.id,vc,vp,vl,vk]] w (xK w (cK at_ li)):=by
 obtain ⟨i0,hi0,hz0,hz1,hz2⟩:=info_parts nL;obtain ⟨ac,nc,cc,rfl⟩:=Rd.au hR.at_.cls
 obtain ⟨ap,np,cp,rfl⟩:=Rd.au hR.at_.aS
 obtain ⟨al,nl,cl,rfl⟩:=Rd.au hR.line;obtain ⟨ak,nk,ck,rfl⟩:=Rd.au hR.kids;obtain ⟨S,hS⟩:∃ S,S=w.heap.size:=⟨_,rfl⟩;have qJ:=hR.line;rw [<- hS] at qJ;obtain ⟨w0,hw0⟩:∃ w0,w0=w.alloc (.cells #[.int .i64 kd,.int .i64 lv,.string i,.string t,.string d,.string ti,.string at_.id,.slice ac nc cc,.slice ap np cp,.slice al nl cl,.slice ak nk ck] 47):=⟨_,rfl⟩;obtain ⟨w1,hw1⟩:∃ w1,w1=w0.alloc (.cells #[.slice none 0 0] 35):=⟨_,rfl⟩;have hz0':w0.heap.size=S+1:=by rw [hw0,hS];simp
 have k0:CB 47 S [.int .i64 kd,.int .i64 lv,.string i,.string t,.string d,.string ti,.string at_.id,.slice ac nc cc,.slice ap np cp,.slice al nl cl,.slice ak nk ck] w1:=by rw [hw1];refine CB.below ?_ ((XT _ _).alloc (XU _) _);rw [hw0,hS];exact CB.new _ _ _
 have b1:YK S w w1:=by rw [hw1,hw0,hS];exact ((XT _ _).alloc (XU _) _).alloc (by simp) _
 have x1:aO (S+1) (.slice none 0 0) 35 w1:=by rw [hw1,<- hz0'];exact aO.new _ _ _
 have d6:=k0.cell 6 _ rfl;have d9:=k0.cell 9 _ rfl;have HS:=Lib.hid hS;have B1:=Lib.hid b1;have K0:=Lib.hid k0;have X1:=Lib.hid x1;have HL:=Lib.hid qJ;have HN:=Lib.hid hlen;have c1:=x1.cell;have f1:=x1.free
 -- what the calls of the closure say,whatever the row so far
 have Aw:Hid (∀ (L:List ByteArray) (v:YL) (W:YJ),L.length<=1->cK at_ li=L++iy (ah.aD li)->YK S w W->CB 47 S [.int .i64 kd,.int .i64 lv,.string i,.string t,.string d,.string ti,.string at_.id,.slice ac nc cc,.slice ap np cp,.slice al nl cl,.slice ak nk ck] W->aO (S+1) v 35 W->W.ownsRow S 9 1 v L.length (L.map Value.string)->S+1<W.heap.size ->
   Calls Tryz.prog 84 #[.slice al nl cl,.pointer (some ⟨S+1,0,none⟩),.pointer (some ⟨W.heap.size,0,none⟩)] (W.alloc (.cells #[wR (S+1) W.heap.size] 81)) fun e w'=>e=.returned (.tuple #[])/\∃ v',aO (S+1) v' 35 w'/\w'.ownsRow S 9 1 v' (cK at_ li).length ((cK at_ li).map Value.string)/\YK S w w'):=by
  intro L v W hL1 hE hb hk hx ho hlt;have hI:CQ (S+1) W.heap.size S L v (W.alloc (.cells #[wR (S+1) W.heap.size] 81)):=⟨hx.alloc _,aO.new _ _ _,ho.alloc _⟩;have b2:YK S w (W.alloc (.cells #[wR (S+1) W.heap.size] 81)):=hb.alloc (by omega) _;refine (uy (S+1) W.heap.size S S (XU _) (by omega) _ li L v (.slice al nl cl) _ (XU _) (HL.out.below b2) hI (by simp;omega) (by have:=HN.out;omega)).mono ?_;rintro e w' ⟨rfl,v',hK⟩;refine ⟨rfl,v',hK.i.k2,by rw [hE];exact hK.i.own,b2.trans (hK.fr.below S (by simp;omega) (fun b e=>?_))⟩;rcases e with e | e
  ·omega
  ·exact (hI.own.lt b e).1
 clear qJ b1 k0 x1 hR hlen;go_enter Tryz.func65,Tryz.ntmps65;go_upto_region 2 with (fail)
 rw [<- hw0,<- hS];try rw [hz0']
 rw [<- hw1];clear hw0 hw1 hS hz0';by_cases hid:at_.id.data.toList=[]
 ·have Qr:at_.id.toList.isEmpty=true:=by rw [Lib.toList_data,List.isEmpty_iff];exact hid
  have hE:cK at_ li=[]++iy (ah.aD li):=by unfold cK Av;rw [if_pos hid]
  have FC:=Lib.hid (Aw.out [] (.slice none 0 0) w1 (by simp) hE B1.out K0.out X1.out (nQ _ _ _ _) X1.out.lt);clear hid hE;go_upto_region 6 with (fail)
  obtain ⟨Q,hQ⟩:∃ Q,Q=w1.heap.size:=⟨_,rfl⟩;obtain ⟨wF,hwF⟩:∃ wF,wF=w1.alloc (.cells #[wR (S+1) Q] 81):=⟨_,rfl⟩;rw [<- hQ,<- hwF] at FC;have fc:wF.cell? ⟨Q,0,none⟩=some (wR (S+1) Q):=by rw [hwF,hQ];exact (aO.new w1 (wR (S+1) w1.heap.size) _).cell
  have e9:wF.cell? ⟨S,9,none⟩=some (.slice al nl cl):=by rw [hwF];exact (CB.below K0.out ((XT _ _).alloc (XU _) _)).cell 9 _ rfl
  unfold wR at hwF fc;rw [<- hQ];rw [<- hwF];clear hQ hwF d6 d9 c1 f1;go_wp2_with fail
  (with_reducible refine FC.out.mono ?_)
  rintro e w4 ⟨rfl,v4,x4,o4,b4⟩;obtain ⟨a4,c4,rfl⟩:=lu o4;have y4:=x4.cell;have HP:Hid (xK w (cK at_ li) (.returned (.slice a4 (cK at_ li).length c4)) w4):=⟨_,rfl,by rw [<- HS.out];exact o4,by rw [<- HS.out];exact b4⟩;generalize cK at_ li=OA at *
  clear x4 o4 b4 FC e9 fc;go_wp2;go_ret;exact HP.out
 ·have Qr:at_.id.toList.isEmpty=false:=by
   cases h:at_.id.toList.isEmpty with
   | false=>rfl
   | true=>rw [Lib.toList_data,List.isEmpty_iff] at h;exact absurd h hid
  have hE:cK at_ li=[at_.id]++iy (ah.aD li):=by unfold cK Av;rw [if_neg hid]
  have HE:=Lib.hid hE;clear hid hE;go_wp2_with (at_builtin;refine wpList_append_own_at _ rfl _ _ 35 rfl S 9 i0 _ 1 16 Tryz.underlying35 hi0 hz0 hz1 hz2 rfl (by decide) _ _ _ rfl ((nQ w1 S 9 1).alloc _) ⟨w1.heap.size,0,none⟩ 1 1 [.string at_.id] rfl rfl (kD w1 (.string at_.id) 9) (by intro u hu;simp at hu;subst hu;rfl) (by unfold maxLen;omega) (by omega) (by have:=X1.out.lt;simp;omega) ?_)
  intro v2 w3 hown3 hg3 _ FJ;obtain ⟨a3,c3,rfl⟩:=lu hown3;have hb3:YK w1.heap.size w1 w3:=((XT _ w1).alloc (XU _) _).grown hg3 (by simp) (by simp [Value.ownBlock]);have k3:=K0.out.below hb3;have x3:=X1.out.below X1.out.lt hb3;have Mq:(Value.slice a3 (0+1) c3).ownBlock≠some (S+1):=bR (T':=35) (cs:=[.slice none 0 0]) hown3 x3 (by decide);have FC:=Lib.hid (Aw.out [at_.id] (.slice a3 (0+1) c3) (w3.setCell ⟨S+1,0,none⟩ (.slice a3 (0+1) c3)) (by simp) HE.out ((B1.out.trans (hb3.mono (by have:=X1.out.lt;omega))).setCell (by show S<=S+1;omega) _)
   (k3.fr (aN.set w3 (S+1) 0 _) (by omega)) (x3.set _) (fK hown3 (aN.set w3 (S+1) 0 _) (fun b e e'=>Mq (e' ▸ e))) (by have:=x3.lt;simp [Yl];omega))
  have xc:=x3.cell;have xf:=x3.free;have K3:=Lib.hid (k3.fr (aN.set w3 (S+1) 0 (.slice a3 (0+1) c3)) (by omega));clear hown3 hg3 FJ hb3 k3 x3 Mq;go_upto_region 4 with (fail)
  obtain ⟨wG,Qs⟩:∃ wG,wG=w3.setCell ⟨S+1,0,none⟩ (.slice a3 (0+1) c3):=⟨_,rfl⟩;rw [<- Qs] at FC K3;try rw [<- Qs]
  clear Qs xc xf;go_upto_region 6 with (fail)
  obtain ⟨Q,hQ⟩:∃ Q,Q=wG.heap.size:=⟨_,rfl⟩;obtain ⟨wF,hwF⟩:∃ wF,wF=wG.alloc (.cells #[wR (S+1) Q] 81):=⟨_,rfl⟩;rw [<- hQ,<- hwF] at FC;have fc:wF.cell? ⟨Q,0,none⟩=some (wR (S+1) Q):=by rw [hwF,hQ];exact (aO.new wG (wR (S+1) wG.heap.size) _).cell
  have e9:wF.cell? ⟨S,9,none⟩=some (.slice al nl cl):=by rw [hwF];exact (CB.below K3.out ((XT _ _).alloc (XU _) _)).cell 9 _ rfl
  unfold wR at hwF fc;rw [<- hQ];rw [<- hwF];clear hQ hwF d6 d9 c1 f1;go_wp2_with fail
  (with_reducible refine FC.out.mono ?_)
  rintro e w4 ⟨rfl,v4,x4,o4,b4⟩;obtain ⟨a4,c4,rfl⟩:=lu o4;have y4:=x4.cell;have HP:Hid (xK w (cK at_ li) (.returned (.slice a4 (cK at_ li).length c4)) w4):=⟨_,rfl,by rw [<- HS.out];exact o4,by rw [<- HS.out];exact b4⟩;generalize cK at_ li=OA at *
  clear x4 o4 b4 FC e9 fc;go_wp2;go_ret;exact HP.out
end Go.Proofs.YtnmldmofggkoeaaGreatDoor

