/- A row that a call builds: what its elements read lies below U; laws for append of one element and of a slice. -/
import Derived.Test.YtclikfjalmcoaaaGreatDoorJCtC
namespace Go.Proofs.YtclikfjalmcoaaaGreatDoor
open Nat renaming le_trans->jc9
open Go.RowKit
set_option linter.unusedVariables false
set_option linter.unusedSimpArgs false
structure aI (T:TypeId) (k:Nat) (ok:Nat->Prop) (U:Nat) (w0:World) (ds:List D) (rows:List (List Value)) (v:Value) (w:World):Prop where
 own:w.ownsRow w0.heap.size T k v ds.length rows.flatten
 red:aO (fun b=>(ok b\/w0.heap.size<=b)/\v.ownBlock≠some b/\b<U) w ds rows
 len:∀ r∈rows,r.length=k
 aJ:Below w0.heap.size w0 w
 oU:∀ g,v.ownBlock=some g->g<U
 Eu:w0.heap.size<=U
 Ie:U<=w.heap.size
section
variable {T:TypeId} {k U:Nat} {ok:Nat->Prop} {w0 w w':World} {ds es:List D} {rows bg:List (List Value)} {v v':Value}
theorem aI.nil (T:TypeId) (k:Nat) (ok:Nat->Prop) (w0:World):aI T k ok w0.heap.size w0 [] [] (.slice none 0 0) w0:=
 ⟨⟨by simp,.inl ⟨rfl,rfl⟩⟩,aO.none,by simp,Below.refl _ _,by simp [Value.ownBlock],Nat.le_refl _,Nat.le_refl _⟩
theorem aI.up (h:aI T k ok U w0 ds rows v w) {U':Nat} (h1:U<=U') (h2:U'<=w.heap.size):aI T k ok U' w0 ds rows v w:=
 ⟨h.own,aO.keep (fun b hb _=>⟨⟨hb.1,hb.2.1,by omega⟩,rfl⟩) _ _ h.red,h.len,h.aJ,fun g hg=>Nat.lt_of_lt_of_le (h.oU g hg) h1,jc9 h.Eu h1,h2⟩
theorem aI.top (h:aI T k ok U w0 ds rows v w):aI T k ok w.heap.size w0 ds rows v w:=h.up h.Ie (Nat.le_refl _)
theorem aI.grown (h:aI T k ok U w0 ds rows v w) (hg:w.grownBy w' none):aI T k ok U w0 ds rows v w':=
 ⟨h.own.kept hg (by cases v.ownBlock<;>simp),aO.keep (fun b hb hlt=>⟨hb,hg.block b hlt (by simp)⟩) _ _ h.red,h.len,h.aJ.grown hg h.aJ.size (by simp),h.oU,h.Eu,jc9 h.Ie hg.size⟩
theorem aI.below (h:aI T k ok U w0 ds rows v w) (hb:Below w.heap.size w w'):aI T k ok U w0 ds rows v w':=h.grown (Jj hb)
theorem aI.drew (h:aI T k ok U w0 ds rows v w):aI T k ok U w0 ds rows v w.drew:=h.grown ⟨rfl,rfl,rfl,Nat.le_refl _,fun _ _ _=>rfl⟩
theorem aI.same (h:aI T k ok U w0 ds rows v w) (hs:w.heap.size<=w'.heap.size) (hos:w'.os=w.os/\w'.tape=w.tape/\w'.output=w.output) (hb:∀ b,b<U->w'.heap[b]?=w.heap[b]?):aI T k ok U w0 ds rows v w':=by
 have hl:=h.Ie;have hl0:=h.Eu;refine ⟨?_,aO.keep (fun b hb' hlt=>⟨hb',hb b hb'.2.2⟩) _ _ h.red,h.len,⟨hos.1.trans h.aJ.os,hos.2.1.trans h.aJ.tape,hos.2.2.trans h.aJ.output,jc9 h.aJ.size hs,fun b hlt=>(hb b (by omega)).trans (h.aJ.block b hlt)⟩,h.oU,h.Eu,jc9 hl hs⟩;obtain ⟨h1,h2⟩:=h.own;refine ⟨h1,?_⟩;rcases h2 with h2 | ⟨g,cap,cur,rfl,r2,r3,r4⟩
 ·exact .inl h2
 ·exact .inr ⟨g,cap,cur,rfl,r2,(hb g (h.oU g rfl)).trans r3,r4⟩
theorem aI.slice (h:aI T k ok U w0 ds rows v w):∃ a c,v=.slice a ds.length c:=qP h.own
theorem aI.cap (h:aI T k ok U w0 ds rows v w) {n:Nat} (hn:ds.length=n):∃ a c,v=.slice a n c/\n<=c/\c<=maxLen:=by
 subst hn;rcases h.own.2 with ⟨h1,h2⟩ | ⟨g,cap,cur,h1,_,_,h2,h3,_⟩
 ·exact ⟨none,0,by rw [h1,h2],by omega,Nat.zero_le _⟩
 ·exact ⟨_,cap,h1,h2,h3⟩
theorem aI.put {w1:World} (h:aI T k ok U w0 ds rows v w) (hB:∀ b,ok b->b<w0.heap.size) (hes:aO (fun b=>ok b\/U<=b) w1 es bg) (hl2:∀ r∈bg,r.length=k) (hw1:w.grownBy w1 none) (hown:w'.ownsRow w0.heap.size T k v' (ds.length+es.length) (rows.flatten++bg.flatten)) (hg:w1.grownBy w' v.ownBlock) (hat:v'.ownBlock=v.ownBlock\/v'.ownBlock=some w1.heap.size) : aI T k ok w'.heap.size w0 (ds++es) (rows++bg) v' w':=by
 have hs:=hg.size;have hs1:=hw1.size;have h0:=h.Eu;have h1:=h.Ie;have hV:∀ g,v.ownBlock=some g->w0.heap.size<=g/\g<U:=fun g e=>⟨(h.own.lt g e).1,h.oU g e⟩
 have hv':∀ b,b<w1.heap.size->v.ownBlock≠some b->v'.ownBlock≠some b:=by
  intro b hb hne;rcases hat with e | e
  ·rw [e];exact hne
  ·rw [e];intro h;have:=Option.some.inj h;omega
 have hh:∀ b,b<w.heap.size->v.ownBlock≠some b->w'.heap[b]?=w.heap[b]?:=fun b hb hne=>
  (hg.block b (by omega) (fun e=>hne e.symm)).trans (hw1.block b hb (by simp))
 refine ⟨by rw [List.length_append,List.flatten_append];exact hown,?_,?_,?_,fun g e=>(hown.lt g e).2,by omega,Nat.le_refl _⟩
 ·refine aO.app (aO.keep (fun b hb hlt=>⟨⟨hb.1,hv' b (by omega) hb.2.1,by omega⟩,hh b hlt hb.2.1⟩) _ _ h.red) (aO.keep (fun b hb hlt=>?_) _ _ hes);have hne:v.ownBlock≠some b:=fun e=>by
   have:=hV b e;rcases hb with hb | hb
   ·have:=hB b hb;omega
   ·omega
  exact ⟨⟨hb.imp id (fun h=>by omega),hv' b hlt hne,by omega⟩,hg.block b hlt (fun e=>hne e.symm)⟩
 ·intro r hr;rcases List.mem_append.1 hr with hr | hr
  ·exact h.len r hr
  ·exact hl2 r hr
 ·refine (h.aJ.grown hw1 h.aJ.size (by simp)).grown hg (by have:=h.aJ.size;omega) (fun g e=>(hV g e).1)
theorem aI.rd (h:aI T k ok U w0 ds rows v w):Rd (fun b=>ok b\/w0.heap.size<=b) w (.sl k ds) [v]:=
 Rd.fZ h.own (aO.keep (fun b hb _=>⟨hb.1,rfl⟩) _ _ h.red) h.len (fun g hg=>.inr (h.own.lt g hg).1)
theorem aI.eD (h:aI T k (fun _=>False) U w0 ds rows v w):Rd (w0.heap.size<=·) w (.sl k ds) [v]:=h.rd.weaken (fun b hb=>hb.elim False.elim id)
theorem Rd.Kg {ok:Nat->Prop} {l:List D} (h:Rd ok w (.sl k l) [v]):∃ A cap rows,v=.slice A l.length cap/\l.length<=cap/\cap<=maxLen/\aO ok w l rows/\(∀ r∈rows,r.length=k)/\Reads w w.heap.size k A l.length rows.flatten:=by
 unfold Rd at h;obtain ⟨a,cap,rows,h1,h2,h3,h4,h5,h6⟩:=h;refine ⟨a,cap,rows,by simpa using h1,h2,h3,h4,h5,?_,fun hp=>?_⟩
 ·rw [jL k rows h5,h4.len]
 ·rcases h6 with h6 | ⟨b,off,h7,h8,hb,h9⟩
  ·omega
  ·refine ⟨⟨b,off,none⟩,h7,hb,fun j u hu=>?_⟩;have e:((⟨b,off,none⟩:Addr).add j)=⟨b,off+j,none⟩:=by unfold Addr.add;split<;>simp_all
   rw [e];exact h9 j u hu
theorem Rd.aZ {ok:Nat->Prop} {d:D} {cs:List Value} (h:Rd ok w d cs) (hb:Below w.heap.size w w'):Rd ok w' d cs:=Rd.keep (fun b h1 h2=>⟨h1,hb.block b h2⟩) _ _ h
theorem Rd.inside {ok:Nat->Prop} {d:D} {cs:List Value} (h:Rd ok w d cs):Rd (fun b=>ok b/\b<w.heap.size) w d cs:=Rd.keep (fun b h1 h2=>⟨⟨h1,h2⟩,rfl⟩) _ _ h
theorem iV {n:Nat} {ops:Array Oper} {rest:List Oper} {o:Oper} {a:Act} {Q:Exit->Act->World->Prop} (hgd:o.guard=none) (s x:Operand) (t:TypeId) (ho:o.op=.call { callee:=.builtin .append,args:=#[s,x],argTypes:=#[t,t] }) (i:TypeInfo) (z:Value) (bytes:Nat) (ht:Tryz.prog.underlying t=some (.slice T)) (hi:Tryz.prog.info? T=some i) (hz:i.zero=some z) (hsize:i.size=k) (hby:i.bytes=bytes) (hzs:z.cells.size=k) (hsz:0<k) (h:aI T k ok U w0 ds rows v w) (hB:∀ b,ok b->b<w0.heap.size) (d:D) (r:List Value) (hx:Rd (fun b=>ok b\/U<=b) w d r) (hr:r.length=k) (h1:∀ u∈r,u.oneCell'=true) (hdn:ds.length=n) (hn:n<=10000000) (lX:bytes<=1000) (hs:a.eval s=v) (hxe:a.eval x=.slice (some ⟨w.heap.size,0,none⟩) 1 1) (hK:∀ a' c' w',aI T k ok w'.heap.size w0 (ds++[d]) (rows++[r]) (.slice a' (n+1) c') w'->(w.alloc (.cells r.toArray T)).grownBy w' v.ownBlock->wpList Tryz.prog ops Q rest (a.put o.dst (.slice a' (n+1) c')) w') : wpList Tryz.prog ops Q (o::rest) a (w.alloc (.cells r.toArray T)):=by subst hdn;have hmul:(ds.length+1)*bytes<=140737488355328:=jc9 (Nat.mul_le_mul (show ds.length+1<=10000001 by omega) lX) (by omega);refine wpList_append_own_at _ hgd s x t ho w0.heap.size T i z k bytes ht hi hz hsize hby hzs hsz v ds.length rows.flatten hs (h.own.alloc _) ⟨w.heap.size,0,none⟩ 1 1 r hxe (by omega) (Mi w r T) h1 (by unfold maxLen;omega) hmul (by have:=h.aJ.size;simp;omega) ?_;intro v' w' hown hg _ hat;obtain ⟨a',c',rfl⟩:=qP hown;refine hK a' c' w' ?_ hg;refine h.put hB (bg:=[r]) (es:=[d]) (aO.one (Rd.keep (fun b hb hlt=>⟨hb,Below.heap_alloc w _ b hlt⟩) _ _ hx)) (by simp [hr]) (World.grownBy_alloc w _ none) (by simpa using hown) hg hat
theorem CG {n m:Nat} {ops:Array Oper} {rest:List Oper} {o:Oper} {a:Act} {Q:Exit->Act->World->Prop} (hgd:o.guard=none) (s x:Operand) (t:TypeId) (ho:o.op=.call { callee:=.builtin .append,args:=#[s,x],argTypes:=#[t,t] }) (i:TypeInfo) (z:Value) (bytes:Nat) (ht:Tryz.prog.underlying t=some (.slice T)) (hi:Tryz.prog.info? T=some i) (hz:i.zero=some z) (hsize:i.size=k) (hby:i.bytes=bytes) (hzs:z.cells.size=k) (hsz:0<k) (h:aI T k ok U w0 ds rows v w) (hB:∀ b,ok b->b<w0.heap.size) (vx:Value) (hx:Rd (fun b=>ok b\/U<=b) w (.sl k es) [vx]) (h1:∀ (rs:List (List Value)) (ok':Nat->Prop),aO ok' w es rs->∀ u∈rs.flatten,u.oneCell'=true) (hdn:ds.length=n) (hem:es.length=m) (hn:n+m<=10000000) (lX:bytes<=1000) (hs:a.eval s=v) (hxe:a.eval x=vx) (hK:∀ a' c' rows' w',aI T k ok w'.heap.size w0 (ds++es) rows' (.slice a' (n+m) c') w'->w.grownBy w' v.ownBlock->wpList Tryz.prog ops Q rest (a.put o.dst (.slice a' (n+m) c')) w') : wpList Tryz.prog ops Q (o::rest) a w:=by subst hdn hem;obtain ⟨A,c,rs,rfl,h2,h3,h4,h5,h6⟩:=Rd.Kg hx;have hmul:(ds.length+es.length)*bytes<=140737488355328:=jc9 (Nat.mul_le_mul hn lX) (by omega);refine MJ _ hgd s x t ho w0.heap.size T i z k bytes ht hi hz hsize hby hzs hsz v ds.length rows.flatten hs h.own w.heap.size A es.length c rs.flatten hxe h6 (h1 rs _ h4) (by unfold maxLen;omega) hmul (by have:=h.aJ.size;omega) ?_;intro v' w' hown hg hat;obtain ⟨a',c',rfl⟩:=qP hown;exact hK a' c' _ w' (h.put hB h4 h5 (World.grownBy.refl w none) hown hg hat) hg
theorem jV {n:Nat} {ops:Array Oper} {o:Oper} {a:Act} {K:Act->World->Prop} {Q:Exit->Act->World->Prop} {E:Prop} (hgd:o.guard=none) (s x:Operand) (t:TypeId) (ho:o.op=.call { callee:=.builtin .append,args:=#[s,x],argTypes:=#[t,t] }) (i:TypeInfo) (z:Value) (bytes:Nat) (ht:Tryz.prog.underlying t=some (.slice T)) (hi:Tryz.prog.info? T=some i) (hz:i.zero=some z) (hsize:i.size=k) (hby:i.bytes=bytes) (hzs:z.cells.size=k) (hsz:0<k) (h:aI T k ok U w0 ds rows v w) (hB:∀ b,ok b->b<w0.heap.size) (d:D) (r:List Value) (hx:Rd (fun b=>ok b\/U<=b) w d r) (hr:r.length=k) (h1:∀ u∈r,u.oneCell'=true) (hdn:ds.length=n) (hn:n<=10000000) (lX:bytes<=1000) (hs:a.eval s=v) (hxe:a.eval x=.slice (some ⟨w.heap.size,0,none⟩) 1 1) (hK:∀ a' c' w',aI T k ok w'.heap.size w0 (ds++[d]) (rows++[r]) (.slice a' (n+1) c') w'->(w.alloc (.cells r.toArray T)).grownBy w' v.ownBlock->K (a.put o.dst (.slice a' (n+1) c')) w') : if Region.wanted o (yielded ops a.tmps)=true then Oper.wp Tryz.prog o a (w.alloc (.cells r.toArray T)) K Q else E:=by subst hdn;have hmul:(ds.length+1)*bytes<=140737488355328:=jc9 (Nat.mul_le_mul (show ds.length+1<=10000001 by omega) lX) (by omega);refine step_append_lies _ hgd s x t ho w0.heap.size T i z k bytes ht hi hz hsize hby hzs hsz v ds.length rows.flatten hs (h.own.alloc _) ⟨w.heap.size,0,none⟩ 1 1 r hxe (by omega) (Mi w r T) h1 (by omega) (by unfold maxLen;omega) hmul (by have:=h.aJ.size;simp;omega) (w.heap.size+1) (by simp) ?_;intro g cap w' hown hg hat _;refine hK _ _ w' ?_ hg;refine h.put hB (bg:=[r]) (es:=[d]) (aO.one (Rd.keep (fun b hb hlt=>⟨hb,Below.heap_alloc w _ b hlt⟩) _ _ hx)) (by simp [hr]) (World.grownBy_alloc w _ none) (by simpa using hown) hg (hat.elim (fun e=>.inl (by rw [e];rfl)) (fun e=>.inr (by rw [e];simp [Value.ownBlock])))
def EK (n:Nat) (w:World):World:={ w with heap:=w.heap.extract 0 n }
theorem iL {n:Nat} {w:World} (h:n<=w.heap.size):(EK n w).heap.size=n:=by show (w.heap.extract 0 n).size=n;rw [Array.size_extract];omega
theorem LQ {n:Nat} {w:World} (h:n<=w.heap.size) {b:Nat} (hb:b<n):(EK n w).heap[b]?=w.heap[b]?:=by show (w.heap.extract 0 n)[b]?=w.heap[b]?;rw [Array.getElem?_extract];simp;omega
theorem oq {n:Nat} {w:World} (h:n<=w.heap.size):Below n (EK n w) w:=
 ⟨rfl,rfl,rfl,by rw [iL h];exact h,fun b hb=>(LQ h hb).symm⟩
theorem aI.base (h:aI T k (fun _=>False) U w0 ds rows v w):aI T k (fun _=>False) U (EK w0.heap.size w) ds rows v w:=by have hz:=iL (w:=w) h.aJ.size;have hb:=oq (w:=w) h.aJ.size;exact ⟨by rw [hz];exact h.own,by rw [hz];exact h.red,h.len,by rw [hz];exact hb,h.oU,by rw [hz];exact h.Eu,h.Ie⟩
theorem aI.hop {p n0:Nat} (h:aI T k (fun _=>False) U (EK n0 w) ds rows v w) (hn:n0<=w.heap.size) (hp:p<n0) (hg:w.grownBy w' (some p)):aI T k (fun _=>False) U (EK n0 w') ds rows v w':=by
 have hz:=iL (w:=w) hn;have hn':n0<=w'.heap.size:=jc9 hn hg.size;have hz':=iL (w:=w') hn';have h0:=h.own;have h1:=h.red;have h2:=h.Eu;rw [hz] at h0 h1 h2;refine ⟨?_,?_,h.len,?_,h.oU,by rw [hz'];exact h2,jc9 h.Ie hg.size⟩
 ·rw [hz'];exact h0.kept hg (.inr (fun e=>by have:=(h0.lt p e).1;omega))
 ·rw [hz'];exact aO.keep (fun b hb hlt=>⟨hb,hg.block b hlt (fun e=>by have e1:=Option.some.inj e;rcases hb.1 with h3 | h3;exact h3.elim;omega)⟩) _ _ h1
 ·rw [hz'];exact oq hn'
theorem aI.hop2 {p:Nat} (h:aI T k (fun _=>False) U w0 ds rows v w) (hp:p<w0.heap.size) (hg:w.grownBy w' (some p)):∃ w0',w0'.heap.size=w0.heap.size/\aI T k (fun _=>False) U w0' ds rows v w':=
 ⟨_,iL (jc9 h.aJ.size hg.size),h.base.hop h.aJ.size hp hg⟩
end
end Go.Proofs.YtclikfjalmcoaaaGreatDoor

