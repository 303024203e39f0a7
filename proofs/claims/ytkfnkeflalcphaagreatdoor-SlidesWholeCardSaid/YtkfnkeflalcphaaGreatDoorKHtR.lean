/- Contract of html.line: the nodes of inlines. Contracts of publisherref34.some, element, texts, attrs, joined. Contract of publisherref34.joined: neighbouring texts are joined. Contracts of slides.block.title, begins and of the function finish of slides.parts. Contract of html.row: the node of a row of a table. -/
import Derived.Test.YtkfnkeflalcphaaGreatDoorKHtX
import Derived.Test.YtkfnkeflalcphaaGreatDoorKHtF
import Derived.Test.YtkfnkeflalcphaaGreatDoorKScB
set_option maxHeartbeats 8000000
set_option maxRecDepth 100000
open Go.Lib (hid)
namespace Go.Proofs.YtkfnkeflalcphaaGreatDoor
open List renaming setIfInBounds_toArray->jj4,set_cons_zero->jj5,set_cons_succ->jj6,getElem?_eq_getElem->jj7,length_append->jjx,length_map->jjz,length_cons->jk0,mem_of_getElem?->jk5,take_of_length_le->jkk
open Go.RowKit.Below renaming refl->jj8,heap_setCell->jk2,heap_alloc->jk3
open Nat renaming le_refl->jj9,le_trans->jjj
open Go.World renaming cell?->jl1,setCell->jl2
open Go renaming World->jmj,Value->jmq
open Go.RowKit renaming Below->jmk
open Go.RowKit
set_option linter.unusedVariables false
set_option linter.unusedSimpArgs false
theorem YB (x:aj) (h:x.small):x.nd.tx.size<=300:=by
 obtain ⟨k,t,d,ti,a,ar,ci,ks⟩:=x;rw [aj.small] at h;have h1:=h.1;have e0:(⟨#[]⟩:ByteArray).size=0:=rfl;have e1:U6.size=1:=rfl;rw [aj.nd];have key:∀ (c:Prop) [Decidable c] (a b:Nd),a.tx.size<=300->b.tx.size<=300->(if c then a else b).tx.size<=300:=by
  intro c _ a b h1 h2;split
  ·exact h1
  ·exact h2
 have el:∀ (n:ByteArray) (a:List Pr) (ks:List Nd),(aQ n a ks).tx.size<=300:=fun _ _ _=>by show (⟨#[]⟩:ByteArray).size<=300;omega
 refine key _ _ _ (by show U6.size<=300;omega) ?_;refine key _ _ _ (el _ _ _) (key _ _ _ (el _ _ _) (key _ _ _ (el _ _ _) (key _ _ _ (el _ _ _) (key _ _ _ (el _ _ _) (key _ _ _ (el _ _ _) (key _ _ _ (el _ _ _) (key _ _ _ (el _ _ _) (key _ _ _ (el _ _ _) (key _ _ _ (el _ _ _) (key _ _ _ (el _ _ _) h1))))))))))
theorem aj.oK:∀ (l:List aj),aj.aG l->∀ x∈l,x.small
 | [],_,x,hx=>by cases hx
 | y::l,h,x,hx=>by
  rw [aj.aG] at h;rcases List.mem_cons.1 hx with rfl | hx
  ·exact h.1
  ·exact aj.oK l h.2 x hx
theorem DU:∀ (l:List Nd) (p:List Nd × ByteArray),(l.foldl dV p).1.length<=p.1.length+2*l.length
 | [],p=>by simp
 | x::l,p=>by
  have h:=DU l (dV p x);have h2:(dV p x).1.length<=p.1.length+2:=by
   unfold dV;split
   ·show p.1.length<=_;omega
   ·show (p.1++bT p.2++[x]).length<=_;rw [jjx,jjx];have:(bT p.2).length<=1:=by unfold bT;split<;>simp
    simp;omega
  rw [List.foldl_cons,jk0];omega
theorem Ip:∀ (l:List Nd) (p:List Nd × ByteArray),(∀ x∈l,x.tx.size<=300)->(l.foldl dV p).2.size<=p.2.size+300*l.length
 | [],p,_=>by simp
 | x::l,p,hx=>by
  have h:=Ip l (dV p x) (fun y hy=>hx y (List.mem_cons_of_mem _ hy));have h1:=hx x (List.mem_cons_self ..);have h2:(dV p x).2.size<=p.2.size+300:=by
   unfold dV;split
   ·show (p.2++x.tx).size<=_;rw [ByteArray.size_append];omega
   ·show (⟨#[]⟩:ByteArray).size<=_;have:(⟨#[]⟩:ByteArray).size=0:=rfl;omega
  rw [List.foldl_cons,jk0];omega
theorem FZ (l:List Nd) (k:Nat) (x:Nd) (h:l[k]?=some x):gF (l.take (k+1))=dV (gF (l.take k)) x:=by rw [List.take_add_one,h];exact F4 _ _
theorem AY (a b:ByteArray):Lib.strCells (a++b)=Lib.strCells a++Lib.strCells b:=by unfold Lib.strCells;rw [ByteArray.data_append];simp
def o9 (w:jmj) (g o:Nat) (c0 c1 c2 c3:jmq):jmj:=(((w.setCell ⟨g,o,none⟩ c0).setCell ⟨g,o+1,none⟩ c1).setCell ⟨g,o+2,none⟩ c2).setCell ⟨g,o+3,none⟩ c3
theorem gP (w:jmj) (g o:Nat) (c0 c1 c2 c3:jmq) (b:Nat) (h:b≠g):(o9 w g o c0 c1 c2 c3).heap[b]?=w.heap[b]?:=by unfold o9;rw [jk2 _ ⟨g,o+3,none⟩ _ b h,jk2 _ ⟨g,o+2,none⟩ _ b h,jk2 _ ⟨g,o+1,none⟩ _ b h,jk2 _ ⟨g,o,none⟩ _ b h]
theorem jK (w:jmj) (b b' o o':Nat) (u v:jmq) (h:b≠b'):(w.setCell ⟨b,o,none⟩ u).setCell ⟨b',o',none⟩ v=(w.setCell ⟨b',o',none⟩ v).setCell ⟨b,o,none⟩ u:=by
 unfold jl2;simp only [World.mk.injEq,and_true];apply Array.ext_getElem?;intro i;simp only [Array.getElem?_modify];by_cases h1:b=i
 ·subst h1;have hb:¬ b'=b:=fun e=>h e.symm
  simp [hb]
 ·simp [h1]
theorem nI (w:jmj) (S g o:Nat) (V c0 c1 c2 c3:jmq) (h:S≠g):o9 (w.setCell ⟨S,0,none⟩ V) g o c0 c1 c2 c3=(o9 w g o c0 c1 c2 c3).setCell ⟨S,0,none⟩ V:=by unfold o9;rw [jK w S g,jK _ S g,jK _ S g,jK _ S g]<;>exact h
theorem SG {w:jmj} {g o:Nat} {c0 c1 c2 c3:jmq} {b j:Nat} {v:jmq} (h:w.cell? ⟨b,j,none⟩=some v) (hb:b≠g):(o9 w g o c0 c1 c2 c3).cell? ⟨b,j,none⟩=some v:=by rw [gY (gP w g o c0 c1 c2 c3 b hb)];exact h
section
variable {T:TypeId} {U:Nat} {ok:Nat->Prop} {w0 w:jmj} {ds:List D} {rows:List (List jmq)} {v:jmq}
theorem aC.SH {g n c:Nat} {d0 d1:D} {a0 a1 a2 a3:jmq} (h:aC T 4 ok U w0 (ds++[d0]) (rows++[[a0,a1,a2,a3]]) (.slice (some ⟨g,0,none⟩) (n+1) c) w) (hn:ds.length=n) (c0 c1 c2 c3:jmq) (hd:Rd (fun b=>(ok b\/w0.heap.size<=b)/\g≠b/\b<U) w d1 [c0,c1,c2,c3]):aC T 4 ok U w0 (ds++[d1]) (rows++[[c0,c1,c2,c3]]) (.slice (some ⟨g,0,none⟩) (n+1) c) (o9 w g (n*4) c0 c1 c2 c3):=by
 have hl:rows.length=n:=by have:=h.red.len;simp at this;omega
 have hfl:rows.flatten.length=n*4:=by rw [jf 4 rows (fun r hr=>h.len r (by simp [hr])),hl]
 have hown:=h.own;have e1:(rows++[[a0,a1,a2,a3]]).flatten=rows.flatten++[a0,a1,a2,a3]:=by simp
 rw [e1,jjx,List.length_singleton,hn] at hown;have st:∀ (W:jmj) (zs:List jmq),W.ownsRow w0.heap.size T 4 (.slice (some ⟨g,0,none⟩) (n+1) c) (n+1) (rows.flatten++zs)->∀ (j:Nat) (u:jmq),(W.setCell ⟨g,n*4+j,none⟩ u).ownsRow w0.heap.size T 4 (.slice (some ⟨g,0,none⟩) (n+1) c) (n+1) (rows.flatten++zs.set j u):=by intro W zs hW j u;have:=(hW.stored (n*4+j) u).1;rw [List.set_append_right _ _ (by omega),hfl,Nat.add_sub_cancel_left] at this;exact this
 have o4:=st _ _ (st _ _ (st _ _ (st _ _ hown 0 c0) 1 c1) 2 c2) 3 c3;have hb:∀ b,b≠g->(o9 w g (n*4) c0 c1 c2 c3).heap[b]?=w.heap[b]?:=fun b hb=>gP w g _ _ _ _ _ b hb
 have hz:(o9 w g (n*4) c0 c1 c2 c3).heap.size=w.heap.size:=by simp [o9,jl2]
 have hg0:w0.heap.size<=g:=(h.own.lt g rfl).1;refine ⟨?_,?_,?_,?_,h.oU,h.og,by rw [hz];exact h.xG⟩
 ·rw [show (rows++[[c0,c1,c2,c3]]).flatten=rows.flatten++[c0,c1,c2,c3] by simp,jjx,List.length_singleton,hn];exact o4
 ·obtain ⟨rA,rB,e2,hA,hB⟩:∃ rA rB,rows++[[a0,a1,a2,a3]]=rA++[rB]/\aI (fun b=>(ok b\/w0.heap.size<=b)/\(Value.slice (some ⟨g,0,none⟩) (n+1) c).ownBlock≠some b/\b<U) w ds rA/\True:=by
   refine ⟨rows,_,rfl,?_,trivial⟩;have h0:=h.red;clear st o4 hown;generalize hP:(fun b=>(ok b\/w0.heap.size<=b)/\(Value.slice (some ⟨g,0,none⟩) (n+1) c).ownBlock≠some b/\b<U)=P at h0;have gen:∀ (ds:List D) (rows:List (List jmq)) (d0:D) (r0:List jmq),aI P w (ds++[d0]) (rows++[r0])->rows.length=ds.length->aI P w ds rows:=by
    intro ds;induction ds with
    | nil=>intro rows d0 r0 _ hl;rw [List.eq_nil_of_length_eq_zero hl];exact aI.none
    | cons x ds ih=>
     intro rows d0 r0 hr hl;cases rows with
     | nil=>simp at hl
     | cons r rows=>
      obtain ⟨r',rs,e,h1,h2⟩:=hr.aD;have e':r'=r/\rs=rows++[r0]:=by simp at e;exact ⟨e.1.symm,e.2.symm⟩
      obtain ⟨rfl,rfl⟩:=e';exact aI.cons h1 (ih rows d0 r0 h2 (by simpa using hl))
   exact gen ds rows d0 _ h0 (by omega)
  have e3:rA=rows:=by have:=congrArg List.dropLast e2;simpa using this.symm
  subst e3;refine aI.app (aI.keep (fun b hb' _=>⟨hb',hb b (fun e=>by subst e;exact hb'.2.1 rfl)⟩) _ _ hA) (aI.one (Rd.keep (fun b hb' _=>⟨⟨hb'.1,fun e=>hb'.2.1 (by simpa [Value.ownBlock] using e),hb'.2.2⟩,hb b (fun e=>hb'.2.1 e.symm)⟩) _ _ hd))
 ·intro r hr;rcases List.mem_append.1 hr with hr | hr
  ·exact h.len r (by simp [hr])
  ·simp at hr;subst hr;rfl
 ·have hbel:=h.aP;exact (((hbel.setCell (p:=⟨g,n*4,none⟩) hg0 c0).setCell (p:=⟨g,n*4+1,none⟩) hg0 c1).setCell (p:=⟨g,n*4+2,none⟩) hg0 c2).setCell (p:=⟨g,n*4+3,none⟩) hg0 c3
theorem aC.Iq {g n c:Nat} {d0:D} {a0 a1 a2 a3:jmq} (h:aC T 4 ok U w0 (ds++[d0]) (rows++[[a0,a1,a2,a3]]) (.slice (some ⟨g,0,none⟩) (n+1) c) w) (hn:ds.length=n) : w.cell? ⟨g,n*4,none⟩=some a0/\w.cell? ⟨g,n*4+1,none⟩=some a1/\w.cell? ⟨g,n*4+2,none⟩=some a2/\w.cell? ⟨g,n*4+3,none⟩=some a3/\∀ j,w.frozen? ⟨g,j,none⟩=false:=by
 have hl:rows.length=n:=by have:=h.red.len;simp at this;omega
 have hfl:rows.flatten.length=n*4:=by rw [jf 4 rows (fun r hr=>h.len r (by simp [hr])),hl]
 have hc:∀ i u,[a0,a1,a2,a3][i]?=some u->w.cell? ⟨g,n*4+i,none⟩=some u:=by
  intro i u hu;have:=h.own.cells (g:=g) rfl (n*4+i) u (by
   rw [show (rows++[[a0,a1,a2,a3]]).flatten=rows.flatten++[a0,a1,a2,a3] by simp,List.getElem?_append_right (by omega),hfl,Nat.add_sub_cancel_left];exact hu)
  have e:((⟨g,0,none⟩:Addr).add (n*4+i))=⟨g,n*4+i,none⟩:=by unfold Addr.add;split<;>simp_all
  rwa [e] at this
 refine ⟨hc 0 _ rfl,hc 1 _ rfl,hc 2 _ rfl,hc 3 _ rfl,fun j=>?_⟩;rcases h.own.2 with ⟨h1,-⟩ | ⟨g',cap,cur,h1,-,h2,-⟩
 ·cases h1
 ·injection h1 with h1
  injection h1 with h1
  injection h1 with h1
  subst h1;simp [World.frozen?,h2]
theorem zl {k n:Nat} {ops:Array Oper} {o:Oper} {a:Act} {K:Act->jmj->Prop} {Q:Exit->Act->jmj->Prop} {E:Prop} (hgd:o.guard=none) (s x:Operand) (t:TypeId) (ho:o.op=.call { callee:=.builtin .append,args:=#[s,x],argTypes:=#[t,t] }) (i:TypeInfo) (z:jmq) (bytes:Nat) (ht:Tryz.prog.underlying t=some (.slice T)) (hi:Tryz.prog.info? T=some i) (hz:i.zero=some z) (hsize:i.size=k) (hby:i.bytes=bytes) (hzs:z.cells.size=k) (hsz:0<k) (h:aC T k ok U w0 ds rows v w) (hB:∀ b,ok b->b<w0.heap.size) (d:D) (r:List jmq) (hx:Rd (fun b=>ok b\/U<=b) w d r) (hr:r.length=k) (h1:∀ u∈r,u.oneCell'=true) (hdn:ds.length=n) (hn:n<=10000000) (kI:bytes<=1000) (hs:a.eval s=v) (hxe:a.eval x=.slice (some ⟨w.heap.size,0,none⟩) 1 1) (hK:∀ g c' w',aC T k ok w'.heap.size w0 (ds++[d]) (rows++[r]) (.slice (some ⟨g,0,none⟩) (n+1) c') w'->(w.alloc (.cells r.toArray T)).grownBy w' v.ownBlock->(v.ownBlock=some g\/w.heap.size<g)->n+1<=c'->K (a.put o.dst (.slice (some ⟨g,0,none⟩) (n+1) c')) w') : if Region.wanted o (yielded ops a.tmps)=true then Oper.wp Tryz.prog o a (w.alloc (.cells r.toArray T)) K Q else E:=by
 subst hdn;have hmul:(ds.length+1)*bytes<=140737488355328:=jjj (Nat.mul_le_mul (show ds.length+1<=10000001 by omega) kI) (by omega);refine step_append_lies _ hgd s x t ho w0.heap.size T i z k bytes ht hi hz hsize hby hzs hsz v ds.length rows.flatten hs (h.own.alloc _) ⟨w.heap.size,0,none⟩ 1 1 r hxe (by omega) (Pv w r T) h1 (by omega) (by unfold maxLen;omega) hmul (by have:=h.aP.size;simp;omega) (w.heap.size+1) (by simp) ?_;intro g cap w' hown hg hat _;have Qk:v.ownBlock=some g\/w.heap.size<g:=hat.elim (fun e=>.inl (by rw [e])) (fun e=>.inr (by omega));have hcp:ds.length+1<=cap:=by obtain ⟨g',cap',he,hle⟩:=pR hown (by omega);injection he with _ _ he;omega
 refine hK _ _ w' ?_ hg Qk hcp;refine h.put hB (bR:=[r]) (es:=[d]) (aI.one (Rd.keep (fun b hb hlt=>⟨hb,jk3 w _ b hlt⟩) _ _ hx)) (by simp [hr]) (World.grownBy_alloc w _ none) (by simpa using hown) hg (hat.elim (fun e=>.inl (by rw [e];rfl)) (fun e=>.inr (by rw [e];simp [Value.ownBlock])))
end
def AZ (S:Nat) (w:jmj) (N:List Nd) (vi:jmq) (wr:jmj):Prop:=
 ∃ (k:Nat) (rows:List (List jmq)) (v:jmq) (U:Nat) (wB:jmj),k<=N.length/\vi=.int .i64 k/\wB.heap.size=S+2/\aC 35 4 (fun _=>False) U wB ((gF (N.take k)).1.map Nd.d) rows v wr /\
  aH S v 28 wr/\AU (S+1) U (Lib.strCells (gF (N.take k)).2) wr/\jmk S w wr
theorem LY {p:Nat} {w:jmj} {c0 c1 c2 c3 c4 c5 c6 c7 c8 c9:jmq} (h:PB p [c0,c1,c2,c3,c4,c5,c6,c7,c8,c9] w) : w.cell? ⟨p,0,none⟩=some c0/\w.cell? ⟨p,1,none⟩=some c1/\w.cell? ⟨p,2,none⟩=some c2/\w.cell? ⟨p,3,none⟩=some c3/\w.cell? ⟨p,4,none⟩=some c4/\w.cell? ⟨p,5,none⟩=some c5 /\ w.cell? ⟨p,6,none⟩=some c6/\w.cell? ⟨p,7,none⟩=some c7/\w.cell? ⟨p,8,none⟩=some c8/\w.cell? ⟨p,9,none⟩=some c9:=
 ⟨h.cell 0 _ rfl,h.cell 1 _ rfl,h.cell 2 _ rfl,h.cell 3 _ rfl,h.cell 4 _ rfl,h.cell 5 _ rfl,h.cell 6 _ rfl,h.cell 7 _ rfl,h.cell 8 _ rfl,h.cell 9 _ rfl⟩
theorem tT.YC {S:Nat} {w w':jmj} {at_:At} {ar:List ByteArray} {ci:List Ci} {ks:List aj} {vc vp va vi vk:jmq} (h:tT (·<S) w at_ ar ci ks vc vp va vi vk) (hb:jmk S w w') (hS:S<=w'.heap.size):tT (·<w'.heap.size) w' at_ ar ci ks vc vp va vi vk:=
 have hs:zm (·<S) (·<w'.heap.size) w w':=fun b (h1:b<S) _=>⟨by omega,hb.block b h1⟩
 ⟨⟨Rd.keep hs _ _ h.at_.cls,Rd.keep hs _ _ h.at_.aJ⟩,Rd.keep hs _ _ h.args,Rd.keep hs _ _ h.dF,Rd.keep hs _ _ h.kids⟩
theorem uP (s:ByteArray):s.toList.isEmpty=bg s:=by rw [Lib.toList_data,Bool.eq_iff_iff,List.isEmpty_iff,bg,decide_eq_true_iff]
theorem Ms {s:ByteArray} (h:bg s=false):0<s.size:=by
 unfold bg at h;rw [decide_eq_false_iff_not] at h;have:s.data.toList.length≠0:=fun e=>h (List.eq_nil_of_length_eq_zero e)
 have e2:s.data.toList.length=s.size:=by simp
 omega
theorem AU.Ql {b U U':Nat} {w w':jmj} (h:AU b U [] w) (hs:w'.heap[b]?=w.heap[b]?) (hU:b<U'):AU b U' [] w':=
 h.imp (fun ⟨_,v,h2,_,h4⟩=>⟨hU,v,hs.trans h2,by rw [h4 rfl];exact World.ownsRowF_nil _ _ _ _,h4⟩) (fun ⟨_,v,h2,_,h4⟩=>⟨hU,v,hs.trans h2,by rw [h4 rfl];exact World.ownsRowF_nil _ _ _ _,h4⟩)
theorem yY (n:Nat):∀ (l:List aj) (v:jmq) (w:jmj),aj.aV l<=n->n<=1000000->Rd (·<w.heap.size) w (aY l) [v]->aj.aG l->aj.F5 l -> Calls Tryz.prog 78 #[v] w (dn w (jZ l)):=by
 induction n using Nat.strongRecOn with
 | _ n ih=>
  intro l v w hn hnm hrd hsm htf;obtain ⟨iN,Fb,nU,nV,nW⟩:=info_parts mq;obtain ⟨a,cap,hv,hs⟩:=Rd.aB hrd;obtain rfl:v=.slice a l.length cap:=by simpa using hv
  have hcap:l.length<=cap:=by simpa using hs.le
  have hll:=aj.dw l;have hmx:=hs.max;unfold maxLen at hmx;obtain ⟨N,hN⟩:∃ N,N=aj.Ir l:=⟨_,rfl⟩;have hNl:N.length=l.length:=by rw [hN,pU,jjz]
  have hNt:∀ x∈N,x.tx.size<=300:=by intro x hx;rw [hN,pU] at hx;obtain ⟨y,hy,rfl⟩:=List.mem_map.1 hx;exact YB y (aj.oK l hsm y hy)
  have hNf:∀ x∈N,x.full:=by rw [hN];exact DV l htf
  have YD:jZ l=(gF N).1++bT (gF N).2:=by rw [hN];exact Mt l htf
  obtain ⟨S,hS⟩:∃ S,S=w.heap.size:=⟨_,rfl⟩;obtain ⟨W0,hW0⟩:∃ W,W=(w.alloc (.cells #[.slice none 0 0] 28)).alloc (.cells #[.pointer none,.slice none 0 0] 104):=⟨_,rfl⟩;have z0:W0.heap.size=S+2:=by rw [hW0,hS];simp
  have k0:aH S (.slice none 0 0) 28 W0:=by rw [hW0,hS];exact (aH.new w _ _).alloc _
  have k1:W0.heap[S+1]?=some (.cells #[.pointer none,.slice none 0 0] 104 (0,0)):=by
   rw [hW0,hS];have:=heap_alloc_new (w.alloc (.cells #[.slice none 0 0] 28)) (.cells #[.pointer none,.slice none 0 0] 104)
   rwa [World.size_alloc] at this
  have b0:jmk S w W0:=by rw [hW0,hS];exact ((jj8 _ _).alloc (jj9 _) _).alloc (by simp) _
  have R0:Hid (AZ S w N (.int .i64 0) W0):=⟨0,[],_,S+2,W0,Nat.zero_le _,rfl,z0,by rw [<- z0];exact aC.nil _ _ _ _,k0,AU.new k1 (by omega),b0⟩;have HS:=hid hs;have IH:=hid ih;have jH:=hid hsm;have HTF:=hid htf;have HN:=hid hN;have xI:=hid hNl;have HNT:=hid hNt;have HNF:=hid hNf;have qK:=hid YD;have FU:=hid hS;have HW0:=hid hW0;clear hs hv hrd ih hsm htf hN hNl hNt hNf YD hS hW0 z0 k0 k1 b0;go_enter Tryz.func78,Tryz.ntmps78;go_upto_region 3 with (fail)
  rw [<- FU.out,<- HW0.out];go_wp2
  go_loopw [12] (fun vi wr=>AZ S w N vi wr) (fun i _=>l.length-(intOf i).toNat)
  case atStart=>exact R0.out
  case round=>
   clear R0 HW0;obtain ⟨k,rows,v,U,wB,hk,rfl,SI,hrow,hbx,hbd,hbel⟩:=hrel;rw [xI.out] at hk;obtain ⟨P,hP⟩:∃ P,P=gF (N.take k):=⟨_,rfl⟩;rw [<- hP] at hrow hbd;obtain ⟨m,hm⟩:∃ m,m=(P.1.map Nd.d).length:=⟨_,rfl⟩;have hm2:m<=2*k:=by
    have h:=DU (N.take k) ([],⟨#[]⟩);have h2:(N.take k).length<=k:=List.length_take_le _ _;have h3:P.1=((N.take k).foldl dV ([],⟨#[]⟩)).1:=by rw [hP];rfl
    rw [<- h3] at h;rw [hm,jjz];simp at h;omega
   have hpt:P.2.size<=300*k:=by
    have h:=Ip (N.take k) ([],⟨#[]⟩) (fun x hx=>HNT.out x (List.mem_of_mem_take hx));have h2:(N.take k).length<=k:=List.length_take_le _ _;have h3:P.2=((N.take k).foldl dV ([],⟨#[]⟩)).2:=by rw [hP];rfl
    rw [<- h3] at h;have h4:(([]:List Nd),(⟨#[]⟩:ByteArray)).2.size=0:=rfl;omega
   obtain ⟨av,cv,rfl,-,-⟩:=hrow.cap hm.symm;have HM:=hid hm.symm;have HP:=hid hP;have bX:=hid hrow;have jY:=hid hbx;have kX:=hid hbd;have Cv:=hid SI;have hUr:=hrow.xG;have hSU:S+2<=U:=by have:=hrow.og;omega
   have Pn:Hid (P.1.length=m):=by show _=_;rw [hm,jjz]
   clear hrow hbx hbd hm hP SI;by_cases hlt:k<l.length
   ·obtain ⟨x,hx⟩:∃ x,l[k]?=some x:=⟨_,jj7 hlt⟩;have hNk:N[k]?=some x.nd:=by rw [HN.out,pU,List.getElem?_map,hx];rfl
    have hst:=FZ N k x.nd hNk;rw [<- HP.out] at hst;have hfull:=HNF.out x.nd (jk5 hNk);have htx:=HNT.out x.nd (jk5 hNk);have hxs:=aj.oK l jH.out x (jk5 hx);have hxt:=A8 l HTF.out x (jk5 hx);have hsz:=aj.bq l k _ hx;obtain ⟨X,hX⟩:∃ X,X=x.nd:=⟨_,rfl⟩;rw [<- hX] at hst hfull htx;obtain ⟨kd,t,d,ti,at_,ar,ci,ks⟩:=x;obtain ⟨g,off,vc,vp,va,vi,vk,rfl,hok,hbl,hc,hR⟩:=fH HS.out hx;obtain ⟨c0,c1,c2,c3,c4,c5,c6,c7,c8,c9⟩:=hc.below (show jmk w.heap.size w wr by rw [<- FU.out];exact hbel);rw [aj.sz] at hsz;obtain ⟨ac,nc,cc,rfl⟩:=Rd.ay hR.at_.cls
    obtain ⟨ap,np,cp,rfl⟩:=Rd.ay hR.at_.aJ
    obtain ⟨aa,na,ca,rfl⟩:=Rd.ay hR.args;obtain ⟨ai,ni,jU,rfl⟩:=Rd.ay hR.dF;obtain ⟨ak,nk,ck,rfl⟩:=Rd.ay hR.kids;have HR:Hid (tT (·<S) w at_ ar ci ks (.slice ac nc cc) (.slice ap np cp) (.slice aa na ca) (.slice ai ni jU) (.slice ak nk ck)):=by rw [FU.out];exact hR
    have HST:=hid hst;have HX:=hid hX;have Mv:=hid hfull;have HXS:=hid hxs;have HXT:=hid hxt;have dB:=hid hbel;have hSr:S<=wr.heap.size:=by have:=hbel.size;have:=FU.out;omega
    clear hc hok hbl hR hst hX hfull hxs hxt hNk hx hbel;go_upto_region 7 with (fail)
    obtain ⟨p,hp⟩:∃ p,p=wr.heap.size:=⟨_,rfl⟩;obtain ⟨wA,iF⟩:∃ wA,wA=wr.alloc (.cells #[.int .i64 kd,.string t,.string d,.string ti,.string at_.id,.slice ac nc cc,.slice ap np cp,.slice aa na ca,.slice ai ni jU,.slice ak nk ck] 66):=⟨_,rfl⟩;have PA:PB p [.int .i64 kd,.string t,.string d,.string ti,.string at_.id,.slice ac nc cc,.slice ap np cp,.slice aa na ca,.slice ai ni jU,.slice ak nk ck] wA:=by rw [iF,hp];exact heap_alloc_new wr _
    have bA:jmk wr.heap.size wr wA:=by rw [iF];exact (jj8 _ _).alloc (jj9 _) _
    rw [<- iF,<- hp];obtain ⟨e0,e1,e2,e3,e4,e5,e6,e7,e8,e9⟩:=LY PA;have zA:=bA.size;have BA:=hid (dB.out.trans (bA.mono hSr));have HRA:=HR.out.YC BA.out (by omega);have LC:DW wA ks (.slice ak nk ck):=fun W hW=>by
     have hsk:=HXS.out;rw [aj.small] at hsk;have htk:=HXT.out;rw [aj.tf] at htk;exact IH.out (aj.aV ks) (by omega) ks _ W (jj9 _) (by omega) (HRA.kids.up hW) hsk.2.2.2.2.2.2.2.2 htk.2
    have IC:=F6 kd t d ti at_ ar ci ks _ _ _ _ _ wA HRA HXS.out LC (by omega)
    rw [<- HX.out] at IC;have IL:=hid IC;have yV:=hid bA;clear iF hp c0 c1 c2 c3 c4 c5 c6 c7 c8 c9 HRA LC IC PA bA;go_wp2_with fail
    (with_reducible refine IL.out.mono ?_)
    rintro e w1 ⟨vA,vK,rfl,hNd,b1⟩;obtain ⟨aA,nA,cA,rfl⟩:=Rd.ay hNd.at_
    obtain ⟨aK,nK,cK,rfl⟩:=Rd.ay hNd.ks;have HND:=hid hNd;have B1:=hid b1;have z1:=b1.size;clear e0 e1 e2 e3 e4 e5 e6 e7 e8 e9 hNd b1 IL;obtain ⟨nm,tx,XA,XK⟩:=X;dsimp only [Nd.nm,Nd.tx,Nd.at_,Nd.ks] at htx HND;dsimp only [Nd.nm,Nd.tx];go_upto_region 8 with (fail)
    obtain ⟨q,hq⟩:∃ q,q=w1.heap.size:=⟨_,rfl⟩;obtain ⟨wN,YE⟩:∃ wN,wN=w1.alloc (.cells #[.string nm,.string tx,.slice aA nA cA,.slice aK nK cK] 35):=⟨_,rfl⟩;have KN:CB 35 q [.string nm,.string tx,.slice aA nA cA,.slice aK nK cK] wN:=by rw [YE,hq];exact CB.new _ _ w1
    have bN:jmk w1.heap.size w1 wN:=by rw [YE];exact (jj8 _ _).alloc (jj9 _) _
    have zN:wN.heap.size=q+1:=by rw [YE,hq];simp
    have hqr:wA.heap.size<=q:=by rw [hq];exact z1
    have HQ:=hid hq;rw [<- YE,<- hq];have BN:=hid (aR yV.out (aR B1.out bN));have Qe:=hid bN;have f0:=KN.cell 0 _ rfl;have f1:=KN.cell 1 _ rfl;have HKN:=hid KN;have ZN:=hid zN;have hzr:=BN.out.size;clear YE hq KN bN zN;by_cases hem:bg nm=true
    ·have q1:nm.toList.isEmpty=true:=by rw [uP];exact hem
     have q2:nm.toList=[]:=by rw [List.isEmpty_iff] at q1;exact q1
     have htp:0<tx.size:=Ms (Mv.out hem).2;have yg:Hid (gF (N.take (k+1))=(P.1,P.2++tx)):=by show _=_;rw [HST.out];unfold dV;rw [if_pos (show bg (Nd.mk nm tx XA XK).nm=true from hem)];rfl
     have WS:=hid (xZ (S+1) U (Lib.strCells P.2) tx wN (kX.out.below BN.out) (by rw [Lib.strCells_length];omega) (by omega) htp);clear hem HST Mv;go_wp2_with fail
     (with_reducible refine WS.out.mono ?_)
     rintro e w2 ⟨rfl,YF,hb2⟩;have hR2:=bX.out.reU (w':=w2) (by have:=hb2.size;omega) (fun b h1 h2=>(hb2.blk b h2 (by have:=Cv.out;omega)).trans (BN.out.block b (by omega)));obtain ⟨wB2,F7,hrow2⟩:=hR2;have HF:Hid (AZ S w N (.int .i64 ((k+1:Nat):Int)) w2):=by
      refine ⟨k+1,rows,.slice av m cv,U,wB2,by rw [xI.out];omega,rfl,F7.trans Cv.out,?_,?_,?_,?_⟩
      ·rw [yg.out];exact hrow2
      ·exact (hb2.blk S (by omega) (by omega)).trans ((BN.out.block S (by omega)).trans jY.out)
      ·rw [yg.out,AY];exact YF
      ·exact dB.out.trans ((BN.out.mono hSr).trans (hb2.below (by omega) (by omega)))
     clear YF hb2 F7 hrow2 WS f0 f1 q1 q2;go_wp2;go_roundw;case rel=>exact HF.out
     case measure=>simp [intOf];omega
    ·have q1:nm.toList.isEmpty=false:=by rw [uP];simpa using hem
     have yg:Hid (gF (N.take (k+1))=(P.1++bT P.2++[.mk nm tx XA XK],⟨#[]⟩)):=by show _=_;rw [HST.out];unfold dV;rw [if_neg (show ¬ bg (Nd.mk nm tx XA XK).nm=true from hem)]
     have FC:=zi S U P.2.data.toList P.1 rows (.slice av m cv) wr wN wB (by have:=Cv.out;omega) bX.out jY.out kX.out BN.out (by rw [Pn.out];omega);rw [AQ] at FC;have FL:=hid FC;clear hem HST Mv FC;go_wp2_with fail
     (with_reducible refine FL.out.mono ?_)
     rintro e w3 ⟨rfl,gD,v3,wB3,Vd,hrow3,JU,Qm,uU,hkp3,hb3⟩;obtain ⟨m3,Pw⟩:∃ m,m=(List.map Nd.d (P.1++bT P.2)).length:=⟨_,rfl⟩;have jc9:m3<=m+1:=by
      rw [Pw,jjz,jjx,Pn.out];have:(bT P.2).length<=1:=by unfold bT;split<;>simp
      omega
     obtain ⟨a3,c3,rfl,hc3,jcj⟩:=hrow3.cap Pw.symm;unfold maxLen at jcj;have Xu:=hid Pw.symm;have U3:=hid hrow3.drew;have Xv:CB 35 q [.string nm,.string tx,.slice aA nA cA,.slice aK nK cK] w3:=(hkp3 q (by omega) (by have:=ZN.out;omega)).trans HKN.out;have NR3:Hid (Rd (fun b=>wA.heap.size<=b/\b<q) w3 (Nd.mk nm tx XA XK).d [.string nm,.string tx,.slice aA nA cA,.slice aK nK cK]):=
      Nd.eu nm tx (HND.out.keep (fun b (h1:wA.heap.size<=b) h2=>⟨⟨h1,by rw [HQ.out];exact h2⟩,(hkp3 b (by omega) (by have:=ZN.out;have:=HQ.out;omega)).trans (Qe.out.block b h2)⟩))
     have S0:w3.drew.cell? ⟨S,0,none⟩=some (.slice a3 m3 c3)/\w3.drew.cell? ⟨q,0,none⟩=some (.string nm)/\w3.drew.cell? ⟨q,1,none⟩=some (.string tx)/\w3.drew.cell? ⟨q,2,none⟩=some (.slice aA nA cA)/\w3.drew.cell? ⟨q,3,none⟩=some (.slice aK nK cK):=⟨JU.cell,Xv.cell 0 _ rfl,Xv.cell 1 _ rfl,Xv.cell 2 _ rfl,Xv.cell 3 _ rfl⟩;have hov:∀ g,(Value.slice a3 m3 c3).ownBlock=some g->S+2<=g/\(g<wr.heap.size\/wN.heap.size<=g):=fun g hg=>⟨by have:=(hrow3.own.lt g hg).1;have:=Cv.out;omega,uU g hg⟩
     have xH:=hid hov;have jck:=hid JU;have Ve:=hid Qm;have HB3:=hid hb3;have Qn:=hid Vd;have YG:=hid Xv;have hz3:=hb3.size;have jcq:S<w3.heap.size:=JU.lt;clear Pw hrow3 JU Qm hb3 Vd uU hkp3 Xv hov FL f0 f1 q1;go_upto_region 11 with (fail)
     refine fB 7 (fun w'=>w'.cell? ⟨S,0,none⟩=some (.slice a3 m3 c3)/\w'.cell? ⟨q,0,none⟩=some (.string nm)/\w'.cell? ⟨q,1,none⟩=some (.string tx)/\w'.cell? ⟨q,2,none⟩=some (.slice aA nA cA)/\w'.cell? ⟨q,3,none⟩=some (.slice aK nK cK)) (by kernel_rfl) S0 ?_;intro hH;refine qD 0 (v:=?_) rfl (by kernel_rfl) hH (by rfl) ?_ ?_;rotate_left
     ·(intro wv hSw;(try dsimp only at hSw);go_simp;try with_reducible rfl)
     try simp only [Act.put,jj4,jj5,jj6]
     refine qD 1 (v:=?_) rfl (by kernel_rfl) hH (by rfl) ?_ ?_;rotate_left
     ·(intro wv hSw;(try dsimp only at hSw);go_simp;try with_reducible rfl)
     try simp only [Act.put,jj4,jj5,jj6]
     refine qD 2 (v:=?_) rfl (by kernel_rfl) hH (by rfl) ?_ ?_;rotate_left
     ·(intro wv hSw;(try dsimp only at hSw);go_simp;try with_reducible rfl)
     try simp only [Act.put,jj4,jj5,jj6]
     refine q01 (i:=3) rfl (by kernel_rfl) (fun KQ hK=>?_);go_simp;refine hK.out _ _ (fun _ _=>⟨past S0.1 _,past S0.2.1 _,past S0.2.2.1 _,past S0.2.2.2.1 _,past S0.2.2.2.2 _⟩) (fun hH2=>?_);clear hK KQ hH;have hH:=hH2 (by decide) (by kernel_rfl);clear hH2;try simp only [Act.put,jj4,jj5,jj6]
     refine q01 (i:=4) rfl (by kernel_rfl) (fun KQ hK=>?_);refine zl rfl (.tmp 26) (.tmp 29) 28 rfl iN _ 80 Tryz.underlying28 Fb nU nV nW rfl (by decide) U3.out (fun _=>False.elim) (Nd.mk ⟨#[]⟩ ⟨#[]⟩ [] []).d [.string ⟨#[]⟩,.string ⟨#[]⟩,.slice none 0 0,.slice none 0 0] (Nd.eu ⟨#[]⟩ ⟨#[]⟩ ⟨Rd.aF _ _ _,Rd.aF _ _ _⟩) rfl jJ Xu.out (by omega) (by decide) rfl rfl ?_;intro g5 c5 w5 bM hg5 A9 Im;have hgS:S+2<=g5/\g5≠q/\(g5<wr.heap.size\/wN.heap.size<=g5):=by
      have hz9:w3.drew.heap.size=w3.heap.size:=rfl;rcases A9 with h | h
      ·have:=xH.out g5 h;have:=ZN.out;omega
      ·have:=ZN.out;omega
     have sw:∀ b,b=S\/b=q->some b≠(Value.slice a3 m3 c3).ownBlock:=fun b hb e=>by
      have:=xH.out b e.symm;have:=ZN.out;omega
     have S5:w5.cell? ⟨S,0,none⟩=some (.slice a3 m3 c3)/\w5.cell? ⟨q,0,none⟩=some (.string nm)/\w5.cell? ⟨q,1,none⟩=some (.string tx)/\w5.cell? ⟨q,2,none⟩=some (.slice aA nA cA)/\w5.cell? ⟨q,3,none⟩=some (.slice aK nK cK):=⟨(World.grownBy.cell_far hg5 ⟨S,0,none⟩ (by simp;omega) (sw S (.inl rfl))).trans (past S0.1 _),(World.grownBy.cell_far hg5 ⟨q,0,none⟩ (by simp;have:=ZN.out;omega) (sw q (.inr rfl))).trans (past S0.2.1 _),(World.grownBy.cell_far hg5 ⟨q,1,none⟩ (by simp;have:=ZN.out;omega) (sw q (.inr rfl))).trans (past S0.2.2.1 _),(World.grownBy.cell_far hg5 ⟨q,2,none⟩ (by simp;have:=ZN.out;omega) (sw q (.inr rfl))).trans (past S0.2.2.2.1 _),(World.grownBy.cell_far hg5 ⟨q,3,none⟩ (by simp;have:=ZN.out;omega) (sw q (.inr rfl))).trans (past S0.2.2.2.2 _)⟩;obtain ⟨y0,y1,y2,y3,yf⟩:=bM.Iq Xu.out;have t0:(0:Int)<=(m3:Int):=by omega
     have t1:(m3:Int)<((m3+1:Nat):Int):=by omega
     have t2:(m3:Int)<(m3:Int)+1:=by omega
     have t3:m3<m3+1:=by omega
     have U5:=hid bM;have SK:=hid hg5;have hz5:w3.heap.size+1<=w5.heap.size:=by have:=hg5.size;simp at this;exact this
     have SL:S≠g5:=by omega
     have hqg:q≠g5:=fun e=>hgS.2.1 e.symm
     have Qo:aH S (.slice a3 m3 c3) 28 w5:=(hg5.block S (by simp;omega) (sw S (.inl rfl))).trans ((jk3 w3 _ S jcq).trans jck.out);have YH:=Qo.free;have z5:=Qo.cell;obtain ⟨wZ,YI,sD⟩:=bM.hop2 (p:=S) (by have:=Qn.out;have:=Cv.out;omega) (show w5.grownBy (w5.setCell ⟨S,0,none⟩ (.slice (some ⟨g5,0,none⟩) (m3+1) c5)) (some S) from ⟨rfl,rfl,rfl,by simp [jl2],fun b _ hb=>jk2 w5 ⟨S,0,none⟩ _ b (fun e=>hb (by rw [e]))⟩);obtain ⟨u0,u1,u2,u3,uf⟩:=sD.Iq Xu.out;have BX5:=hid Qo;clear sD YI Qo bM hg5 A9 sw S0;refine hK.out _ _ (fun _ _=>S5) (fun hH2=>?_);clear hK KQ hH;have hH:=hH2 (by decide) (by kernel_rfl);clear hH2;try simp only [Act.put,jj4,jj5,jj6]
     apply SN;case hm=>
      intro REST;refine F8 (i:=5) (j:=7) rfl rfl (by kernel_rfl) (fun KQ hK=>?_) (fun KQ hK=>?_);rotate_left
      ·go_simp;refine hK.out _ _ (fun h=>absurd rfl h) (fun _=>?_);clear hK KQ;try simp only [Act.put,jj4,jj5,jj6]
       refine q01 (i:=5) rfl (by kernel_rfl) (fun KQ hK=>?_);go_simp;refine hK.out _ _ (fun _ h=>absurd h (by decide)) (fun _=>?_);clear hK KQ;try simp only [Act.put,jj4,jj5,jj6]
       refine q01 (i:=6) rfl (by kernel_rfl) (fun KQ hK=>?_);go_simp;refine hK.out _ _ (fun _ h=>absurd h (by decide)) (fun _=>?_);clear hK KQ;try simp only [Act.put,jj4,jj5,jj6]
       refine Li (by kernel_rfl) ?_ _;have hsw:=nI w5 S g5 (m3*4) (.slice (some ⟨g5,0,none⟩) (m3+1) c5) (.string nm) (.string tx) (.slice aA nA cA) (.slice aK nK cK) SL;simp only [o9] at hsw;rw [hsw];clear hsw;exact REST
      go_simp;refine hK.out _ _ (fun _ _=>S5) (fun hH2=>?_);clear hK KQ;have hH:=hH2 (by decide) (by kernel_rfl);clear hH2;try simp only [Act.put,jj4,jj5,jj6]
      refine F8 (i:=6) (j:=7) rfl rfl (by kernel_rfl) (fun KQ hK=>?_) (fun KQ hK=>?_)
      ·go_simp;have S6:jl1 ((((w5.setCell ⟨g5,m3*4,none⟩ (.string nm)).setCell ⟨g5,m3*4+1,none⟩ (.string tx)).setCell ⟨g5,m3*4+2,none⟩ (.slice aA nA cA)).setCell ⟨g5,m3*4+3,none⟩ (.slice aK nK cK)) ⟨S,0,none⟩=some (.slice a3 m3 c3)/\jl1 ((((w5.setCell ⟨g5,m3*4,none⟩ (.string nm)).setCell ⟨g5,m3*4+1,none⟩ (.string tx)).setCell ⟨g5,m3*4+2,none⟩ (.slice aA nA cA)).setCell ⟨g5,m3*4+3,none⟩ (.slice aK nK cK)) ⟨q,0,none⟩=some (.string nm)/\jl1 ((((w5.setCell ⟨g5,m3*4,none⟩ (.string nm)).setCell ⟨g5,m3*4+1,none⟩ (.string tx)).setCell ⟨g5,m3*4+2,none⟩ (.slice aA nA cA)).setCell ⟨g5,m3*4+3,none⟩ (.slice aK nK cK)) ⟨q,1,none⟩=some (.string tx)/\jl1 ((((w5.setCell ⟨g5,m3*4,none⟩ (.string nm)).setCell ⟨g5,m3*4+1,none⟩ (.string tx)).setCell ⟨g5,m3*4+2,none⟩ (.slice aA nA cA)).setCell ⟨g5,m3*4+3,none⟩ (.slice aK nK cK)) ⟨q,2,none⟩=some (.slice aA nA cA)/\jl1 ((((w5.setCell ⟨g5,m3*4,none⟩ (.string nm)).setCell ⟨g5,m3*4+1,none⟩ (.string tx)).setCell ⟨g5,m3*4+2,none⟩ (.slice aA nA cA)).setCell ⟨g5,m3*4+3,none⟩ (.slice aK nK cK)) ⟨q,3,none⟩=some (.slice aK nK cK):=show jl1 (o9 w5 g5 (m3*4) (.string nm) (.string tx) (.slice aA nA cA) (.slice aK nK cK)) ⟨S,0,none⟩=some (.slice a3 m3 c3)/\jl1 (o9 w5 g5 (m3*4) (.string nm) (.string tx) (.slice aA nA cA) (.slice aK nK cK)) ⟨q,0,none⟩=some (.string nm)/\jl1 (o9 w5 g5 (m3*4) (.string nm) (.string tx) (.slice aA nA cA) (.slice aK nK cK)) ⟨q,1,none⟩=some (.string tx)/\jl1 (o9 w5 g5 (m3*4) (.string nm) (.string tx) (.slice aA nA cA) (.slice aK nK cK)) ⟨q,2,none⟩=some (.slice aA nA cA)/\jl1 (o9 w5 g5 (m3*4) (.string nm) (.string tx) (.slice aA nA cA) (.slice aK nK cK)) ⟨q,3,none⟩=some (.slice aK nK cK) from ⟨SG S5.1 SL,SG S5.2.1 hqg,SG S5.2.2.1 hqg,SG S5.2.2.2.1 hqg,SG S5.2.2.2.2 hqg⟩
       have z6:=S6.1;have Vf:aH S (.slice a3 m3 c3) 28 ((((w5.setCell ⟨g5,m3*4,none⟩ (.string nm)).setCell ⟨g5,m3*4+1,none⟩ (.string tx)).setCell ⟨g5,m3*4+2,none⟩ (.slice aA nA cA)).setCell ⟨g5,m3*4+3,none⟩ (.slice aK nK cK)):=(gP w5 g5 (m3*4) (.string nm) (.string tx) (.slice aA nA cA) (.slice aK nK cK) S SL).trans BX5.out;have zf:=Vf.free;refine hK.out _ _ (fun _ _=>S6) (fun hH2=>?_);clear hK KQ hH;have hH:=hH2 (by decide) (by kernel_rfl);clear hH2;try simp only [Act.put,jj4,jj5,jj6]
       refine q01 (i:=7) rfl (by kernel_rfl) (fun KQ hK=>?_);go_simp;refine hK.out _ _ (fun h=>absurd rfl h) (fun _=>?_);clear hK KQ hH;try simp only [Act.put,jj4,jj5,jj6]
       refine Li (by kernel_rfl) ?_ _;clear S6 z6 Vf zf;exact REST
      ·go_simp;refine hK.out _ _ (fun h=>absurd rfl h) (fun _=>?_);clear hK KQ hH;try simp only [Act.put,jj4,jj5,jj6]
       refine q01 (i:=6) rfl (by kernel_rfl) (fun KQ hK=>?_);go_simp;refine hK.out _ _ (fun _ h=>absurd h (by decide)) (fun _=>?_);clear hK KQ;try simp only [Act.put,jj4,jj5,jj6]
       refine Li (by kernel_rfl) ?_ _;have hsw:=nI w5 S g5 (m3*4) (.slice (some ⟨g5,0,none⟩) (m3+1) c5) (.string nm) (.string tx) (.slice aA nA cA) (.slice aK nK cK) SL;simp only [o9] at hsw;rw [hsw];clear hsw;exact REST
     case hr=>
      clear S5 y0 y1 y2 y3 yf u0 u1 u2 u3 uf YH z5 t0 t1 t2 t3;have Cw:=U5.out.SH Xu.out (.string nm) (.string tx) (.slice aA nA cA) (.slice aK nK cK) (d1:=(Nd.mk nm tx XA XK).d) (Rd.keep (fun b hb hlt=>⟨⟨.inr (by have:=Qn.out;have:=Cv.out;omega),(fun e=>by subst e;have:=ZN.out;omega),by omega⟩,(SK.out.block b (by simp;omega) (fun e=>by have:=xH.out b e.symm;have:=ZN.out;omega)).trans (jk3 w3 _ b hlt)⟩) _ _ NR3.out);obtain ⟨w6,iJ⟩:∃ w6,w6=o9 w5 g5 (m3*4) (.string nm) (.string tx) (.slice aA nA cA) (.slice aK nK cK):=⟨_,rfl⟩;have hb6:∀ b,b≠g5->w6.heap[b]?=w5.heap[b]?:=fun b hb=>by rw [iJ];exact gP _ _ _ _ _ _ _ b hb
      have YJ:aH S (.slice a3 m3 c3) 28 w6:=(hb6 S SL).trans BX5.out;rw [<- iJ] at Cw;have Vg:=iJ;simp only [o9] at Vg;rw [<- Vg];clear Vg;have Vh:w6.heap.size=w5.heap.size:=by rw [iJ];simp [o9,jl2]
      obtain ⟨w7,hw7⟩:∃ w7,w7=w6.setCell ⟨S,0,none⟩ (.slice (some ⟨g5,0,none⟩) (m3+1) c5):=⟨_,rfl⟩;rw [<- hw7];have bx7:aH S (.slice (some ⟨g5,0,none⟩) (m3+1) c5) 28 w7:=by rw [hw7];exact YJ.set _
      have g7:w6.grownBy w7 (some S):=by rw [hw7];exact ⟨rfl,rfl,rfl,by simp [jl2],fun b _ hb=>jk2 w6 ⟨S,0,none⟩ _ b (fun e=>hb (by rw [e]))⟩
      have hz7:w7.heap.size=w6.heap.size:=by rw [hw7];simp [jl2]
      obtain ⟨wB7,Vi,kJ⟩:=Cw.hop2 (p:=S) (by have:=Qn.out;have:=Cv.out;omega) g7;have Vj:∀ b,b<w3.heap.size->b≠S->b≠g5->(∀ g,(Value.slice a3 m3 c3).ownBlock=some g->b≠g)->w7.heap[b]?=w3.heap[b]?:=fun b h1 h2 h3 h4=>
       (g7.block b (by omega) (fun e=>h2 (Option.some.inj e))).trans ((hb6 b h3).trans ((SK.out.block b (by simp;omega) (fun e=>h4 b e.symm rfl)).trans (jk3 w3 _ b h1)))
      have hr7:aC 35 4 (fun _=>False) w7.heap.size wB7 ((gF (N.take (k+1))).1.map Nd.d) (gD++[[.string nm,.string tx,.slice aA nA cA,.slice aK nK cK]]) (.slice (some ⟨g5,0,none⟩) (m3+1) c5) w7:=by rw [yg.out];show aC _ _ _ _ _ (List.map Nd.d (P.1++bT P.2++[.mk nm tx XA XK])) _ _ _;rw [List.map_append];exact kJ.up (by omega) (jj9 _)
      have HF:Hid (AZ S w N (.int .i64 ((k+1:Nat):Int)) w7):=by
       refine ⟨k+1,_,.slice (some ⟨g5,0,none⟩) (m3+1) c5,w7.heap.size,wB7,by rw [xI.out];omega,rfl,Vi.trans (Qn.out.trans Cv.out),hr7,bx7,?_,?_⟩
       ·rw [yg.out];exact Ve.out.Ql (Vj (S+1) (by have:=Ve.out.lt;exact this) (by omega) (by omega) (fun g hg=>by have:=(xH.out g hg).1;omega)) (by have:=Ve.out.lt;omega)
       ·refine dB.out.trans ((BN.out.mono hSr).trans (HB3.out.trans ⟨?_,?_,?_,by omega,fun b hb=>Vj b (by omega) (by omega) (by omega) (fun g hg=>by have:=(xH.out g hg).1;omega)⟩))
        ·rw [hw7,iJ];exact SK.out.os
        ·rw [hw7,iJ];exact SK.out.tape
        ·rw [hw7,iJ];exact SK.out.output
      clear Cw hr7 kJ Vi g7 bx7 hw7 YJ iJ hb6 Vj;go_wp2;go_roundw;case rel=>exact HF.out
      case measure=>simp [intOf];omega
   ·have hkl:k=l.length:=by omega
    subst hkl;have hPN:P=gF N:=by rw [HP.out,jkk (by rw [xI.out];exact jj9 _)]
    have FC:=zi S U P.2.data.toList P.1 rows (.slice av m cv) wr wr wB (by have:=Cv.out;omega) bX.out jY.out kX.out (jj8 _ _) (by rw [Pn.out];omega);rw [AQ,hPN,<- qK.out] at FC;have FL:=hid FC;clear FC;go_wp2_with fail
    (with_reducible refine FL.out.mono ?_)
    rintro e w3 ⟨rfl,gD,v3,wB3,Vd,hrow3,JU,Qm,uU,hkp3,hb3⟩;have x0:=JU.cell;have HF:Hid (dn w (jZ l) (.returned v3) w3):=by
     refine ⟨gD,v3,rfl,hrow3.uW ?_ ?_⟩
     ·have:=FU.out;have:=Cv.out;omega
     ·rw [<- FU.out];exact hbel.trans hb3
    clear hrow3 Qm hb3 uU hkp3 FL;go_wp2;go_ret;exact HF.out
open Go.RowKit
open Go.RowKit
theorem aI.init {P:Nat->Prop} {w:jmj}:∀ (ds:List D) (rows:List (List jmq)) (d0:D) (r0:List jmq),aI P w (ds++[d0]) (rows++[r0])->rows.length=ds.length->aI P w ds rows/\Rd P w d0 r0
 | [],rows,d0,r0,hr,hl=>by
  rw [List.eq_nil_of_length_eq_zero hl] at hr ⊢;obtain ⟨r,rs,e,h1,h2⟩:=hr.aD;have e1:r=r0:=by simp at e;exact e.1.symm
  subst e1;exact ⟨aI.none,h1⟩
 | x::ds,[],d0,r0,hr,hl=>by simp at hl
 | x::ds,r::rows,d0,r0,hr,hl=>by
  obtain ⟨r',rs,e,h1,h2⟩:=hr.aD;have e':r'=r/\rs=rows++[r0]:=by simp at e;exact ⟨e.1.symm,e.2.symm⟩
  obtain ⟨rfl,rfl⟩:=e';obtain ⟨h3,h4⟩:=aI.init ds rows d0 r0 h2 (by simpa using hl);exact ⟨aI.cons h1 h3,h4⟩
section
variable {T:TypeId} {U:Nat} {ok:Nat->Prop} {w0 w:jmj} {ds:List D} {rows:List (List jmq)} {v:jmq}
theorem aC.JV {d:D} (h:aC T 4 ok U w0 (ds++[d]) rows v w):∃ rows' a0 a1 a2 a3,rows=rows'++[[a0,a1,a2,a3]]/\Rd (fun b=>(ok b\/w0.heap.size<=b)/\v.ownBlock≠some b/\b<U) w d [a0,a1,a2,a3]:=by
 have hl:=h.red.len;rw [jjx,List.length_singleton] at hl;have hne:rows≠[]:=fun e=>by rw [e] at hl;simp at hl
 obtain ⟨rows',r,rfl⟩:∃ rows' r,rows=rows'++[r]:=⟨_,_,(List.dropLast_concat_getLast hne).symm⟩;have hr:=h.len r (by simp)
 match r,hr with
 | [a0,a1,a2,a3],_=>exact ⟨rows',a0,a1,a2,a3,rfl,(aI.init ds rows' d _ h.red (by simp at hl;exact hl)).2⟩
end
open Go.RowKit
def tB (kd lv:Int):Bool:=decide (kd=2)&&(decide (lv=1)||decide (lv=2))
def bB (kd lv:Int):Bool:=decide (kd=5)||tB kd lv
theorem Qp (kd lv:Int) (i t d ti:ByteArray) (a:At) (li:List aj) (ks:List ah):qL (.mk kd lv i t d ti a li ks)=tB kd lv:=rfl
theorem Qq (kd lv:Int) (i t d ti:ByteArray) (a:At) (li:List aj) (ks:List ah):iy (.mk kd lv i t d ti a li ks)=bB kd lv:=rfl
theorem zn (kd lv:Int) (i t d ti id:ByteArray) (ac ap al ak:Option Addr) (nc cc np cp nl cl nk ck:Nat) (w:jmj) : Calls Tryz.prog 101 #[.agg #[.int .i64 kd,.int .i64 lv,.string i,.string t,.string d,.string ti,.string id,.slice ac nc cc,.slice ap np cp,.slice al nl cl,.slice ak nk ck]] w (dR (.bool (tB kd lv)) w):=by
 obtain ⟨S,hS⟩:∃ S,S=w.heap.size:=⟨_,rfl⟩;obtain ⟨w0,hw0⟩:∃ w0,w0=w.alloc (.cells #[.int .i64 kd,.int .i64 lv,.string i,.string t,.string d,.string ti,.string id,.slice ac nc cc,.slice ap np cp,.slice al nl cl,.slice ak nk ck] 133):=⟨_,rfl⟩;have k0:CB 133 S [.int .i64 kd,.int .i64 lv,.string i,.string t,.string d,.string ti,.string id,.slice ac nc cc,.slice ap np cp,.slice al nl cl,.slice ak nk ck] w0:=by rw [hw0,hS];exact CB.new _ _ w
 have B0:Hid (jmk w.heap.size w w0):=by show jmk _ _ _;rw [hw0];exact (jj8 _ _).alloc (jj9 _) _
 have e0:=k0.cell 0 _ rfl;have e1:=k0.cell 1 _ rfl;clear k0;go_enter Tryz.func101,Tryz.ntmps101;go_upto_region 1 with (fail)
 rw [<- hw0,<- hS];clear hw0 hS;by_cases h2:kd=2
 ·have q2:(kd==2)=true:=by rw [h2];rfl
  by_cases h3:lv=1
  ·have q3:(lv==1)=true:=by rw [h3];rfl
   have HV:Hid (tB kd lv=true):=by show _=_;unfold tB;rw [h2,h3];rfl
   clear h2 h3;go_wp2;go_ret;exact ⟨by rw [HV.out];rfl,B0.out⟩
  ·have q3:(lv==1)=false:=by rw [beq_eq_false_iff_ne];exact h3
   by_cases h4:lv=2
   ·have q4:(lv==2)=true:=by rw [h4];rfl
    have HV:Hid (tB kd lv=true):=by show _=_;unfold tB;rw [h2,h4];rfl
    clear h2 h3 h4;go_wp2;go_ret;exact ⟨by rw [HV.out];rfl,B0.out⟩
   ·have q4:(lv==2)=false:=by rw [beq_eq_false_iff_ne];exact h4
    have HV:Hid (tB kd lv=false):=by show _=_;unfold tB;simp [h3,h4]
    clear h2 h3 h4;go_wp2;go_ret;exact ⟨by rw [HV.out];rfl,B0.out⟩
 ·have q2:(kd==2)=false:=by rw [beq_eq_false_iff_ne];exact h2
  have HV:Hid (tB kd lv=false):=by show _=_;unfold tB;simp [h2]
  clear h2;go_wp2;go_ret;exact ⟨by rw [HV.out];rfl,B0.out⟩
theorem F9 (kd lv:Int) (i t d ti id:ByteArray) (ac ap al ak:Option Addr) (nc cc np cp nl cl nk ck:Nat) (w:jmj) : Calls Tryz.prog 100 #[.agg #[.int .i64 kd,.int .i64 lv,.string i,.string t,.string d,.string ti,.string id,.slice ac nc cc,.slice ap np cp,.slice al nl cl,.slice ak nk ck]] w (dR (.bool (bB kd lv)) w):=by
 obtain ⟨S,hS⟩:∃ S,S=w.heap.size:=⟨_,rfl⟩;obtain ⟨w0,hw0⟩:∃ w0,w0=w.alloc (.cells #[.int .i64 kd,.int .i64 lv,.string i,.string t,.string d,.string ti,.string id,.slice ac nc cc,.slice ap np cp,.slice al nl cl,.slice ak nk ck] 133):=⟨_,rfl⟩;have k0:CB 133 S [.int .i64 kd,.int .i64 lv,.string i,.string t,.string d,.string ti,.string id,.slice ac nc cc,.slice ap np cp,.slice al nl cl,.slice ak nk ck] w0:=by rw [hw0,hS];exact CB.new _ _ w
 have B0:Hid (jmk w.heap.size w w0):=by show jmk _ _ _;rw [hw0];exact (jj8 _ _).alloc (jj9 _) _
 have e0:=k0.cell 0 _ rfl;have e1:=k0.cell 1 _ rfl;have e2:=k0.cell 2 _ rfl;have e3:=k0.cell 3 _ rfl;have e4:=k0.cell 4 _ rfl;have e5:=k0.cell 5 _ rfl;have e6:=k0.cell 6 _ rfl;have e7:=k0.cell 7 _ rfl;have e8:=k0.cell 8 _ rfl;have e9:=k0.cell 9 _ rfl;have e10:=k0.cell 10 _ rfl;have TC:=hid (zn kd lv i t d ti id ac ap al ak nc cc np cp nl cl nk ck w0);clear k0;go_enter Tryz.func100,Tryz.ntmps100;go_upto_region 1 with (fail)
 rw [<- hw0,<- hS];clear hw0 hS;by_cases h5:kd=5
 ·have q5:(kd==5)=true:=by rw [h5];rfl
  have HV:Hid (bB kd lv=true):=by show _=_;unfold bB;rw [h5];rfl
  clear h5;go_wp2;go_ret;exact ⟨by rw [HV.out];rfl,B0.out⟩
 ·have q5:(kd==5)=false:=by rw [beq_eq_false_iff_ne];exact h5
  have HV:Hid (bB kd lv=tB kd lv):=by show _=_;unfold bB;simp [h5]
  clear h5;go_wp2_with fail
  (with_reducible refine TC.out.mono ?_)
  rintro e w1 ⟨rfl,b1⟩;have BF:=hid (aR B0.out b1);clear b1;go_wp2;go_ret;exact ⟨by rw [HV.out];rfl,BF.out⟩
def Pt.d (p:Pt):D:=.st [.bool p.ti,iO p.bl]
theorem Pt.eu {ok:Nat->Prop} {w:jmj} (p:Pt) {v:jmq} (h:Rd ok w (iO p.bl) [v]):Rd ok w p.d [.bool p.ti,v]:=by have:=Rd.sF (ok:=ok) (w:=w) (aI.cons (Rd.Iu ok w p.ti) (aI.one h));simpa [Pt.d] using this
theorem Pt.open_ {ok:Nat->Prop} {w:jmj} {p:Pt} {cs:List jmq} (h:Rd ok w p.d cs):∃ v,cs=[.bool p.ti,v]/\Rd ok w (iO p.bl) [v]:=by
 obtain ⟨rows,h1,rfl⟩:=Rd.jL h;obtain ⟨r1,rs,rfl,h2,h3⟩:=h1.aD;obtain ⟨r2,rs2,rfl,h4,h5⟩:=h3.aD;obtain rfl:=h5.bZ;obtain rfl:=Rd.zo h2;obtain ⟨a,n,c,e⟩:∃ a n c,r2=[.slice a n c]:=by unfold iO at h4;obtain ⟨a,c,e,-⟩:=Rd.aB h4;exact ⟨a,_,c,e⟩
 subst e;exact ⟨_,by simp,h4⟩
theorem Vk:(Tryz.prog.info? 96).map (fun i=>(i.zero,i.size,i.bytes))=some (some (.agg #[.bool false,.slice none 0 0]),2,32):=by kernel_rfl
def fG (ok:Nat->Prop) (p M:Nat) (s:tC) (w:jmj):Prop:=
 ∃ (UA:Nat) (wA wO:jmj) (rA rO:List (List jmq)) (va vo:jmq),wA.heap.size=p+3/\UA<=wO.heap.size/\aC 96 2 ok UA wA (s.all.map Pt.d) rA va w/\aC 48 11 ok M wO (s.op.bl.map ah.d) rO vo w /\
  aH p va 93 w/\CB 96 (p+1) [.bool s.op.ti,vo] w/\aH (p+2) (.bool s.some_) 4 w/\(s.op.bl=[]->vo.ownBlock=none)
theorem fG.below {ok:Nat->Prop} {p M:Nat} {s:tC} {w w':jmj} (h:fG ok p M s w) (hb:jmk w.heap.size w w'):fG ok p M s w':=by
 obtain ⟨UA,wA,wO,rA,rO,va,vo,h1,h2,h3,h4,h5,h6,h7,h8⟩:=h;have hp:p+3<=w.heap.size:=by have:=h3.og;have:=h3.xG;omega
 exact ⟨UA,wA,wO,rA,rO,va,vo,h1,h2,h3.below hb,h4.below hb,(hb.block p (by omega)).trans h5,(hb.block (p+1) (by omega)).trans h6,(hb.block (p+2) (by omega)).trans h7,h8⟩
theorem fG.sz {ok:Nat->Prop} {p M:Nat} {s:tC} {w:jmj} (h:fG ok p M s w):p+3<=M/\M<=w.heap.size:=by obtain ⟨UA,wA,wO,rA,rO,va,vo,h1,h2,h3,h4,h5,h6,h7,h8⟩:=h;have:=h3.og;have:=h4.og;have:=h4.xG;omega
theorem fG.top {ok:Nat->Prop} {p M:Nat} {s:tC} {w:jmj} (h:fG ok p M s w):fG ok p w.heap.size s w:=by obtain ⟨UA,wA,wO,rA,rO,va,vo,h1,h2,h3,h4,h5,h6,h7,h8⟩:=h;exact ⟨UA,wA,wO,rA,rO,va,vo,h1,h2,h3,h4.top,h5,h6,h7,h8⟩
theorem fG.opc {ok:Nat->Prop} {p M:Nat} {s:tC} {w:jmj} (h:fG ok p M s w):∃ vo,CB 96 (p+1) [.bool s.op.ti,vo] w/\∃ a n c,vo=.slice a n c:=by obtain ⟨UA,wA,wO,rA,rO,va,vo,h1,h2,h3,h4,h5,h6,h7,h8⟩:=h;exact ⟨vo,h6,h4.SQ⟩
theorem fG.smc {ok:Nat->Prop} {p M:Nat} {s:tC} {w:jmj} (h:fG ok p M s w):aH (p+2) (.bool s.some_) 4 w:=by obtain ⟨UA,wA,wO,rA,rO,va,vo,h1,h2,h3,h4,h5,h6,h7,h8⟩:=h;exact h7
def qM (ok:Nat->Prop) (p M:Nat) (s:tC) (w:jmj) (e:Ending) (w':jmj):Prop:=e=.returned (.tuple #[])/\fG ok p w'.heap.size s w'/\jmk p w w'/\∀ b,M<=b->b<w.heap.size->w'.heap[b]?=w.heap[b]?
theorem fG.YK {ok:Nat->Prop} {p M:Nat} {al:List Pt} {ti:Bool} {bl:List ah} {sm:Bool} {w:jmj} (hok:∀ b,ok b->b<p) (h:fG ok p M ⟨al,⟨ti,bl⟩,sm⟩ w) (u:Bool):fG ok p M ⟨al,⟨u,bl⟩,sm⟩ (w.setCell ⟨p+1,0,none⟩ (.bool u)):=by
 obtain ⟨UA,wA,wO,rA,rO,va,vo,h1,h2,h3,h4,h5,h6,h7,h8⟩:=h;have hA:=h3.og;have k2:∀ b,b≠p+1->(w.setCell ⟨p+1,0,none⟩ (.bool u)).heap[b]?=w.heap[b]?:=fun b hb=>jk2 _ ⟨p+1,0,none⟩ _ b hb
 have g2:w.grownBy (w.setCell ⟨p+1,0,none⟩ (.bool u)) (some (p+1)):=⟨rfl,rfl,rfl,by simp [jl2],fun b _ hb=>k2 b (fun e=>hb (by rw [e]))⟩;obtain ⟨Qr,e2,r2⟩:=h3.yh (p:=p+1) (by omega) (fun h=>by have:=hok _ h;omega) g2;obtain ⟨YL,e3,r3⟩:=h4.yh (p:=p+1) (by omega) (fun h=>by have:=hok _ h;omega) g2;exact ⟨UA,Qr,YL,rA,rO,va,vo,by omega,by omega,r2,r3,(k2 p (by omega)).trans h5,dG h6 0 _,(k2 (p+2) (by omega)).trans h7,h8⟩
theorem fG.setSm {ok:Nat->Prop} {p M:Nat} {al:List Pt} {op:Pt} {sm:Bool} {w:jmj} (hok:∀ b,ok b->b<p) (h:fG ok p M ⟨al,op,sm⟩ w) (u:Bool):fG ok p M ⟨al,op,u⟩ (w.setCell ⟨p+2,0,none⟩ (.bool u)):=by
 obtain ⟨UA,wA,wO,rA,rO,va,vo,h1,h2,h3,h4,h5,h6,h7,h8⟩:=h;have hA:=h3.og;have k2:∀ b,b≠p+2->(w.setCell ⟨p+2,0,none⟩ (.bool u)).heap[b]?=w.heap[b]?:=fun b hb=>jk2 _ ⟨p+2,0,none⟩ _ b hb
 have g2:w.grownBy (w.setCell ⟨p+2,0,none⟩ (.bool u)) (some (p+2)):=⟨rfl,rfl,rfl,by simp [jl2],fun b _ hb=>k2 b (fun e=>hb (by rw [e]))⟩;obtain ⟨Qr,e2,r2⟩:=h3.yh (p:=p+2) (by omega) (fun h=>by have:=hok _ h;omega) g2;obtain ⟨YL,e3,r3⟩:=h4.yh (p:=p+2) (by omega) (fun h=>by have:=hok _ h;omega) g2;exact ⟨UA,Qr,YL,rA,rO,va,vo,by omega,by omega,r2,r3,(k2 p (by omega)).trans h5,(k2 (p+1) (by omega)).trans h6,aH.set h7 _,h8⟩
theorem zq {ok:Nat->Prop} {p U M:Nat} {L:List Pt} {wA w:jmj} {rA:List (List jmq)} {va u0 u1:jmq} {sm:jmq} (h1:wA.heap.size=p+3) (hok:∀ b,ok b->b<p) (h3:aC 96 2 ok U wA (L.map Pt.d) rA va w) (h5:aH p va 93 w) (h6:CB 96 (p+1) [u0,u1] w) (h7:aH (p+2) sm 4 w) (hM:p+3<=M) : qM ok p M ⟨L,⟨false,[]⟩,true⟩ w (.returned (.tuple #[])) (((w.setCell ⟨p+1,0,none⟩ (.bool false)).setCell ⟨p+1,0+1,none⟩ (.slice none 0 0)).setCell ⟨p+2,0,none⟩ (.bool true)):=by
 have hu:=h3.xG;have hu0:=h3.og;obtain ⟨w1,hw1⟩:∃ w1,w1=(w.setCell ⟨p+1,0,none⟩ (.bool false)).setCell ⟨p+1,0+1,none⟩ (.slice none 0 0):=⟨_,rfl⟩;rw [<- hw1];have k1:∀ b,b≠p+1->w1.heap[b]?=w.heap[b]?:=fun b hb=>by
  rw [hw1,jk2 _ ⟨p+1,0+1,none⟩ _ b hb,jk2 _ ⟨p+1,0,none⟩ _ b hb]
 have z1:w1.heap.size=w.heap.size:=by rw [hw1];simp [jl2]
 have g1:w.grownBy w1 (some (p+1)):=⟨by rw [hw1];rfl,by rw [hw1];rfl,by rw [hw1];rfl,by omega,fun b _ hb=>k1 b (fun e=>hb (by rw [e]))⟩;have c1:CB 96 (p+1) [.bool false,.slice none 0 0] w1:=by rw [hw1];exact dG (dG h6 0 _) 1 _
 obtain ⟨wA1,e1,r1⟩:=h3.yh (p:=p+1) (by omega) (fun h=>by have:=hok _ h;omega) g1;obtain ⟨w2,hw2⟩:∃ w2,w2=w1.setCell ⟨p+2,0,none⟩ (.bool true):=⟨_,rfl⟩;rw [<- hw2];have k2:∀ b,b≠p+2->w2.heap[b]?=w1.heap[b]?:=fun b hb=>by rw [hw2,jk2 _ ⟨p+2,0,none⟩ _ b hb]
 have z2:w2.heap.size=w1.heap.size:=by rw [hw2];simp [jl2]
 have g2:w1.grownBy w2 (some (p+2)):=⟨by rw [hw2];rfl,by rw [hw2];rfl,by rw [hw2];rfl,by omega,fun b _ hb=>k2 b (fun e=>hb (by rw [e]))⟩;have b7:aH (p+2) sm 4 w1:=(k1 (p+2) (by omega)).trans h7;obtain ⟨Qr,e2,r2⟩:=r1.yh (p:=p+2) (by omega) (fun h=>by have:=hok _ h;omega) g2;refine ⟨rfl,⟨U,Qr,w2,rA,[],va,.slice none 0 0,by omega,by omega,r2,aC.nil _ _ _ _,?_,(k2 (p+1) (by omega)).trans c1,by rw [hw2];exact b7.set _,fun _=>rfl⟩,?_,fun b hb _=>(k2 b (by omega)).trans (k1 b (by omega))⟩
 ·exact (k2 p (by omega)).trans ((k1 p (by omega)).trans h5)
 ·exact ⟨g2.os.trans g1.os,g2.tape.trans g1.tape,g2.output.trans g1.output,by omega,fun b hb=>(k2 b (by omega)).trans (k1 b (by omega))⟩
theorem uY (ok:Nat->Prop) (p M:Nat) (s:tC) (w:jmj) (hok:∀ b,ok b->b<p) (h:fG ok p M s w) (hl:s.all.length<=3000000) : Calls Tryz.prog 102 #[.pointer (some ⟨p+2,0,none⟩),.pointer (some ⟨p,0,none⟩),.pointer (some ⟨p+1,0,none⟩)] w (qM ok p M (dN s) w):=by
 have hsz:=h.sz;obtain ⟨UA,wA,wO,rA,rO,va,vo,h1,h2,h3,h4,h5,h6,h7,h8⟩:=h;obtain ⟨iP,hiP,xV,xW,xX⟩:=info_parts Vk;obtain ⟨n,hn⟩:∃ n,n=(s.all.map Pt.d).length:=⟨_,rfl⟩;obtain ⟨av,cv,rfl,-,-⟩:=h3.cap hn.symm;obtain ⟨ao,no,co,rfl⟩:=h4.SQ;have hn1:n<=3000000:=by rw [hn,jjz];exact hl
 have hz:=h3.og;have hz2:=h3.xG;obtain ⟨al,⟨ot,ob⟩,sm⟩:=s;have c0:=h5.cell;have f0:=h5.free;have d0:=h6.cell 0 _ rfl;have d1:=h6.cell 1 _ rfl;have df:=nJ h6;have b0:=h7.cell;have bf:=h7.free;have xH:Hid (∀ g,(Value.slice av n cv).ownBlock=some g->wA.heap.size<=g/\g<M):=fun g hg=>⟨(h3.own.lt g hg).1,by have:=h3.oU g hg;have:=h4.og;omega⟩
 have Px:=hid hok;have H1:=hid h1;have H2:=hid h2;have H3:=hid h3;have H4:=hid h4;have H5:=hid h5;have H6:=hid h6;have H7:=hid h7;have HN:=hid hn.symm;cases sm with
 | false=>
  have HF:Hid (qM ok p M (dN ⟨al,⟨ot,ob⟩,false⟩) w (.returned (.tuple #[])) (((w.setCell ⟨p+1,0,none⟩ (.bool false)).setCell ⟨p+1,0+1,none⟩ (.slice none 0 0)).setCell ⟨p+2,0,none⟩ (.bool true))):=zq (L:=al) h1 hok h3 h5 h6 h7 hsz.1;clear h1 h2 h3 h4 h5 h6 h7 h8 hok hn hl;go_enter Tryz.func102,Tryz.ntmps102;go_wp2
  go_end0
  exact HF.out
 | true=>
  have hx:Rd (fun b=>ok b\/UA<=b) w (Pt.d ⟨ot,ob⟩) [.bool ot,.slice ao no co]:=Pt.eu ⟨ot,ob⟩ (h4.rd.weaken (fun b hb=>hb.imp id (fun h=>jjj h2 h)));have HX:=hid hx;clear h1 h2 h3 h4 h5 h6 h7 h8 hok hn hl hx;go_enter Tryz.func102,Tryz.ntmps102;go_wp2_with (at_builtin;refine DX (n:=n) rfl _ _ 93 rfl iP _ 32 Tryz.underlying93 hiP xV xW xX rfl (by decide) H3.out (fun b hb=>by have:=Px.out b hb;have:=H1.out;omega) (Pt.d ⟨ot,ob⟩) [.bool ot,.slice ao no co] HX.out rfl (by intro u hu;simp at hu;rcases hu with rfl | rfl<;>rfl) HN.out (by omega) (by decide) rfl rfl ?_)
  intro a' c' w1 hrow hg hat;have hz1:w.heap.size<=w1.heap.size:=by have:=hg.size;simp at this;omega
  have kb:∀ b,b<p+3->w1.heap[b]?=w.heap[b]?:=fun b hb=>(hg.block b (by have:=H1.out;simp;omega) (fun e=>by have:=(xH.out b e.symm).1;have:=H1.out;omega)).trans (jk3 w _ b (by have:=H1.out;omega))
  have bx1:aH p (.slice av n cv) 93 w1:=(kb p (by omega)).trans H5.out;have cx1:CB 96 (p+1) [.bool ot,.slice ao no co] w1:=(kb (p+1) (by omega)).trans H6.out;have sx1:aH (p+2) (.bool true) 4 w1:=(kb (p+2) (by omega)).trans H7.out;obtain ⟨w2,hw2⟩:∃ w2,w2=w1.setCell ⟨p,0,none⟩ (.slice a' (n+1) c'):=⟨_,rfl⟩;have g2:w1.grownBy w2 (some p):=⟨by rw [hw2];rfl,by rw [hw2];rfl,by rw [hw2];rfl,by rw [hw2];simp [jl2],fun b _ hb=>by rw [hw2];exact jk2 w1 ⟨p,0,none⟩ _ b (fun e=>hb (by rw [e]))⟩;obtain ⟨Qr,e2,r2⟩:=hrow.yh (p:=p) (by have:=H1.out;omega) (fun h=>by have:=Px.out _ h;omega) g2;have kc:∀ b,b≠p->w2.heap[b]?=w1.heap[b]?:=fun b hb=>by rw [hw2];exact jk2 w1 ⟨p,0,none⟩ _ b hb
  have hz3:w1.heap.size<=w2.heap.size:=g2.size;have YM:=(kc (p+1) (by omega)).trans cx1;have sx2:=(kc (p+2) (by omega)).trans sx1;have HF:=zq (wA:=Qr) (L:=al++[⟨ot,ob⟩]) (by have:=H1.out;omega) Px.out (by rw [List.map_append];exact r2) (by rw [hw2];exact bx1.set _) YM sx2 hsz.1;have HFF:Hid (qM ok p M (dN ⟨al,⟨ot,ob⟩,true⟩) w (.returned (.tuple #[])) (((w2.setCell ⟨p+1,0,none⟩ (.bool false)).setCell ⟨p+1,0+1,none⟩ (.slice none 0 0)).setCell ⟨p+2,0,none⟩ (.bool true))):=by obtain ⟨f1,f2,f3,f4⟩:=HF;refine ⟨f1,f2,⟨f3.os.trans (g2.os.trans hg.os),f3.tape.trans (g2.tape.trans hg.tape),f3.output.trans (g2.output.trans hg.output),by have:=f3.size;omega,fun b hb=>((f3.block b hb).trans (kc b (by omega))).trans (kb b (by omega))⟩,fun b hb hlt=>?_⟩;refine ((f4 b hb (by omega)).trans (kc b (by omega))).trans ((hg.block b (by simp;omega) (fun e=>by have:=xH.out b e.symm;omega)).trans (jk3 w _ b hlt))
  have x0:=bx1.cell;have xf:=bx1.free;have y0:=(show CB 96 (p+1) [.bool ot,.slice ao no co] w2 from YM).cell 0 _ rfl;have y1:=(show CB 96 (p+1) [.bool ot,.slice ao no co] w2 from YM).cell 1 _ rfl;have yf:=nJ (show CB 96 (p+1) [.bool ot,.slice ao no co] w2 from YM);have s0:=(show aH (p+2) (.bool true) 4 w2 from sx2).cell;have sf:=(show aH (p+2) (.bool true) 4 w2 from sx2).free;clear hrow hg hat hz1 hsz kb bx1 cx1 sx1 g2 e2 r2 kc hz3 YM sx2 HF c0 f0 d0 d1 df b0 bf;go_upto_region 2 with (fail)
  rw [<- hw2];clear hw2 x0 xf;go_wp2
  go_end0
  exact HFF.out
open Go.RowKit
structure Yp (li:List aj):Prop where
 sz:aj.aV li<=900000
 sm:aj.aG li
 tf:aj.F5 li
theorem sG (name:ByteArray):∀ (cs:List UInt8) (l:List ah) (k:Nat) (c:UInt8) (b:ah),cs[k]?=some c->l[k]?=some b->oL name (cs.take (k+1)) (l.take (k+1))=oL name (cs.take k) (l.take k)++[SV name c b]
 | [],_,_,_,_,h,_=>by simp at h
 | _::_,[],_,_,_,_,h=>by simp at h
 | c0::cs,b0::l,0,c,b,h1,h2=>by
  simp at h1 h2;subst h1 h2;simp [oL]
 | c0::cs,b0::l,k+1,c,b,h1,h2=>by
  rw [List.take_succ_cons,List.take_succ_cons,List.take_succ_cons,List.take_succ_cons,oL,oL,sG name cs l k c b (by simpa using h1) (by simpa using h2)];rfl
theorem uZ (name:ByteArray):∀ (cs:List UInt8) (l:List ah),(oL name cs l).length<=l.length
 | [],l=>by simp [oL]
 | _::_,[]=>by simp [oL]
 | c::cs,b::l=>by rw [oL,jk0,jk0];have:=uZ name cs l;omega
def Mw (Q:Nat) (w1:jmj) (name:ByteArray) (cs:List UInt8) (ks:List ah) (vi:jmq) (wr:jmj):Prop:=
 ∃ (k:Nat) (rows:List (List jmq)) (v:jmq) (U:Nat) (wB:jmj),k<=ks.length/\vi=.int .i64 k/\wB.heap.size=Q+1/\aC 35 4 (fun _=>False) U wB ((oL name (cs.take k) (ks.take k)).map Nd.d) rows v wr /\
  CB 35 Q [.string ⟨#[116,114]⟩,.string ⟨#[]⟩,.slice none 0 0,v] wr/\jmk Q w1 wr
theorem cb4 {p:Nat} {w:jmj} {c0 c1 c2 c3:jmq} (h:CB 35 p [c0,c1,c2,c3] w):w.cell? ⟨p,0,none⟩=some c0/\w.cell? ⟨p,1,none⟩=some c1/\w.cell? ⟨p,2,none⟩=some c2/\w.cell? ⟨p,3,none⟩=some c3/\∀ j,w.frozen? ⟨p,j,none⟩=false:=
 ⟨h.cell 0 _ rfl,h.cell 1 _ rfl,h.cell 2 _ rfl,h.cell 3 _ rfl,nJ h⟩
theorem DY (k lv:Int) (i t d ti:ByteArray) (at_:At) (li:List aj) (ks:List ah) (vc vp vl vk:jmq) (name letters:ByteArray) (w:jmj) (hR:ku (·<w.heap.size) w at_ li ks vc vp vl vk) (hlen:ks.length=letters.size) (hk1:ks.length<=1000000) (hc:∀ c∈ks,Yp c.mE) : Calls Tryz.prog 174 #[.agg #[.int .i64 k,.int .i64 lv,.string i,.string t,.string d,.string ti,.string at_.id,vc,vp,vl,vk],.string name,.string letters] w (rY w (aQ xJ [] (oL name letters.data.toList ks))):=by
 obtain ⟨iN,Fb,nU,nV,nW⟩:=info_parts mq;obtain ⟨ac,nc,cc,rfl⟩:=Rd.ay hR.at_.cls
 obtain ⟨ap,np,cp,rfl⟩:=Rd.ay hR.at_.aJ
 obtain ⟨al,nl,cl,rfl⟩:=Rd.ay hR.line;obtain ⟨ak,ck,hvk,hs⟩:=Rd.aB hR.kids;obtain ⟨nk,hnk⟩:∃ nk,nk=ks.length:=⟨_,rfl⟩;obtain rfl:vk=.slice ak nk ck:=by rw [hnk];simpa using hvk
 have hcap:nk<=ck:=by have:=hs.le;rw [jjz] at this;omega
 have hmx:=hs.max;unfold maxLen at hmx;have hnl:nk=letters.size:=by rw [hnk,hlen]
 obtain ⟨S,W0,hS,hW0,z0,k0,k1,b0⟩:=qN 48 w [.int .i64 k,.int .i64 lv,.string i,.string t,.string d,.string ti,.string at_.id,.slice ac nc cc,.slice ap np cp,.slice al nl cl,.slice ak nk ck];have KX:Hid (∀ w':jmj,jmk W0.heap.size W0 w'->w'.cell? ⟨S,10,none⟩=some (.slice ak nk ck)):=fun w' hb=>(k0.below hb).cell 10 _ rfl
 have HS2:Hid (l7 (·<S) W0 11 (ks.map ah.d) ak ck):=by subst hS;exact hs.below b0
 have Cx:=hid hS;have HW0:=hid hW0;have Z0:=hid z0;have B0:=hid b0;have K1:=hid k1;have HC:=hid hc;have Ih:=hid hnk;have xI:=hid hnl;have EC:=hid (ko ⟨#[116,114]⟩ none none 0 0 0 0 W0);have Yr:nk<=1000000:=by omega
 have hls:letters.size<=1000000:=by omega
 clear hR hvk hs hnk hnl hlen hS hW0 z0 k0 k1 b0 hc hk1;go_enter Tryz.func174,Tryz.ntmps174;go_upto_region 1 with (fail)
 rw [<- Cx.out];have hk0:=HW0.out;simp only [jI] at hk0;rw [<- hk0];clear hk0;go_wp2_with fail
 (with_reducible refine EC.out.mono ?_)
 rintro e w1 ⟨rfl,b1⟩;go_upto_region 2 with (fail)
 obtain ⟨Q,hQ⟩:∃ Q,Q=w1.heap.size:=⟨_,rfl⟩;obtain ⟨wQ,Vl⟩:∃ wQ,wQ=w1.alloc (.cells #[.string ⟨#[116,114]⟩,.string ⟨#[]⟩,.slice none 0 0,.slice none 0 0] 35):=⟨_,rfl⟩;have zQ:wQ.heap.size=Q+1:=by rw [Vl,hQ];simp
 have kQ:CB 35 Q [.string ⟨#[116,114]⟩,.string ⟨#[]⟩,.slice none 0 0,.slice none 0 0] wQ:=by rw [Vl,hQ];exact CB.new _ _ w1
 have bQ:jmk Q w1 wQ:=by rw [Vl,hQ];exact (jj8 _ _).alloc (jj9 _) _
 have hWQ:W0.heap.size<=Q:=by rw [hQ];exact b1.size
 have R0:Hid (Mw Q w1 name letters.data.toList ks (.int .i64 0) wQ):=⟨0,[],_,Q+1,wQ,Nat.zero_le _,rfl,zQ,by rw [<- zQ];exact aC.nil _ _ _ _,kQ,bQ⟩;have B1:=hid b1;have g10:=KX.out wQ (b1.trans (bQ.mono hWQ));rw [<- Vl,<- hQ];clear Vl zQ kQ bQ b1 EC hQ;go_wp2
 go_loopw [15] (fun vi wr=>Mw Q w1 name letters.data.toList ks vi wr) (fun i _=>nk-(intOf i).toNat)
 case atStart=>exact R0.out
 case round=>
  clear R0 g10;obtain ⟨j,rows,v,U,wB,hj,rfl,SI,hrow,hcb,hbel⟩:=hrel;obtain ⟨ds,hds⟩:∃ ds,ds=(oL name (letters.data.toList.take j) (ks.take j)).map Nd.d:=⟨_,rfl⟩;rw [<- hds] at hrow;obtain ⟨m,hm⟩:∃ m,m=ds.length:=⟨_,rfl⟩;have hmj:m<=1000000:=by have h:=uZ name (letters.data.toList.take j) (ks.take j);have h2:(ks.take j).length<=ks.length:=List.length_take_le' _ _;rw [hm,hds,jjz];have:=Ih.out;omega
  obtain ⟨av,cv,rfl,-,-⟩:=hrow.cap hm.symm;have HM:=hid hm.symm;have Fa:=hid hds;have bX:=hid hrow;have Py:=hid hcb;have Cv:=hid SI;have dB:=hid hbel;have hUr:=hrow.xG;have hQU:Q+1<=U:=by have:=hrow.og;omega
  clear hrow hcb hm hds SI hbel;by_cases hlt:j<nk
  ·obtain ⟨y,hy⟩:∃ y,ks[j]?=some y:=⟨_,jj7 (by have:=Ih.out;omega)⟩;have hjs:j<letters.size:=by have:=xI.out;omega
   obtain ⟨c,hcx⟩:∃ c,letters.data.toList[j]?=some c:=⟨_,jj7 (by simpa using hjs)⟩;have hsn:=sG name _ _ _ _ _ hcx hy;have hlw:=HC.out y (jk5 hy);obtain ⟨yk,Ii,yi,yt,yd,Ij,FQ,JQ,Ik⟩:=y;have hlw:Yp JQ:=hlw;obtain ⟨g,off,vc,vp,vl,vk,rfl,hok,hbl,hc,hR⟩:=FR HS2.out hy;have Vm:jmk S W0 wr:=((jj8 _ _).trans (B1.out.mono (by have:=Z0.out;omega))).trans (dB.out.mono (by have:=Z0.out;omega));obtain ⟨c0,c1,c2,c3,c4,c5,c6,c7,c8,c9,c10⟩:=hc.at2 (w':=wr) (Vm.block g hok);obtain ⟨L9,Ma,Mc,rfl⟩:=Rd.ay hR.at_.cls
   obtain ⟨Md,Me,Mf,rfl⟩:=Rd.ay hR.at_.aJ
   obtain ⟨Co,Cq,Cr,rfl⟩:=Rd.ay hR.line;obtain ⟨Mg,Mh,Mi,rfl⟩:=Rd.ay hR.kids;have HLI:Hid (Rd (·<S) W0 (aY JQ) [.slice Co Cq Cr]):=hR.line;have HLW:=hid hlw;have xC:=hid (show (oL name (letters.data.toList.take (j+1)) (ks.take (j+1))).map Nd.d=ds++[(aQ name (jG yj (fO c)) (jZ JQ)).d] by rw [hsn,List.map_append,Fa.out];rfl);have HCX:=hid hcx;have jcx:=hid Vm;have hlet:(letters[j]'hjs)=c:=by have h:=hcx;rw [jj7 (by simpa using hjs)] at h;exact Option.some.inj h
   have t7:(j:Int)<(letters.size:Int):=by omega
   clear hc hok hbl hR hsn hlw hy hcx Vm;go_upto_region 5 with (fail)
   obtain ⟨p,hp⟩:∃ p,p=wr.heap.size:=⟨_,rfl⟩;obtain ⟨wA,iF⟩:∃ wA,wA=wr.alloc (.cells #[.int .i64 yk,.int .i64 Ii,.string yi,.string yt,.string yd,.string Ij,.string FQ.id,.slice L9 Ma Mc,.slice Md Me Mf,.slice Co Cq Cr,.slice Mg Mh Mi] 48):=⟨_,rfl⟩;have PA:CB 48 p [.int .i64 yk,.int .i64 Ii,.string yi,.string yt,.string yd,.string Ij,.string FQ.id,.slice L9 Ma Mc,.slice Md Me Mf,.slice Co Cq Cr,.slice Mg Mh Mi] wA:=by rw [iF,hp];exact CB.new _ _ wr
   have bA:jmk wr.heap.size wr wA:=by rw [iF];exact (jj8 _ _).alloc (jj9 _) _
   have zA:wA.heap.size=p+1:=by rw [iF,hp];simp
   rw [<- iF,<- hp];have hpr:wr.heap.size<=p:=by omega
   have hzA:wr.heap.size+1<=wA.heap.size:=by omega
   have hzp:p+1<=wA.heap.size:=by omega
   have hSW:S+2<=W0.heap.size:=Nat.le_of_eq Z0.out.symm;have BA:=hid bA;have HPA:=hid PA;have ZA:=hid zA;clear iF hp c0 c1 c2 c3 c4 c5 c6 c7 c8 c9 c10 PA bA zA;have q7:letters[j]?=some c:=by rw [<- hlet];exact getElem?_pos letters j hjs
   apply YN (α1:=jmj) (α2:=Option Addr) (α3:=Nat) (α4:=Nat) (α5:=Nat->jmq) (R:=fun w2 a2 n2 c2 f=>Hid (jmk wA.heap.size wA w2)/\Hid (Rd (wA.heap.size<=·) w2 (bS (jG yj (fO c))) [.slice a2 n2 c2]));case hm=>
    intro REST;go_upto_region 7 with (fail)
    by_cases Mx:c=108
    ·have q1:((c.toNat:Int)==108)=true:=by rw [Mx];rfl
     have hal:jG yj (fO c)=[⟨yj,⟨#[108,101,102,116]⟩⟩]:=by rw [Mx];rfl
     have PC:Hid (Calls Tryz.prog 41 #[.slice (some ⟨wA.heap.size,0,none⟩) 2 2] (wA.alloc (.cells #[.string ⟨#[97,108,105,103,110]⟩,.string ⟨#[108,101,102,116]⟩] 9)) (bJ (wA.alloc (.cells #[.string ⟨#[97,108,105,103,110]⟩,.string ⟨#[108,101,102,116]⟩] 9)) [⟨yj,⟨#[108,101,102,116]⟩⟩])):=P9 yj ⟨#[108,101,102,116]⟩ wA;go_wp2_with fail
     (with_reducible refine PC.out.mono ?_)
     rintro e w2 ⟨bR,v2,rfl,hrow2⟩;obtain ⟨a2,n2,c2,rfl⟩:=hrow2.slice3;have bl:jmk wA.heap.size wA (wA.alloc (.cells #[.string ⟨#[97,108,105,103,110]⟩,.string ⟨#[108,101,102,116]⟩] 9)):=(jj8 _ _).alloc (jj9 _) _;have PR:=hid (show Rd (wA.heap.size<=·) w2 (bS (jG yj (fO c))) [.slice a2 n2 c2] by rw [hal];exact hrow2.fu.weaken (fun b hb=>jjj bl.size hb));have B2:=hid (bl.trans (hrow2.aP.mono bl.size));clear hrow2 bl PC hal;go_upto_region 13 with (fail)
     refine nM [22,23,24,25,26,27,28,29,30,31,32,33,34] (fun f=>?_);simp only [List.foldl_cons,List.foldl_nil,jj6,jj5];exact REST w2 a2 n2 c2 f ⟨B2,PR⟩
    by_cases Xw:c=99
    ·have jcz:((c.toNat:Int)==108)=false:=by rw [Xw];rfl
     have q1:((c.toNat:Int)==99)=true:=by rw [Xw];rfl
     have hal:jG yj (fO c)=[⟨yj,⟨#[99,101,110,116,101,114]⟩⟩]:=by rw [Xw];rfl
     have PC:Hid (Calls Tryz.prog 41 #[.slice (some ⟨wA.heap.size,0,none⟩) 2 2] (wA.alloc (.cells #[.string ⟨#[97,108,105,103,110]⟩,.string ⟨#[99,101,110,116,101,114]⟩] 9)) (bJ (wA.alloc (.cells #[.string ⟨#[97,108,105,103,110]⟩,.string ⟨#[99,101,110,116,101,114]⟩] 9)) [⟨yj,⟨#[99,101,110,116,101,114]⟩⟩])):=P9 yj ⟨#[99,101,110,116,101,114]⟩ wA;go_wp2_with fail
     (with_reducible refine PC.out.mono ?_)
     rintro e w2 ⟨bR,v2,rfl,hrow2⟩;obtain ⟨a2,n2,c2,rfl⟩:=hrow2.slice3;have bl:jmk wA.heap.size wA (wA.alloc (.cells #[.string ⟨#[97,108,105,103,110]⟩,.string ⟨#[99,101,110,116,101,114]⟩] 9)):=(jj8 _ _).alloc (jj9 _) _;have PR:=hid (show Rd (wA.heap.size<=·) w2 (bS (jG yj (fO c))) [.slice a2 n2 c2] by rw [hal];exact hrow2.fu.weaken (fun b hb=>jjj bl.size hb));have B2:=hid (bl.trans (hrow2.aP.mono bl.size));clear hrow2 bl PC hal;go_upto_region 13 with (fail)
     refine nM [22,23,24,25,26,27,28,29,30,31,32,33,34] (fun f=>?_);simp only [List.foldl_cons,List.foldl_nil,jj6,jj5];exact REST w2 a2 n2 c2 f ⟨B2,PR⟩
    by_cases Ga:c=114
    ·have q99:((c.toNat:Int)==99)=false:=by rw [Ga];rfl
     have jcz:((c.toNat:Int)==108)=false:=by rw [Ga];rfl
     have q1:((c.toNat:Int)==114)=true:=by rw [Ga];rfl
     have hal:jG yj (fO c)=[⟨yj,⟨#[114,105,103,104,116]⟩⟩]:=by rw [Ga];rfl
     have PC:Hid (Calls Tryz.prog 41 #[.slice (some ⟨wA.heap.size,0,none⟩) 2 2] (wA.alloc (.cells #[.string ⟨#[97,108,105,103,110]⟩,.string ⟨#[114,105,103,104,116]⟩] 9)) (bJ (wA.alloc (.cells #[.string ⟨#[97,108,105,103,110]⟩,.string ⟨#[114,105,103,104,116]⟩] 9)) [⟨yj,⟨#[114,105,103,104,116]⟩⟩])):=P9 yj ⟨#[114,105,103,104,116]⟩ wA;go_wp2_with fail
     (with_reducible refine PC.out.mono ?_)
     rintro e w2 ⟨bR,v2,rfl,hrow2⟩;obtain ⟨a2,n2,c2,rfl⟩:=hrow2.slice3;have bl:jmk wA.heap.size wA (wA.alloc (.cells #[.string ⟨#[97,108,105,103,110]⟩,.string ⟨#[114,105,103,104,116]⟩] 9)):=(jj8 _ _).alloc (jj9 _) _;have PR:=hid (show Rd (wA.heap.size<=·) w2 (bS (jG yj (fO c))) [.slice a2 n2 c2] by rw [hal];exact hrow2.fu.weaken (fun b hb=>jjj bl.size hb));have B2:=hid (bl.trans (hrow2.aP.mono bl.size));clear hrow2 bl PC hal;go_upto_region 13 with (fail)
     refine nM [22,23,24,25,26,27,28,29,30,31,32,33,34] (fun f=>?_);simp only [List.foldl_cons,List.foldl_nil,jj6,jj5];exact REST w2 a2 n2 c2 f ⟨B2,PR⟩
    have q1:((c.toNat:Int)==108)=false:=by rw [beq_eq_false_iff_ne];intro h;exact Mx (UInt8.toNat_inj.1 (show c.toNat=108 by omega))
    have q2:((c.toNat:Int)==99)=false:=by rw [beq_eq_false_iff_ne];intro h;exact Xw (UInt8.toNat_inj.1 (show c.toNat=99 by omega))
    have q3:((c.toNat:Int)==114)=false:=by rw [beq_eq_false_iff_ne];intro h;exact Ga (UInt8.toNat_inj.1 (show c.toNat=114 by omega))
    have hal:fO c=⟨#[]⟩:=by unfold fO;rw [if_neg Mx,if_neg Xw,if_neg Ga]
    have PR:Hid (Rd (wA.heap.size<=·) wA (bS (jG yj (fO c))) [.slice none 0 0]):=by rw [hal];exact Rd.aF _ _ _
    clear Mx Xw Ga hal;go_upto_region 13 with (fail)
    refine nM [22,23,24,25,26,27,28,29,30,31,32,33,34] (fun f=>?_);simp only [List.foldl_cons,List.foldl_nil,jj6,jj5];exact REST wA none 0 0 f ⟨jj8 _ _,PR⟩
   case hr=>
    intro w2 a2 n2 c2 f ⟨B2,PR⟩;have U2:=hid ((bX.out.below BA.out).below B2.out);have CQ2:=hid ((Py.out.below BA.out).below B2.out);have Lj:=hid (HPA.out.below B2.out);have hz2:=B2.out.size;have LC:=hid (yY 900000 JQ (.slice Co Cq Cr) w2.drew HLW.out.sz (by decide) (Rd.keep (w:=W0) (w':=w2.drew) (ok:=(·<S)) (fun b (hb:b<S) hlt=>⟨by show b<w2.heap.size;have:=Z0.out;omega,(show w2.heap[b]?=W0.heap[b]? from (B2.out.block b (by have:=Z0.out;omega)).trans ((BA.out.block b (by have:=Z0.out;omega)).trans (jcx.out.block b hb)))⟩) _ _ HLI.out) HLW.out.sm HLW.out.tf);have S0:w2.drew.cell? ⟨Q,3,none⟩=some (.slice av m cv)/\w2.drew.cell? ⟨p,9,none⟩=some (.slice Co Cq Cr):=⟨CQ2.out.cell 3 _ rfl,Lj.out.cell 9 _ rfl⟩;refine mH 11 (fun w'=>w'.cell? ⟨Q,3,none⟩=some (.slice av m cv)/\w'.cell? ⟨p,9,none⟩=some (.slice Co Cq Cr)) (by kernel_rfl) S0 ?_;intro hH;refine Pq 0 (v:=?_) rfl (by kernel_rfl) hH (by rfl) ?_ ?_;rotate_left
    ·(intro wv hSw;(try dsimp only at hSw);go_simp;try with_reducible rfl)
    try simp only [Act.put,jj4,jj5,jj6]
    refine Pq 1 (v:=?_) rfl (by kernel_rfl) hH (by rfl) ?_ ?_;rotate_left
    ·(intro wv hSw;(try dsimp only at hSw);go_simp;try with_reducible rfl)
    try simp only [Act.put,jj4,jj5,jj6]
    refine Pq 2 (v:=?_) rfl (by kernel_rfl) hH (by rfl) ?_ ?_;rotate_left
    ·(intro wv hSw;(try dsimp only at hSw);go_simp;try with_reducible rfl)
    try simp only [Act.put,jj4,jj5,jj6]
    refine Pq 3 (v:=?_) rfl (by kernel_rfl) hH (by rfl) ?_ ?_;rotate_left
    ·(intro wv hSw;(try dsimp only at hSw);go_simp;try with_reducible rfl)
    try simp only [Act.put,jj4,jj5,jj6]
    refine Pq 4 (v:=?_) rfl (by kernel_rfl) hH (by rfl) ?_ ?_;rotate_left
    ·(intro wv hSw;(try dsimp only at hSw);go_simp;try with_reducible rfl)
    try simp only [Act.put,jj4,jj5,jj6]
    refine Pq 5 (v:=?_) rfl (by kernel_rfl) hH (by rfl) ?_ ?_;rotate_left
    ·(intro wv hSw;(try dsimp only at hSw);go_simp;try with_reducible rfl)
    try simp only [Act.put,jj4,jj5,jj6]
    refine FY (i:=6) rfl (by kernel_rfl) (fun KQ hK=>?_);go_simp;go_at_call 78
    (with_reducible refine LC.out.mono ?_)
    rintro e w3 ⟨gD,v3,rfl,hrow3⟩;obtain ⟨a3,n3,c3,rfl⟩:=hrow3.slice3;have b3:jmk w2.heap.size w2 w3:=((jj8 _ _).drew).trans hrow3.aP;have B3:=hid b3;have KS3:=hid (show Rd (w2.heap.size<=·) w3 (cZ (jZ JQ)) [.slice a3 n3 c3] from hrow3.fu);have Q3:=CQ2.out.below b3;have P3:=Lj.out.below b3;have S3:w3.cell? ⟨Q,3,none⟩=some (.slice av m cv)/\w3.cell? ⟨p,9,none⟩=some (.slice Co Cq Cr):=⟨Q3.cell 3 _ rfl,P3.cell 9 _ rfl⟩;have U3:=hid (U2.out.below b3);have Cy:=hid Q3;have Fe:=hid P3;have EC:=hid (ko name a2 a3 n2 n3 c2 c3 w3);clear hrow3 b3 Q3 P3 LC U2;refine hK.out _ _ (fun _=>S3) (fun hH2=>?_);clear hK KQ hH;have hH:=hH2 (by decide);clear hH2;try simp only [Act.put,jj4,jj5,jj6]
    refine FY (i:=7) rfl (by kernel_rfl) (fun KQ hK=>?_);go_simp;go_at_call 40
    (with_reducible refine EC.out.mono ?_)
    rintro e w4 ⟨rfl,b4⟩;have B4:=hid (aR B3.out b4);have U4:=hid (U3.out.below b4);have Q4:=Cy.out.below b4;have P4:=Fe.out.below b4;have S4:w4.cell? ⟨Q,3,none⟩=some (.slice av m cv)/\w4.cell? ⟨p,9,none⟩=some (.slice Co Cq Cr):=⟨Q4.cell 3 _ rfl,P4.cell 9 _ rfl⟩;have SY:=hid Q4;have Vn:=hid P4;have hz4:=B4.out.size;have XD:=hid (show Rd (fun b=>False\/U<=b) w4 (aQ name (jG yj (fO c)) (jZ JQ)).d [.string name,.string ⟨#[]⟩,.slice a2 n2 c2,.slice a3 n3 c3] from Nd.eu name ⟨#[]⟩ ⟨Rd.weaken ((PR.out.aZ B3.out).aZ b4) (fun b hb=>.inr (by omega)),Rd.weaken (KS3.out.aZ b4) (fun b hb=>.inr (by omega))⟩);clear b4 Q4 P4 EC U3 KS3 Cy Fe;refine hK.out _ _ (fun _=>S4) (fun hH2=>?_);clear hK KQ hH;have hH:=hH2 (by decide);clear hH2;try simp only [Act.put,jj4,jj5,jj6]
    refine FY (i:=8) rfl (by kernel_rfl) (fun KQ hK=>?_);go_simp;refine hK.out _ _ (fun _=>⟨past S4.1 _,past S4.2 _⟩) (fun hH2=>?_);clear hK KQ hH;have hH:=hH2 (by decide);clear hH2;try simp only [Act.put,jj4,jj5,jj6]
    refine FY (i:=9) rfl (by kernel_rfl) (fun KQ hK=>?_);refine uN rfl (.tmp 36) (.tmp 43) 28 rfl iN _ 80 Tryz.underlying28 Fb nU nV nW rfl (by decide) U4.out (fun _=>False.elim) (aQ name (jG yj (fO c)) (jZ JQ)).d [.string name,.string ⟨#[]⟩,.slice a2 n2 c2,.slice a3 n3 c3] XD.out rfl jJ HM.out (by omega) (by decide) rfl rfl ?_;intro a5 c5 w5 bM hg5;have hz5:w4.heap.size+1<=w5.heap.size:=by have h:=hg5.size;simp at h;exact h
    have hvQ:some Q≠(Value.slice av m cv).ownBlock:=fun e=>by have:=(U4.out.own.lt Q e.symm).1;have:=Cv.out;omega
    have hvp:some p≠(Value.slice av m cv).ownBlock:=fun e=>by have:=U4.out.oU p e.symm;omega
    have q5:CB 35 Q [.string ⟨#[116,114]⟩,.string ⟨#[]⟩,.slice none 0 0,.slice av m cv] w5:=(hg5.block Q (by simp;omega) hvQ).trans ((jk3 w4 _ Q SY.out.lt).trans SY.out);have p5:CB 48 p [.int .i64 yk,.int .i64 Ii,.string yi,.string yt,.string yd,.string Ij,.string FQ.id,.slice L9 Ma Mc,.slice Md Me Mf,.slice Co Cq Cr,.slice Mg Mh Mi] w5:=(hg5.block p (by simp;omega) hvp).trans ((jk3 w4 _ p Vn.out.lt).trans Vn.out);have S5:w5.cell? ⟨Q,3,none⟩=some (.slice av m cv)/\w5.cell? ⟨p,9,none⟩=some (.slice Co Cq Cr):=⟨q5.cell 3 _ rfl,p5.cell 9 _ rfl⟩;have fz:=nJ q5;have e3:=q5.cell 3 _ rfl;have HQ5:=hid q5;have U5:=hid bM;have SK:=hid hg5;clear bM hg5 q5 p5 hvp XD;refine hK.out _ _ (fun _=>S5) (fun hH2=>?_);clear hK KQ hH;have hH:=hH2 (by decide);clear hH2;try simp only [Act.put,jj4,jj5,jj6]
    refine FY (i:=10) rfl (by kernel_rfl) (fun KQ hK=>?_);go_simp;refine hK.out _ _ (fun _=>S5) (fun hH2=>?_);clear hK KQ hH;have hH:=hH2 (by decide);clear hH2;try simp only [Act.put,jj4,jj5,jj6]
    refine FY (i:=11) rfl (by kernel_rfl) (fun KQ hK=>?_);go_simp;refine hK.out _ _ (fun h=>absurd rfl h) (fun _=>?_);clear hK KQ;refine mI (by kernel_rfl) ?_ _;obtain ⟨w6,iJ⟩:∃ w6,w6=w5.setCell ⟨Q,3,none⟩ (.slice a5 (m+1) c5):=⟨_,rfl⟩;rw [<- iJ];have g6:w5.grownBy w6 (some Q):=by rw [iJ];exact ⟨rfl,rfl,rfl,by simp [jl2],fun b _ hb=>jk2 w5 ⟨Q,3,none⟩ _ b (fun e=>hb (by rw [e]))⟩
    have q6:CB 35 Q [.string ⟨#[116,114]⟩,.string ⟨#[]⟩,.slice none 0 0,.slice a5 (m+1) c5] w6:=by rw [iJ];exact dG HQ5.out 3 _
    have Vh:w6.heap.size=w5.heap.size:=by rw [iJ];simp [jl2]
    obtain ⟨wB6,hB6,pV⟩:=U5.out.hop2 (p:=Q) (by have:=Cv.out;omega) g6;have HF:Hid (Mw Q w1 name letters.data.toList ks (.int .i64 ((j+1:Nat):Int)) w6):=by
     have h1:=pV.up (U':=w6.heap.size) (by omega) (jj9 _);rw [<- xC.out] at h1;refine ⟨j+1,_,_,w6.heap.size,wB6,by have:=Ih.out;omega,rfl,hB6.trans Cv.out,h1,q6,?_⟩;have Vl:Q<=wr.heap.size:=by omega
     refine dB.out.trans ((BA.out.mono Vl).trans ((B2.out.mono (by have:=BA.out.size;omega)).trans ((B4.out.mono (by omega)).trans ?_)));exact ((jj8 _ _).alloc (by omega) _ |>.grown SK.out (by simp;omega) (fun g hg=>by have:=(U4.out.own.lt g hg).1;have:=Cv.out;omega)).trans ((jj8 Q w5).grown g6 (by omega) (fun g hg=>by have:=Option.some.inj hg;omega))
    clear iJ g6 q6 pV hB6 U5 SK HQ5 hH S0 S3 S4 S5 fz e3 hvQ;go_wp2;go_roundw;case rel=>exact HF.out
    case measure=>simp [intOf];omega
  ·have hkl:j=nk:=by have:=Ih.out;omega
   have hjk:j=ks.length:=by have:=Ih.out;omega
   have hll:letters.data.toList.length=letters.size:=by simp
   have YO:Hid (kU (W0.heap.size<=·) wr [] (oL name letters.data.toList ks) (.slice none 0 0) (.slice av m cv)):=by have h:=bX.out.fu;rw [Fa.out,jkk (by rw [hll];have:=xI.out;omega),jkk (by omega)] at h;exact ⟨Rd.aF _ _ _,h.weaken (fun b hb=>by have:=Cv.out;omega)⟩
   have BL:=hid (B1.out.trans (dB.out.mono hWQ));obtain ⟨x0,x1,x2,x3,xf⟩:=pJ (K1.out.below BL.out);obtain ⟨y0,y1,y2,y3,-⟩:=cb4 Py.out;clear hll hjk;go_upto_region 15 with (fail)
   obtain ⟨w9,bO⟩:∃ w9,w9=four wr (S+1) (.string ⟨#[116,114]⟩) (.string ⟨#[]⟩) (.slice none 0 0) (.slice av m cv):=⟨_,rfl⟩;have hf:=fA ⟨#[116,114]⟩ ⟨#[]⟩ [] (oL name letters.data.toList ks) Cx.out Z0.out B0.out K1.out BL.out YO.out;rw [<- bO] at hf;have iW:=hid hf.1;have Ba:=hid hf.2;clear hf;have hw8:=bO;simp only [four] at hw8;clear bO;go_wp2;rw [<- hw8];have r0:=iW.out.cell 0 _ rfl;have r1:=iW.out.cell 1 _ rfl;have r2:=iW.out.cell 2 _ rfl;have r3:=iW.out.cell 3 _ rfl;exact bodyPost_ret (v:=.agg #[.string ⟨#[116,114]⟩,.string ⟨#[]⟩,.slice none 0 0,.slice av m cv]) (by simp [results,Tryz.results174,go_sem,r0,r1,r2,r3]) rfl Ba.out
end Go.Proofs.YtkfnkeflalcphaaGreatDoor

