/- Contract of html.line: the nodes of inlines. Contracts of publisherref34.some, element, texts, attrs, joined. Contract of publisherref34.joined: neighbouring texts are joined. Contracts of slides.block.title, begins and of the function finish of slides.parts. Contract of html.row: the node of a row of a table. -/
import Derived.Test.YtkfnkeflalcphaaGreatDoorKHtX
import Derived.Test.YtkfnkeflalcphaaGreatDoorKHtF
import Derived.Test.YtkfnkeflalcphaaGreatDoorKScB
set_option maxHeartbeats 8000000
set_option maxRecDepth 100000
open Go.Lib (hid)
namespace Go.Proofs.YtkfnkeflalcphaaGreatDoor
open List renaming setIfInBounds_toArray->jk2,set_cons_zero->jk3,set_cons_succ->jk4,getElem?_eq_getElem->jk5,length_append->jkk,length_map->jkq,length_cons->jkx,mem_of_getElem?->jl3,take_of_length_le->jl9
open Go.RowKit.Below renaming refl->jk6,heap_setCell->jl0,heap_alloc->jl1
open Nat renaming le_refl->jk7,le_trans->jk8
open Go.World renaming cell?->jlz,setCell->jm0
open Go renaming World->jn8,Value->jnj
open Go.RowKit renaming Below->jn9
open Go.RowKit
set_option linter.unusedVariables false
set_option linter.unusedSimpArgs false
theorem YZ (x:aj) (h:x.small):x.nd.tx.size<=300:=by
 obtain ⟨k,t,d,ti,a,ar,ci,ks⟩:=x;rw [aj.small] at h;have h1:=h.1;have e0:(⟨#[]⟩:ByteArray).size=0:=rfl;have e1:Vi.size=1:=rfl;rw [aj.nd];have key:∀ (c:Prop) [Decidable c] (a b:Nd),a.tx.size<=300->b.tx.size<=300->(if c then a else b).tx.size<=300:=by
  intro c _ a b h1 h2;split
  ·exact h1
  ·exact h2
 have el:∀ (n:ByteArray) (a:List Pr) (ks:List Nd),(aP n a ks).tx.size<=300:=fun _ _ _=>by show (⟨#[]⟩:ByteArray).size<=300;omega
 refine key _ _ _ (by show Vi.size<=300;omega) ?_;refine key _ _ _ (el _ _ _) (key _ _ _ (el _ _ _) (key _ _ _ (el _ _ _) (key _ _ _ (el _ _ _) (key _ _ _ (el _ _ _) (key _ _ _ (el _ _ _) (key _ _ _ (el _ _ _) (key _ _ _ (el _ _ _) (key _ _ _ (el _ _ _) (key _ _ _ (el _ _ _) (key _ _ _ (el _ _ _) h1))))))))))
theorem aj.oL:∀ (l:List aj),aj.aF l->∀ x∈l,x.small
 | [],_,x,hx=>by cases hx
 | y::l,h,x,hx=>by
  rw [aj.aF] at h;rcases List.mem_cons.1 hx with rfl | hx
  ·exact h.1
  ·exact aj.oL l h.2 x hx
theorem DX:∀ (l:List Nd) (p:List Nd × ByteArray),(l.foldl dW p).1.length<=p.1.length+2*l.length
 | [],p=>by simp
 | x::l,p=>by
  have h:=DX l (dW p x);have h2:(dW p x).1.length<=p.1.length+2:=by
   unfold dW;split
   ·show p.1.length<=_;omega
   ·show (p.1++bS p.2++[x]).length<=_;rw [jkk,jkk];have:(bS p.2).length<=1:=by unfold bS;split<;>simp
    simp;omega
  rw [List.foldl_cons,jkx];omega
theorem IG:∀ (l:List Nd) (p:List Nd × ByteArray),(∀ x∈l,x.tx.size<=300)->(l.foldl dW p).2.size<=p.2.size+300*l.length
 | [],p,_=>by simp
 | x::l,p,hx=>by
  have h:=IG l (dW p x) (fun y hy=>hx y (List.mem_cons_of_mem _ hy));have h1:=hx x (List.mem_cons_self ..);have h2:(dW p x).2.size<=p.2.size+300:=by
   unfold dW;split
   ·show (p.2++x.tx).size<=_;rw [ByteArray.size_append];omega
   ·show (⟨#[]⟩:ByteArray).size<=_;have:(⟨#[]⟩:ByteArray).size=0:=rfl;omega
  rw [List.foldl_cons,jkx];omega
theorem Gb (l:List Nd) (k:Nat) (x:Nd) (h:l[k]?=some x):gy (l.take (k+1))=dW (gy (l.take k)) x:=by rw [List.take_add_one,h];exact Gc _ _
theorem Ba (a b:ByteArray):Lib.strCells (a++b)=Lib.strCells a++Lib.strCells b:=by unfold Lib.strCells;rw [ByteArray.data_append];simp
def q1z (w:jn8) (g o:Nat) (c0 c1 c2 c3:jnj):jn8:=(((w.setCell ⟨g,o,none⟩ c0).setCell ⟨g,o+1,none⟩ c1).setCell ⟨g,o+2,none⟩ c2).setCell ⟨g,o+3,none⟩ c3
theorem gN (w:jn8) (g o:Nat) (c0 c1 c2 c3:jnj) (b:Nat) (h:b≠g):(q1z w g o c0 c1 c2 c3).heap[b]?=w.heap[b]?:=by unfold q1z;rw [jl0 _ ⟨g,o+3,none⟩ _ b h,jl0 _ ⟨g,o+2,none⟩ _ b h,jl0 _ ⟨g,o+1,none⟩ _ b h,jl0 _ ⟨g,o,none⟩ _ b h]
theorem jI (w:jn8) (b b' o o':Nat) (u v:jnj) (h:b≠b'):(w.setCell ⟨b,o,none⟩ u).setCell ⟨b',o',none⟩ v=(w.setCell ⟨b',o',none⟩ v).setCell ⟨b,o,none⟩ u:=by
 unfold jm0;simp only [World.mk.injEq,and_true];apply Array.ext_getElem?;intro i;simp only [Array.getElem?_modify];by_cases h1:b=i
 ·subst h1;have hb:¬ b'=b:=fun e=>h e.symm
  simp [hb]
 ·simp [h1]
theorem nN (w:jn8) (S g o:Nat) (V c0 c1 c2 c3:jnj) (h:S≠g):q1z (w.setCell ⟨S,0,none⟩ V) g o c0 c1 c2 c3=(q1z w g o c0 c1 c2 c3).setCell ⟨S,0,none⟩ V:=by unfold q1z;rw [jI w S g,jI _ S g,jI _ S g,jI _ S g]<;>exact h
theorem Te {w:jn8} {g o:Nat} {c0 c1 c2 c3:jnj} {b j:Nat} {v:jnj} (h:w.cell? ⟨b,j,none⟩=some v) (hb:b≠g):(q1z w g o c0 c1 c2 c3).cell? ⟨b,j,none⟩=some v:=by rw [gH (gN w g o c0 c1 c2 c3 b hb)];exact h
section
variable {T:TypeId} {U:Nat} {ok:Nat->Prop} {w0 w:jn8} {ds:List D} {rows:List (List jnj)} {v:jnj}
theorem aB.Tf {g n c:Nat} {d0 d1:D} {a0 a1 a2 a3:jnj} (h:aB T 4 ok U w0 (ds++[d0]) (rows++[[a0,a1,a2,a3]]) (.slice (some ⟨g,0,none⟩) (n+1) c) w) (hn:ds.length=n) (c0 c1 c2 c3:jnj) (hd:Rd (fun b=>(ok b\/w0.heap.size<=b)/\g≠b/\b<U) w d1 [c0,c1,c2,c3]):aB T 4 ok U w0 (ds++[d1]) (rows++[[c0,c1,c2,c3]]) (.slice (some ⟨g,0,none⟩) (n+1) c) (q1z w g (n*4) c0 c1 c2 c3):=by
 have hl:rows.length=n:=by have:=h.red.len;simp at this;omega
 have hfl:rows.flatten.length=n*4:=by rw [gY 4 rows (fun r hr=>h.len r (by simp [hr])),hl]
 have hown:=h.own;have e1:(rows++[[a0,a1,a2,a3]]).flatten=rows.flatten++[a0,a1,a2,a3]:=by simp
 rw [e1,jkk,List.length_singleton,hn] at hown;have st:∀ (W:jn8) (zs:List jnj),W.ownsRow w0.heap.size T 4 (.slice (some ⟨g,0,none⟩) (n+1) c) (n+1) (rows.flatten++zs)->∀ (j:Nat) (u:jnj),(W.setCell ⟨g,n*4+j,none⟩ u).ownsRow w0.heap.size T 4 (.slice (some ⟨g,0,none⟩) (n+1) c) (n+1) (rows.flatten++zs.set j u):=by intro W zs hW j u;have:=(hW.stored (n*4+j) u).1;rw [List.set_append_right _ _ (by omega),hfl,Nat.add_sub_cancel_left] at this;exact this
 have o4:=st _ _ (st _ _ (st _ _ (st _ _ hown 0 c0) 1 c1) 2 c2) 3 c3;have hb:∀ b,b≠g->(q1z w g (n*4) c0 c1 c2 c3).heap[b]?=w.heap[b]?:=fun b hb=>gN w g _ _ _ _ _ b hb
 have hz:(q1z w g (n*4) c0 c1 c2 c3).heap.size=w.heap.size:=by simp [q1z,jm0]
 have hg0:w0.heap.size<=g:=(h.own.lt g rfl).1;refine ⟨?_,?_,?_,?_,h.oU,h.lX,by rw [hz];exact h.tK⟩
 ·rw [show (rows++[[c0,c1,c2,c3]]).flatten=rows.flatten++[c0,c1,c2,c3] by simp,jkk,List.length_singleton,hn];exact o4
 ·obtain ⟨rA,rB,e2,hA,hB⟩:∃ rA rB,rows++[[a0,a1,a2,a3]]=rA++[rB]/\aH (fun b=>(ok b\/w0.heap.size<=b)/\(Value.slice (some ⟨g,0,none⟩) (n+1) c).ownBlock≠some b/\b<U) w ds rA/\True:=by
   refine ⟨rows,_,rfl,?_,trivial⟩;have h0:=h.red;clear st o4 hown;generalize hP:(fun b=>(ok b\/w0.heap.size<=b)/\(Value.slice (some ⟨g,0,none⟩) (n+1) c).ownBlock≠some b/\b<U)=P at h0;have gen:∀ (ds:List D) (rows:List (List jnj)) (d0:D) (r0:List jnj),aH P w (ds++[d0]) (rows++[r0])->rows.length=ds.length->aH P w ds rows:=by
    intro ds;induction ds with
    | nil=>intro rows d0 r0 _ hl;rw [List.eq_nil_of_length_eq_zero hl];exact aH.none
    | cons x ds ih=>
     intro rows d0 r0 hr hl;cases rows with
     | nil=>simp at hl
     | cons r rows=>
      obtain ⟨r',rs,e,h1,h2⟩:=hr.aD;have e':r'=r/\rs=rows++[r0]:=by simp at e;exact ⟨e.1.symm,e.2.symm⟩
      obtain ⟨rfl,rfl⟩:=e';exact aH.cons h1 (ih rows d0 r0 h2 (by simpa using hl))
   exact gen ds rows d0 _ h0 (by omega)
  have e3:rA=rows:=by have:=congrArg List.dropLast e2;simpa using this.symm
  subst e3;refine aH.app (aH.keep (fun b hb' _=>⟨hb',hb b (fun e=>by subst e;exact hb'.2.1 rfl)⟩) _ _ hA) (aH.one (Rd.keep (fun b hb' _=>⟨⟨hb'.1,fun e=>hb'.2.1 (by simpa [Value.ownBlock] using e),hb'.2.2⟩,hb b (fun e=>hb'.2.1 e.symm)⟩) _ _ hd))
 ·intro r hr;rcases List.mem_append.1 hr with hr | hr
  ·exact h.len r (by simp [hr])
  ·simp at hr;subst hr;rfl
 ·have hbel:=h.aO;exact (((hbel.setCell (p:=⟨g,n*4,none⟩) hg0 c0).setCell (p:=⟨g,n*4+1,none⟩) hg0 c1).setCell (p:=⟨g,n*4+2,none⟩) hg0 c2).setCell (p:=⟨g,n*4+3,none⟩) hg0 c3
theorem aB.II {g n c:Nat} {d0:D} {a0 a1 a2 a3:jnj} (h:aB T 4 ok U w0 (ds++[d0]) (rows++[[a0,a1,a2,a3]]) (.slice (some ⟨g,0,none⟩) (n+1) c) w) (hn:ds.length=n) : w.cell? ⟨g,n*4,none⟩=some a0/\w.cell? ⟨g,n*4+1,none⟩=some a1/\w.cell? ⟨g,n*4+2,none⟩=some a2/\w.cell? ⟨g,n*4+3,none⟩=some a3/\∀ j,w.frozen? ⟨g,j,none⟩=false:=by
 have hl:rows.length=n:=by have:=h.red.len;simp at this;omega
 have hfl:rows.flatten.length=n*4:=by rw [gY 4 rows (fun r hr=>h.len r (by simp [hr])),hl]
 have hc:∀ i u,[a0,a1,a2,a3][i]?=some u->w.cell? ⟨g,n*4+i,none⟩=some u:=by
  intro i u hu;have:=h.own.cells (g:=g) rfl (n*4+i) u (by
   rw [show (rows++[[a0,a1,a2,a3]]).flatten=rows.flatten++[a0,a1,a2,a3] by simp,List.getElem?_append_right (by omega),hfl,Nat.add_sub_cancel_left];exact hu)
  have e:((⟨g,0,none⟩:Addr).add (n*4+i))=⟨g,n*4+i,none⟩:=by unfold Addr.add;split<;>simp_all
  rwa [e] at this
 refine ⟨hc 0 _ rfl,hc 1 _ rfl,hc 2 _ rfl,hc 3 _ rfl,fun j=>?_⟩;rcases h.own.2 with ⟨h1,-⟩ | ⟨g',cap,cur,h1,-,h2,-⟩
 ·cases h1
 ·injection h1 with h1
  injection h1 with h1
  injection h1 with h1
  subst h1;simp [World.frozen?,h2]
theorem qL {k n:Nat} {ops:Array Oper} {o:Oper} {a:Act} {K:Act->jn8->Prop} {Q:Exit->Act->jn8->Prop} {E:Prop} (hgd:o.guard=none) (s x:Operand) (t:TypeId) (ho:o.op=.call { callee:=.builtin .append,args:=#[s,x],argTypes:=#[t,t] }) (i:TypeInfo) (z:jnj) (bytes:Nat) (ht:Tryz.prog.underlying t=some (.slice T)) (hi:Tryz.prog.info? T=some i) (hz:i.zero=some z) (hsize:i.size=k) (hby:i.bytes=bytes) (hzs:z.cells.size=k) (hsz:0<k) (h:aB T k ok U w0 ds rows v w) (hB:∀ b,ok b->b<w0.heap.size) (d:D) (r:List jnj) (hx:Rd (fun b=>ok b\/U<=b) w d r) (hr:r.length=k) (h1:∀ u∈r,u.oneCell'=true) (hdn:ds.length=n) (hn:n<=10000000) (kJ:bytes<=1000) (hs:a.eval s=v) (hxe:a.eval x=.slice (some ⟨w.heap.size,0,none⟩) 1 1) (hK:∀ g c' w',aB T k ok w'.heap.size w0 (ds++[d]) (rows++[r]) (.slice (some ⟨g,0,none⟩) (n+1) c') w'->(w.alloc (.cells r.toArray T)).grownBy w' v.ownBlock->(v.ownBlock=some g\/w.heap.size<g)->n+1<=c'->K (a.put o.dst (.slice (some ⟨g,0,none⟩) (n+1) c')) w') : if Region.wanted o (yielded ops a.tmps)=true then Oper.wp Tryz.prog o a (w.alloc (.cells r.toArray T)) K Q else E:=by
 subst hdn;have hmul:(ds.length+1)*bytes<=140737488355328:=jk8 (Nat.mul_le_mul (show ds.length+1<=10000001 by omega) kJ) (by omega);refine step_append_lies _ hgd s x t ho w0.heap.size T i z k bytes ht hi hz hsize hby hzs hsz v ds.length rows.flatten hs (h.own.alloc _) ⟨w.heap.size,0,none⟩ 1 1 r hxe (by omega) (PS w r T) h1 (by omega) (by unfold maxLen;omega) hmul (by have:=h.aO.size;simp;omega) (w.heap.size+1) (by simp) ?_;intro g cap w' hown hg hat _;have Qu:v.ownBlock=some g\/w.heap.size<g:=hat.elim (fun e=>.inl (by rw [e])) (fun e=>.inr (by omega));have hcp:ds.length+1<=cap:=by obtain ⟨g',cap',he,hle⟩:=pQ hown (by omega);injection he with _ _ he;omega
 refine hK _ _ w' ?_ hg Qu hcp;refine h.put hB (bP:=[r]) (es:=[d]) (aH.one (Rd.keep (fun b hb hlt=>⟨hb,jl1 w _ b hlt⟩) _ _ hx)) (by simp [hr]) (World.grownBy_alloc w _ none) (by simpa using hown) hg (hat.elim (fun e=>.inl (by rw [e];rfl)) (fun e=>.inr (by rw [e];simp [Value.ownBlock])))
end
def Bc (S:Nat) (w:jn8) (N:List Nd) (vi:jnj) (wr:jn8):Prop:=
 ∃ (k:Nat) (rows:List (List jnj)) (v:jnj) (U:Nat) (wB:jn8),k<=N.length/\vi=.int .i64 k/\wB.heap.size=S+2/\aB 35 4 (fun _=>False) U wB ((gy (N.take k)).1.map Nd.d) rows v wr /\
  aG S v 28 wr/\A8 (S+1) U (Lib.strCells (gy (N.take k)).2) wr/\jn9 S w wr
theorem Mk {p:Nat} {w:jn8} {c0 c1 c2 c3 c4 c5 c6 c7 c8 c9:jnj} (h:PB p [c0,c1,c2,c3,c4,c5,c6,c7,c8,c9] w) : w.cell? ⟨p,0,none⟩=some c0/\w.cell? ⟨p,1,none⟩=some c1/\w.cell? ⟨p,2,none⟩=some c2/\w.cell? ⟨p,3,none⟩=some c3/\w.cell? ⟨p,4,none⟩=some c4/\w.cell? ⟨p,5,none⟩=some c5 /\ w.cell? ⟨p,6,none⟩=some c6/\w.cell? ⟨p,7,none⟩=some c7/\w.cell? ⟨p,8,none⟩=some c8/\w.cell? ⟨p,9,none⟩=some c9:=
 ⟨h.cell 0 _ rfl,h.cell 1 _ rfl,h.cell 2 _ rfl,h.cell 3 _ rfl,h.cell 4 _ rfl,h.cell 5 _ rfl,h.cell 6 _ rfl,h.cell 7 _ rfl,h.cell 8 _ rfl,h.cell 9 _ rfl⟩
theorem uh.Y0 {S:Nat} {w w':jn8} {at_:At} {ar:List ByteArray} {ci:List Ci} {ks:List aj} {vc vp va vi vk:jnj} (h:uh (·<S) w at_ ar ci ks vc vp va vi vk) (hb:jn9 S w w') (hS:S<=w'.heap.size):uh (·<w'.heap.size) w' at_ ar ci ks vc vp va vi vk:=
 have hs:zw (·<S) (·<w'.heap.size) w w':=fun b (h1:b<S) _=>⟨by omega,hb.block b h1⟩
 ⟨⟨Rd.keep hs _ _ h.at_.cls,Rd.keep hs _ _ h.at_.aI⟩,Rd.keep hs _ _ h.args,Rd.keep hs _ _ h.dD,Rd.keep hs _ _ h.kids⟩
theorem uX (s:ByteArray):s.toList.isEmpty=aZ s:=by rw [Lib.toList_data,Bool.eq_iff_iff,List.isEmpty_iff,aZ,decide_eq_true_iff]
theorem ML {s:ByteArray} (h:aZ s=false):0<s.size:=by
 unfold aZ at h;rw [decide_eq_false_iff_not] at h;have:s.data.toList.length≠0:=fun e=>h (List.eq_nil_of_length_eq_zero e)
 have e2:s.data.toList.length=s.size:=by simp
 omega
theorem A8.Qv {b U U':Nat} {w w':jn8} (h:A8 b U [] w) (hs:w'.heap[b]?=w.heap[b]?) (hU:b<U'):A8 b U' [] w':=
 h.imp (fun ⟨_,v,h2,_,h4⟩=>⟨hU,v,hs.trans h2,by rw [h4 rfl];exact World.ownsRowF_nil _ _ _ _,h4⟩) (fun ⟨_,v,h2,_,h4⟩=>⟨hU,v,hs.trans h2,by rw [h4 rfl];exact World.ownsRowF_nil _ _ _ _,h4⟩)
theorem zl (n:Nat):∀ (l:List aj) (v:jnj) (w:jn8),aj.aU l<=n->n<=1000000->Rd (·<w.heap.size) w (aV l) [v]->aj.aF l->aj.Gd l -> Calls Tryz.prog 78 #[v] w (dh w (jY l)):=by
 induction n using Nat.strongRecOn with
 | _ n ih=>
  intro l v w hn hnm hrd hsm htf;obtain ⟨iN,Fv,nX,nY,nZ⟩:=info_parts mE;obtain ⟨a,cap,hv,hs⟩:=Rd.ay hrd;obtain rfl:v=.slice a l.length cap:=by simpa using hv
  have hcap:l.length<=cap:=by simpa using hs.le
  have hll:=aj.dn l;have hmx:=hs.max;unfold maxLen at hmx;obtain ⟨N,hN⟩:∃ N,N=aj.IJ l:=⟨_,rfl⟩;have hNl:N.length=l.length:=by rw [hN,pR,jkq]
  have hNt:∀ x∈N,x.tx.size<=300:=by intro x hx;rw [hN,pR] at hx;obtain ⟨y,hy,rfl⟩:=List.mem_map.1 hx;exact YZ y (aj.oL l hsm y hy)
  have hNf:∀ x∈N,x.full:=by rw [hN];exact DY l htf
  have Y1:jY l=(gy N).1++bS (gy N).2:=by rw [hN];exact MN l htf
  obtain ⟨S,hS⟩:∃ S,S=w.heap.size:=⟨_,rfl⟩;obtain ⟨W0,hW0⟩:∃ W,W=(w.alloc (.cells #[.slice none 0 0] 28)).alloc (.cells #[.pointer none,.slice none 0 0] 104):=⟨_,rfl⟩;have z0:W0.heap.size=S+2:=by rw [hW0,hS];simp
  have k0:aG S (.slice none 0 0) 28 W0:=by rw [hW0,hS];exact (aG.new w _ _).alloc _
  have k1:W0.heap[S+1]?=some (.cells #[.pointer none,.slice none 0 0] 104 (0,0)):=by
   rw [hW0,hS];have:=heap_alloc_new (w.alloc (.cells #[.slice none 0 0] 28)) (.cells #[.pointer none,.slice none 0 0] 104)
   rwa [World.size_alloc] at this
  have b0:jn9 S w W0:=by rw [hW0,hS];exact ((jk6 _ _).alloc (jk7 _) _).alloc (by simp) _
  have R0:Hid (Bc S w N (.int .i64 0) W0):=⟨0,[],_,S+2,W0,Nat.zero_le _,rfl,z0,by rw [<- z0];exact aB.nil _ _ _ _,k0,A8.new k1 (by omega),b0⟩;have HS:=hid hs;have IH:=hid ih;have jF:=hid hsm;have HTF:=hid htf;have HN:=hid hN;have xM:=hid hNl;have HNT:=hid hNt;have HNF:=hid hNf;have qM:=hid Y1;have Iy:=hid hS;have HW0:=hid hW0;clear hs hv hrd ih hsm htf hN hNl hNt hNf Y1 hS hW0 z0 k0 k1 b0;go_enter Tryz.func78,Tryz.ntmps78;go_upto_region 3 with (fail)
  rw [<- Iy.out,<- HW0.out];go_wp2
  go_loopw [12] (fun vi wr=>Bc S w N vi wr) (fun i _=>l.length-(intOf i).toNat)
  case atStart=>exact R0.out
  case round=>
   clear R0 HW0;obtain ⟨k,rows,v,U,wB,hk,rfl,Tg,hrow,hbx,hbd,hbel⟩:=hrel;rw [xM.out] at hk;obtain ⟨P,hP⟩:∃ P,P=gy (N.take k):=⟨_,rfl⟩;rw [<- hP] at hrow hbd;obtain ⟨m,hm⟩:∃ m,m=(P.1.map Nd.d).length:=⟨_,rfl⟩;have hm2:m<=2*k:=by
    have h:=DX (N.take k) ([],⟨#[]⟩);have h2:(N.take k).length<=k:=List.length_take_le _ _;have h3:P.1=((N.take k).foldl dW ([],⟨#[]⟩)).1:=by rw [hP];rfl
    rw [<- h3] at h;rw [hm,jkq];simp at h;omega
   have hpt:P.2.size<=300*k:=by
    have h:=IG (N.take k) ([],⟨#[]⟩) (fun x hx=>HNT.out x (List.mem_of_mem_take hx));have h2:(N.take k).length<=k:=List.length_take_le _ _;have h3:P.2=((N.take k).foldl dW ([],⟨#[]⟩)).2:=by rw [hP];rfl
    rw [<- h3] at h;have h4:(([]:List Nd),(⟨#[]⟩:ByteArray)).2.size=0:=rfl;omega
   obtain ⟨av,cv,rfl,-,-⟩:=hrow.cap hm.symm;have HM:=hid hm.symm;have HP:=hid hP;have bV:=hid hrow;have jX:=hid hbx;have j5:=hid hbd;have Cy:=hid Tg;have hUr:=hrow.tK;have hSU:S+2<=U:=by have:=hrow.lX;omega
   have LD:Hid (P.1.length=m):=by show _=_;rw [hm,jkq]
   clear hrow hbx hbd hm hP Tg;by_cases hlt:k<l.length
   ·obtain ⟨x,hx⟩:∃ x,l[k]?=some x:=⟨_,jk5 hlt⟩;have hNk:N[k]?=some x.nd:=by rw [HN.out,pR,List.getElem?_map,hx];rfl
    have hst:=Gb N k x.nd hNk;rw [<- HP.out] at hst;have hfull:=HNF.out x.nd (jl3 hNk);have htx:=HNT.out x.nd (jl3 hNk);have hxs:=aj.oL l jF.out x (jl3 hx);have hxt:=Bg l HTF.out x (jl3 hx);have hsz:=aj.bq l k _ hx;obtain ⟨X,hX⟩:∃ X,X=x.nd:=⟨_,rfl⟩;rw [<- hX] at hst hfull htx;obtain ⟨kd,t,d,ti,at_,ar,ci,ks⟩:=x;obtain ⟨g,off,vc,vp,va,vi,vk,rfl,hok,hbl,hc,hR⟩:=fF HS.out hx;obtain ⟨c0,c1,c2,c3,c4,c5,c6,c7,c8,c9⟩:=hc.below (show jn9 w.heap.size w wr by rw [<- Iy.out];exact hbel);rw [aj.sz] at hsz;obtain ⟨ac,nc,cc,rfl⟩:=Rd.au hR.at_.cls
    obtain ⟨ap,np,cp,rfl⟩:=Rd.au hR.at_.aI
    obtain ⟨aa,na,ca,rfl⟩:=Rd.au hR.args;obtain ⟨ai,ni,jT,rfl⟩:=Rd.au hR.dD;obtain ⟨ak,nk,ck,rfl⟩:=Rd.au hR.kids;have HR:Hid (uh (·<S) w at_ ar ci ks (.slice ac nc cc) (.slice ap np cp) (.slice aa na ca) (.slice ai ni jT) (.slice ak nk ck)):=by rw [Iy.out];exact hR
    have HST:=hid hst;have HX:=hid hX;have MO:=hid hfull;have HXS:=hid hxs;have HXT:=hid hxt;have dA:=hid hbel;have hSr:S<=wr.heap.size:=by have:=hbel.size;have:=Iy.out;omega
    clear hc hok hbl hR hst hX hfull hxs hxt hNk hx hbel;go_upto_region 7 with (fail)
    obtain ⟨p,hp⟩:∃ p,p=wr.heap.size:=⟨_,rfl⟩;obtain ⟨wA,iE⟩:∃ wA,wA=wr.alloc (.cells #[.int .i64 kd,.string t,.string d,.string ti,.string at_.id,.slice ac nc cc,.slice ap np cp,.slice aa na ca,.slice ai ni jT,.slice ak nk ck] 66):=⟨_,rfl⟩;have PA:PB p [.int .i64 kd,.string t,.string d,.string ti,.string at_.id,.slice ac nc cc,.slice ap np cp,.slice aa na ca,.slice ai ni jT,.slice ak nk ck] wA:=by rw [iE,hp];exact heap_alloc_new wr _
    have bA:jn9 wr.heap.size wr wA:=by rw [iE];exact (jk6 _ _).alloc (jk7 _) _
    rw [<- iE,<- hp];obtain ⟨e0,e1,e2,e3,e4,e5,e6,e7,e8,e9⟩:=Mk PA;have zA:=bA.size;have BA:=hid (dA.out.trans (bA.mono hSr));have HRA:=HR.out.Y0 BA.out (by omega);have LC:DZ wA ks (.slice ak nk ck):=fun W hW=>by
     have hsk:=HXS.out;rw [aj.small] at hsk;have htk:=HXT.out;rw [aj.tf] at htk;exact IH.out (aj.aU ks) (by omega) ks _ W (jk7 _) (by omega) (HRA.kids.up hW) hsk.2.2.2.2.2.2.2.2 htk.2
    have IC:=Gf kd t d ti at_ ar ci ks _ _ _ _ _ wA HRA HXS.out LC (by omega)
    rw [<- HX.out] at IC;have IL:=hid IC;have zh:=hid bA;clear iE hp c0 c1 c2 c3 c4 c5 c6 c7 c8 c9 HRA LC IC PA bA;go_wp2_with fail
    (with_reducible refine IL.out.mono ?_)
    rintro e w1 ⟨vA,vK,rfl,hNd,b1⟩;obtain ⟨aA,nA,cA,rfl⟩:=Rd.au hNd.at_
    obtain ⟨aK,nK,cK,rfl⟩:=Rd.au hNd.ks;have HND:=hid hNd;have B1:=hid b1;have z1:=b1.size;clear e0 e1 e2 e3 e4 e5 e6 e7 e8 e9 hNd b1 IL;obtain ⟨nm,tx,XA,XK⟩:=X;dsimp only [Nd.nm,Nd.tx,Nd.at_,Nd.ks] at htx HND;dsimp only [Nd.nm,Nd.tx];go_upto_region 8 with (fail)
    obtain ⟨q,hq⟩:∃ q,q=w1.heap.size:=⟨_,rfl⟩;obtain ⟨wN,Y2⟩:∃ wN,wN=w1.alloc (.cells #[.string nm,.string tx,.slice aA nA cA,.slice aK nK cK] 35):=⟨_,rfl⟩;have KN:CB 35 q [.string nm,.string tx,.slice aA nA cA,.slice aK nK cK] wN:=by rw [Y2,hq];exact CB.new _ _ w1
    have bN:jn9 w1.heap.size w1 wN:=by rw [Y2];exact (jk6 _ _).alloc (jk7 _) _
    have zN:wN.heap.size=q+1:=by rw [Y2,hq];simp
    have hqr:wA.heap.size<=q:=by rw [hq];exact z1
    have HQ:=hid hq;rw [<- Y2,<- hq];have BN:=hid (aQ zh.out (aQ B1.out bN));have Qo:=hid bN;have f0:=KN.cell 0 _ rfl;have f1:=KN.cell 1 _ rfl;have HKN:=hid KN;have ZN:=hid zN;have hzr:=BN.out.size;clear Y2 hq KN bN zN;by_cases hem:aZ nm=true
    ·have q1:nm.toList.isEmpty=true:=by rw [uX];exact hem
     have q2:nm.toList=[]:=by rw [List.isEmpty_iff] at q1;exact q1
     have htp:0<tx.size:=ML (MO.out hem).2;have yw:Hid (gy (N.take (k+1))=(P.1,P.2++tx)):=by show _=_;rw [HST.out];unfold dW;rw [if_pos (show aZ (Nd.mk nm tx XA XK).nm=true from hem)];rfl
     have WS:=hid (yu (S+1) U (Lib.strCells P.2) tx wN (j5.out.below BN.out) (by rw [Lib.strCells_length];omega) (by omega) htp);clear hem HST MO;go_wp2_with fail
     (with_reducible refine WS.out.mono ?_)
     rintro e w2 ⟨rfl,Y3,hb2⟩;have hR2:=bV.out.reU (w':=w2) (by have:=hb2.size;omega) (fun b h1 h2=>(hb2.blk b h2 (by have:=Cy.out;omega)).trans (BN.out.block b (by omega)));obtain ⟨wB2,Ke,hrow2⟩:=hR2;have HF:Hid (Bc S w N (.int .i64 ((k+1:Nat):Int)) w2):=by
      refine ⟨k+1,rows,.slice av m cv,U,wB2,by rw [xM.out];omega,rfl,Ke.trans Cy.out,?_,?_,?_,?_⟩
      ·rw [yw.out];exact hrow2
      ·exact (hb2.blk S (by omega) (by omega)).trans ((BN.out.block S (by omega)).trans jX.out)
      ·rw [yw.out,Ba];exact Y3
      ·exact dA.out.trans ((BN.out.mono hSr).trans (hb2.below (by omega) (by omega)))
     clear Y3 hb2 Ke hrow2 WS f0 f1 q1 q2;go_wp2;go_roundw;case rel=>exact HF.out
     case measure=>simp [intOf];omega
    ·have q1:nm.toList.isEmpty=false:=by rw [uX];simpa using hem
     have yw:Hid (gy (N.take (k+1))=(P.1++bS P.2++[.mk nm tx XA XK],⟨#[]⟩)):=by show _=_;rw [HST.out];unfold dW;rw [if_neg (show ¬ aZ (Nd.mk nm tx XA XK).nm=true from hem)]
     have FC:=zu S U P.2.data.toList P.1 rows (.slice av m cv) wr wN wB (by have:=Cy.out;omega) bV.out jX.out j5.out BN.out (by rw [LD.out];omega);rw [AZ] at FC;have FL:=hid FC;clear hem HST MO FC;go_wp2_with fail
     (with_reducible refine FL.out.mono ?_)
     rintro e w3 ⟨rfl,gu,v3,wB3,Vl,hrow3,Kg,Qw,vB,hkp3,hb3⟩;obtain ⟨m3,PU⟩:∃ m,m=(List.map Nd.d (P.1++bS P.2)).length:=⟨_,rfl⟩;have jd8:m3<=m+1:=by
      rw [PU,jkq,jkk,LD.out];have:(bS P.2).length<=1:=by unfold bS;split<;>simp
      omega
     obtain ⟨a3,c3,rfl,hc3,jd9⟩:=hrow3.cap PU.symm;unfold maxLen at jd9;have XW:=hid PU.symm;have U3:=hid hrow3.drew;have XY:CB 35 q [.string nm,.string tx,.slice aA nA cA,.slice aK nK cK] w3:=(hkp3 q (by omega) (by have:=ZN.out;omega)).trans HKN.out;have NR3:Hid (Rd (fun b=>wA.heap.size<=b/\b<q) w3 (Nd.mk nm tx XA XK).d [.string nm,.string tx,.slice aA nA cA,.slice aK nK cK]):=
      Nd.dS nm tx (HND.out.keep (fun b (h1:wA.heap.size<=b) h2=>⟨⟨h1,by rw [HQ.out];exact h2⟩,(hkp3 b (by omega) (by have:=ZN.out;have:=HQ.out;omega)).trans (Qo.out.block b h2)⟩))
     have S0:w3.drew.cell? ⟨S,0,none⟩=some (.slice a3 m3 c3)/\w3.drew.cell? ⟨q,0,none⟩=some (.string nm)/\w3.drew.cell? ⟨q,1,none⟩=some (.string tx)/\w3.drew.cell? ⟨q,2,none⟩=some (.slice aA nA cA)/\w3.drew.cell? ⟨q,3,none⟩=some (.slice aK nK cK):=⟨Kg.cell,XY.cell 0 _ rfl,XY.cell 1 _ rfl,XY.cell 2 _ rfl,XY.cell 3 _ rfl⟩;have hov:∀ g,(Value.slice a3 m3 c3).ownBlock=some g->S+2<=g/\(g<wr.heap.size\/wN.heap.size<=g):=fun g hg=>⟨by have:=(hrow3.own.lt g hg).1;have:=Cy.out;omega,vB g hg⟩
     have xL:=hid hov;have jdj:=hid Kg;have Vm:=hid Qw;have HB3:=hid hb3;have Qx:=hid Vl;have Y4:=hid XY;have hz3:=hb3.size;have jdk:S<w3.heap.size:=Kg.lt;clear PU hrow3 Kg Qw hb3 Vl vB hkp3 XY hov FL f0 f1 q1;go_upto_region 11 with (fail)
     refine Qy 7 (fun w'=>w'.cell? ⟨S,0,none⟩=some (.slice a3 m3 c3)/\w'.cell? ⟨q,0,none⟩=some (.string nm)/\w'.cell? ⟨q,1,none⟩=some (.string tx)/\w'.cell? ⟨q,2,none⟩=some (.slice aA nA cA)/\w'.cell? ⟨q,3,none⟩=some (.slice aK nK cK)) (by kernel_rfl) S0 ?_;intro hH;refine fK 0 (v:=?_) rfl (by kernel_rfl) hH (by rfl) ?_ ?_;rotate_left
     ·(intro wv hSw;(try dsimp only at hSw);go_simp;try with_reducible rfl)
     try simp only [Act.put,jk2,jk3,jk4]
     refine fK 1 (v:=?_) rfl (by kernel_rfl) hH (by rfl) ?_ ?_;rotate_left
     ·(intro wv hSw;(try dsimp only at hSw);go_simp;try with_reducible rfl)
     try simp only [Act.put,jk2,jk3,jk4]
     refine fK 2 (v:=?_) rfl (by kernel_rfl) hH (by rfl) ?_ ?_;rotate_left
     ·(intro wv hSw;(try dsimp only at hSw);go_simp;try with_reducible rfl)
     try simp only [Act.put,jk2,jk3,jk4]
     refine q01 (i:=3) rfl (by kernel_rfl) (fun KQ hK=>?_);go_simp;refine hK.out _ _ (fun _ _=>⟨past S0.1 _,past S0.2.1 _,past S0.2.2.1 _,past S0.2.2.2.1 _,past S0.2.2.2.2 _⟩) (fun hH2=>?_);clear hK KQ hH;have hH:=hH2 (by decide) (by kernel_rfl);clear hH2;try simp only [Act.put,jk2,jk3,jk4]
     refine q01 (i:=4) rfl (by kernel_rfl) (fun KQ hK=>?_);refine qL rfl (.tmp 26) (.tmp 29) 28 rfl iN _ 80 Tryz.underlying28 Fv nX nY nZ rfl (by decide) U3.out (fun _=>False.elim) (Nd.mk ⟨#[]⟩ ⟨#[]⟩ [] []).d [.string ⟨#[]⟩,.string ⟨#[]⟩,.slice none 0 0,.slice none 0 0] (Nd.dS ⟨#[]⟩ ⟨#[]⟩ ⟨Rd.aC _ _ _,Rd.aC _ _ _⟩) rfl jH XW.out (by omega) (by decide) rfl rfl ?_;intro g5 c5 w5 bg hg5 tL Fw;have hgS:S+2<=g5/\g5≠q/\(g5<wr.heap.size\/wN.heap.size<=g5):=by
      have hz9:w3.drew.heap.size=w3.heap.size:=rfl;rcases tL with h | h
      ·have:=xL.out g5 h;have:=ZN.out;omega
      ·have:=ZN.out;omega
     have sH:∀ b,b=S\/b=q->some b≠(Value.slice a3 m3 c3).ownBlock:=fun b hb e=>by
      have:=xL.out b e.symm;have:=ZN.out;omega
     have S5:w5.cell? ⟨S,0,none⟩=some (.slice a3 m3 c3)/\w5.cell? ⟨q,0,none⟩=some (.string nm)/\w5.cell? ⟨q,1,none⟩=some (.string tx)/\w5.cell? ⟨q,2,none⟩=some (.slice aA nA cA)/\w5.cell? ⟨q,3,none⟩=some (.slice aK nK cK):=⟨(World.grownBy.cell_far hg5 ⟨S,0,none⟩ (by simp;omega) (sH S (.inl rfl))).trans (past S0.1 _),(World.grownBy.cell_far hg5 ⟨q,0,none⟩ (by simp;have:=ZN.out;omega) (sH q (.inr rfl))).trans (past S0.2.1 _),(World.grownBy.cell_far hg5 ⟨q,1,none⟩ (by simp;have:=ZN.out;omega) (sH q (.inr rfl))).trans (past S0.2.2.1 _),(World.grownBy.cell_far hg5 ⟨q,2,none⟩ (by simp;have:=ZN.out;omega) (sH q (.inr rfl))).trans (past S0.2.2.2.1 _),(World.grownBy.cell_far hg5 ⟨q,3,none⟩ (by simp;have:=ZN.out;omega) (sH q (.inr rfl))).trans (past S0.2.2.2.2 _)⟩;obtain ⟨y0,y1,y2,y3,yf⟩:=bg.II XW.out;have t0:(0:Int)<=(m3:Int):=by omega
     have t1:(m3:Int)<((m3+1:Nat):Int):=by omega
     have t2:(m3:Int)<(m3:Int)+1:=by omega
     have t3:m3<m3+1:=by omega
     have U5:=hid bg;have Ti:=hid hg5;have hz5:w3.heap.size+1<=w5.heap.size:=by have:=hg5.size;simp at this;exact this
     have Tj:S≠g5:=by omega
     have hqg:q≠g5:=fun e=>hgS.2.1 e.symm
     have Qz:aG S (.slice a3 m3 c3) 28 w5:=(hg5.block S (by simp;omega) (sH S (.inl rfl))).trans ((jl1 w3 _ S jdk).trans jdj.out);have Y5:=Qz.free;have z5:=Qz.cell;obtain ⟨wZ,Vn,mM⟩:=bg.hop2 (p:=S) (by have:=Qx.out;have:=Cy.out;omega) (show w5.grownBy (w5.setCell ⟨S,0,none⟩ (.slice (some ⟨g5,0,none⟩) (m3+1) c5)) (some S) from ⟨rfl,rfl,rfl,by simp [jm0],fun b _ hb=>jl0 w5 ⟨S,0,none⟩ _ b (fun e=>hb (by rw [e]))⟩);obtain ⟨u0,u1,u2,u3,uf⟩:=mM.II XW.out;have BX5:=hid Qz;clear mM Vn Qz bg hg5 tL sH S0;refine hK.out _ _ (fun _ _=>S5) (fun hH2=>?_);clear hK KQ hH;have hH:=hH2 (by decide) (by kernel_rfl);clear hH2;try simp only [Act.put,jk2,jk3,jk4]
     apply MP;case hm=>
      intro REST;refine D5 (i:=5) (j:=7) rfl rfl (by kernel_rfl) (fun KQ hK=>?_) (fun KQ hK=>?_);rotate_left
      ·go_simp;refine hK.out _ _ (fun h=>absurd rfl h) (fun _=>?_);clear hK KQ;try simp only [Act.put,jk2,jk3,jk4]
       refine q01 (i:=5) rfl (by kernel_rfl) (fun KQ hK=>?_);go_simp;refine hK.out _ _ (fun _ h=>absurd h (by decide)) (fun _=>?_);clear hK KQ;try simp only [Act.put,jk2,jk3,jk4]
       refine q01 (i:=6) rfl (by kernel_rfl) (fun KQ hK=>?_);go_simp;refine hK.out _ _ (fun _ h=>absurd h (by decide)) (fun _=>?_);clear hK KQ;try simp only [Act.put,jk2,jk3,jk4]
       refine D6 (by kernel_rfl) ?_ _;have hsw:=nN w5 S g5 (m3*4) (.slice (some ⟨g5,0,none⟩) (m3+1) c5) (.string nm) (.string tx) (.slice aA nA cA) (.slice aK nK cK) Tj;simp only [q1z] at hsw;rw [hsw];clear hsw;exact REST
      go_simp;refine hK.out _ _ (fun _ _=>S5) (fun hH2=>?_);clear hK KQ;have hH:=hH2 (by decide) (by kernel_rfl);clear hH2;try simp only [Act.put,jk2,jk3,jk4]
      refine D5 (i:=6) (j:=7) rfl rfl (by kernel_rfl) (fun KQ hK=>?_) (fun KQ hK=>?_)
      ·go_simp;have S6:jlz ((((w5.setCell ⟨g5,m3*4,none⟩ (.string nm)).setCell ⟨g5,m3*4+1,none⟩ (.string tx)).setCell ⟨g5,m3*4+2,none⟩ (.slice aA nA cA)).setCell ⟨g5,m3*4+3,none⟩ (.slice aK nK cK)) ⟨S,0,none⟩=some (.slice a3 m3 c3)/\jlz ((((w5.setCell ⟨g5,m3*4,none⟩ (.string nm)).setCell ⟨g5,m3*4+1,none⟩ (.string tx)).setCell ⟨g5,m3*4+2,none⟩ (.slice aA nA cA)).setCell ⟨g5,m3*4+3,none⟩ (.slice aK nK cK)) ⟨q,0,none⟩=some (.string nm)/\jlz ((((w5.setCell ⟨g5,m3*4,none⟩ (.string nm)).setCell ⟨g5,m3*4+1,none⟩ (.string tx)).setCell ⟨g5,m3*4+2,none⟩ (.slice aA nA cA)).setCell ⟨g5,m3*4+3,none⟩ (.slice aK nK cK)) ⟨q,1,none⟩=some (.string tx)/\jlz ((((w5.setCell ⟨g5,m3*4,none⟩ (.string nm)).setCell ⟨g5,m3*4+1,none⟩ (.string tx)).setCell ⟨g5,m3*4+2,none⟩ (.slice aA nA cA)).setCell ⟨g5,m3*4+3,none⟩ (.slice aK nK cK)) ⟨q,2,none⟩=some (.slice aA nA cA)/\jlz ((((w5.setCell ⟨g5,m3*4,none⟩ (.string nm)).setCell ⟨g5,m3*4+1,none⟩ (.string tx)).setCell ⟨g5,m3*4+2,none⟩ (.slice aA nA cA)).setCell ⟨g5,m3*4+3,none⟩ (.slice aK nK cK)) ⟨q,3,none⟩=some (.slice aK nK cK):=show jlz (q1z w5 g5 (m3*4) (.string nm) (.string tx) (.slice aA nA cA) (.slice aK nK cK)) ⟨S,0,none⟩=some (.slice a3 m3 c3)/\jlz (q1z w5 g5 (m3*4) (.string nm) (.string tx) (.slice aA nA cA) (.slice aK nK cK)) ⟨q,0,none⟩=some (.string nm)/\jlz (q1z w5 g5 (m3*4) (.string nm) (.string tx) (.slice aA nA cA) (.slice aK nK cK)) ⟨q,1,none⟩=some (.string tx)/\jlz (q1z w5 g5 (m3*4) (.string nm) (.string tx) (.slice aA nA cA) (.slice aK nK cK)) ⟨q,2,none⟩=some (.slice aA nA cA)/\jlz (q1z w5 g5 (m3*4) (.string nm) (.string tx) (.slice aA nA cA) (.slice aK nK cK)) ⟨q,3,none⟩=some (.slice aK nK cK) from ⟨Te S5.1 Tj,Te S5.2.1 hqg,Te S5.2.2.1 hqg,Te S5.2.2.2.1 hqg,Te S5.2.2.2.2 hqg⟩
       have z6:=S6.1;have Vo:aG S (.slice a3 m3 c3) 28 ((((w5.setCell ⟨g5,m3*4,none⟩ (.string nm)).setCell ⟨g5,m3*4+1,none⟩ (.string tx)).setCell ⟨g5,m3*4+2,none⟩ (.slice aA nA cA)).setCell ⟨g5,m3*4+3,none⟩ (.slice aK nK cK)):=(gN w5 g5 (m3*4) (.string nm) (.string tx) (.slice aA nA cA) (.slice aK nK cK) S Tj).trans BX5.out;have zf:=Vo.free;refine hK.out _ _ (fun _ _=>S6) (fun hH2=>?_);clear hK KQ hH;have hH:=hH2 (by decide) (by kernel_rfl);clear hH2;try simp only [Act.put,jk2,jk3,jk4]
       refine q01 (i:=7) rfl (by kernel_rfl) (fun KQ hK=>?_);go_simp;refine hK.out _ _ (fun h=>absurd rfl h) (fun _=>?_);clear hK KQ hH;try simp only [Act.put,jk2,jk3,jk4]
       refine D6 (by kernel_rfl) ?_ _;clear S6 z6 Vo zf;exact REST
      ·go_simp;refine hK.out _ _ (fun h=>absurd rfl h) (fun _=>?_);clear hK KQ hH;try simp only [Act.put,jk2,jk3,jk4]
       refine q01 (i:=6) rfl (by kernel_rfl) (fun KQ hK=>?_);go_simp;refine hK.out _ _ (fun _ h=>absurd h (by decide)) (fun _=>?_);clear hK KQ;try simp only [Act.put,jk2,jk3,jk4]
       refine D6 (by kernel_rfl) ?_ _;have hsw:=nN w5 S g5 (m3*4) (.slice (some ⟨g5,0,none⟩) (m3+1) c5) (.string nm) (.string tx) (.slice aA nA cA) (.slice aK nK cK) Tj;simp only [q1z] at hsw;rw [hsw];clear hsw;exact REST
     case hr=>
      clear S5 y0 y1 y2 y3 yf u0 u1 u2 u3 uf Y5 z5 t0 t1 t2 t3;have Cz:=U5.out.Tf XW.out (.string nm) (.string tx) (.slice aA nA cA) (.slice aK nK cK) (d1:=(Nd.mk nm tx XA XK).d) (Rd.keep (fun b hb hlt=>⟨⟨.inr (by have:=Qx.out;have:=Cy.out;omega),(fun e=>by subst e;have:=ZN.out;omega),by omega⟩,(Ti.out.block b (by simp;omega) (fun e=>by have:=xL.out b e.symm;have:=ZN.out;omega)).trans (jl1 w3 _ b hlt)⟩) _ _ NR3.out);obtain ⟨w6,iH⟩:∃ w6,w6=q1z w5 g5 (m3*4) (.string nm) (.string tx) (.slice aA nA cA) (.slice aK nK cK):=⟨_,rfl⟩;have hb6:∀ b,b≠g5->w6.heap[b]?=w5.heap[b]?:=fun b hb=>by rw [iH];exact gN _ _ _ _ _ _ _ b hb
      have Y6:aG S (.slice a3 m3 c3) 28 w6:=(hb6 S Tj).trans BX5.out;rw [<- iH] at Cz;have Vp:=iH;simp only [q1z] at Vp;rw [<- Vp];clear Vp;have Vq:w6.heap.size=w5.heap.size:=by rw [iH];simp [q1z,jm0]
      obtain ⟨w7,hw7⟩:∃ w7,w7=w6.setCell ⟨S,0,none⟩ (.slice (some ⟨g5,0,none⟩) (m3+1) c5):=⟨_,rfl⟩;rw [<- hw7];have bx7:aG S (.slice (some ⟨g5,0,none⟩) (m3+1) c5) 28 w7:=by rw [hw7];exact Y6.set _
      have g7:w6.grownBy w7 (some S):=by rw [hw7];exact ⟨rfl,rfl,rfl,by simp [jm0],fun b _ hb=>jl0 w6 ⟨S,0,none⟩ _ b (fun e=>hb (by rw [e]))⟩
      have hz7:w7.heap.size=w6.heap.size:=by rw [hw7];simp [jm0]
      obtain ⟨wB7,Vr,jh⟩:=Cz.hop2 (p:=S) (by have:=Qx.out;have:=Cy.out;omega) g7;have Vs:∀ b,b<w3.heap.size->b≠S->b≠g5->(∀ g,(Value.slice a3 m3 c3).ownBlock=some g->b≠g)->w7.heap[b]?=w3.heap[b]?:=fun b h1 h2 h3 h4=>
       (g7.block b (by omega) (fun e=>h2 (Option.some.inj e))).trans ((hb6 b h3).trans ((Ti.out.block b (by simp;omega) (fun e=>h4 b e.symm rfl)).trans (jl1 w3 _ b h1)))
      have hr7:aB 35 4 (fun _=>False) w7.heap.size wB7 ((gy (N.take (k+1))).1.map Nd.d) (gu++[[.string nm,.string tx,.slice aA nA cA,.slice aK nK cK]]) (.slice (some ⟨g5,0,none⟩) (m3+1) c5) w7:=by rw [yw.out];show aB _ _ _ _ _ (List.map Nd.d (P.1++bS P.2++[.mk nm tx XA XK])) _ _ _;rw [List.map_append];exact jh.up (by omega) (jk7 _)
      have HF:Hid (Bc S w N (.int .i64 ((k+1:Nat):Int)) w7):=by
       refine ⟨k+1,_,.slice (some ⟨g5,0,none⟩) (m3+1) c5,w7.heap.size,wB7,by rw [xM.out];omega,rfl,Vr.trans (Qx.out.trans Cy.out),hr7,bx7,?_,?_⟩
       ·rw [yw.out];exact Vm.out.Qv (Vs (S+1) (by have:=Vm.out.lt;exact this) (by omega) (by omega) (fun g hg=>by have:=(xL.out g hg).1;omega)) (by have:=Vm.out.lt;omega)
       ·refine dA.out.trans ((BN.out.mono hSr).trans (HB3.out.trans ⟨?_,?_,?_,by omega,fun b hb=>Vs b (by omega) (by omega) (by omega) (fun g hg=>by have:=(xL.out g hg).1;omega)⟩))
        ·rw [hw7,iH];exact Ti.out.os
        ·rw [hw7,iH];exact Ti.out.tape
        ·rw [hw7,iH];exact Ti.out.output
      clear Cz hr7 jh Vr g7 bx7 hw7 Y6 iH hb6 Vs;go_wp2;go_roundw;case rel=>exact HF.out
      case measure=>simp [intOf];omega
   ·have hkl:k=l.length:=by omega
    subst hkl;have hPN:P=gy N:=by rw [HP.out,jl9 (by rw [xM.out];exact jk7 _)]
    have FC:=zu S U P.2.data.toList P.1 rows (.slice av m cv) wr wr wB (by have:=Cy.out;omega) bV.out jX.out j5.out (jk6 _ _) (by rw [LD.out];omega);rw [AZ,hPN,<- qM.out] at FC;have FL:=hid FC;clear FC;go_wp2_with fail
    (with_reducible refine FL.out.mono ?_)
    rintro e w3 ⟨rfl,gu,v3,wB3,Vl,hrow3,Kg,Qw,vB,hkp3,hb3⟩;have x0:=Kg.cell;have HF:Hid (dh w (jY l) (.returned v3) w3):=by
     refine ⟨gu,v3,rfl,hrow3.vD ?_ ?_⟩
     ·have:=Iy.out;have:=Cy.out;omega
     ·rw [<- Iy.out];exact hbel.trans hb3
    clear hrow3 Qw hb3 vB hkp3 FL;go_wp2;go_ret;exact HF.out
open Go.RowKit
open Go.RowKit
theorem aH.init {P:Nat->Prop} {w:jn8}:∀ (ds:List D) (rows:List (List jnj)) (d0:D) (r0:List jnj),aH P w (ds++[d0]) (rows++[r0])->rows.length=ds.length->aH P w ds rows/\Rd P w d0 r0
 | [],rows,d0,r0,hr,hl=>by
  rw [List.eq_nil_of_length_eq_zero hl] at hr ⊢;obtain ⟨r,rs,e,h1,h2⟩:=hr.aD;have e1:r=r0:=by simp at e;exact e.1.symm
  subst e1;exact ⟨aH.none,h1⟩
 | x::ds,[],d0,r0,hr,hl=>by simp at hl
 | x::ds,r::rows,d0,r0,hr,hl=>by
  obtain ⟨r',rs,e,h1,h2⟩:=hr.aD;have e':r'=r/\rs=rows++[r0]:=by simp at e;exact ⟨e.1.symm,e.2.symm⟩
  obtain ⟨rfl,rfl⟩:=e';obtain ⟨h3,h4⟩:=aH.init ds rows d0 r0 h2 (by simpa using hl);exact ⟨aH.cons h1 h3,h4⟩
section
variable {T:TypeId} {U:Nat} {ok:Nat->Prop} {w0 w:jn8} {ds:List D} {rows:List (List jnj)} {v:jnj}
theorem aB.Kh {d:D} (h:aB T 4 ok U w0 (ds++[d]) rows v w):∃ rows' a0 a1 a2 a3,rows=rows'++[[a0,a1,a2,a3]]/\Rd (fun b=>(ok b\/w0.heap.size<=b)/\v.ownBlock≠some b/\b<U) w d [a0,a1,a2,a3]:=by
 have hl:=h.red.len;rw [jkk,List.length_singleton] at hl;have hne:rows≠[]:=fun e=>by rw [e] at hl;simp at hl
 obtain ⟨rows',r,rfl⟩:∃ rows' r,rows=rows'++[r]:=⟨_,_,(List.dropLast_concat_getLast hne).symm⟩;have hr:=h.len r (by simp)
 match r,hr with
 | [a0,a1,a2,a3],_=>exact ⟨rows',a0,a1,a2,a3,rfl,(aH.init ds rows' d _ h.red (by simp at hl;exact hl)).2⟩
end
open Go.RowKit
def tB (kd lv:Int):Bool:=decide (kd=2)&&(decide (lv=1)||decide (lv=2))
def bB (kd lv:Int):Bool:=decide (kd=5)||tB kd lv
theorem QA (kd lv:Int) (i t d ti:ByteArray) (a:At) (li:List aj) (ks:List ah):qN (.mk kd lv i t d ti a li ks)=tB kd lv:=rfl
theorem QB (kd lv:Int) (i t d ti:ByteArray) (a:At) (li:List aj) (ks:List ah):gP (.mk kd lv i t d ti a li ks)=bB kd lv:=rfl
theorem zx (kd lv:Int) (i t d ti id:ByteArray) (ac ap al ak:Option Addr) (nc cc np cp nl cl nk ck:Nat) (w:jn8) : Calls Tryz.prog 101 #[.agg #[.int .i64 kd,.int .i64 lv,.string i,.string t,.string d,.string ti,.string id,.slice ac nc cc,.slice ap np cp,.slice al nl cl,.slice ak nk ck]] w (dH (.bool (tB kd lv)) w):=by
 obtain ⟨S,hS⟩:∃ S,S=w.heap.size:=⟨_,rfl⟩;obtain ⟨w0,hw0⟩:∃ w0,w0=w.alloc (.cells #[.int .i64 kd,.int .i64 lv,.string i,.string t,.string d,.string ti,.string id,.slice ac nc cc,.slice ap np cp,.slice al nl cl,.slice ak nk ck] 133):=⟨_,rfl⟩;have k0:CB 133 S [.int .i64 kd,.int .i64 lv,.string i,.string t,.string d,.string ti,.string id,.slice ac nc cc,.slice ap np cp,.slice al nl cl,.slice ak nk ck] w0:=by rw [hw0,hS];exact CB.new _ _ w
 have B0:Hid (jn9 w.heap.size w w0):=by show jn9 _ _ _;rw [hw0];exact (jk6 _ _).alloc (jk7 _) _
 have e0:=k0.cell 0 _ rfl;have e1:=k0.cell 1 _ rfl;clear k0;go_enter Tryz.func101,Tryz.ntmps101;go_upto_region 1 with (fail)
 rw [<- hw0,<- hS];clear hw0 hS;by_cases h2:kd=2
 ·have q2:(kd==2)=true:=by rw [h2];rfl
  by_cases h3:lv=1
  ·have q3:(lv==1)=true:=by rw [h3];rfl
   have HV:Hid (tB kd lv=true):=by show _=_;unfold tB;rw [h2,h3];rfl
   clear h2 h3;go_wp2;go_ret;exact ⟨by rw [HV.out];rfl,B0.out⟩
  ·have q3:(lv==1)=false:=by rw [beq_eq_false_iff_ne];exact h3
   by_cases h4:lv=2
   ·have q4:(lv==2)=true:=by rw [h4];rfl
    have HV:Hid (tB kd lv=true):=by show _=_;unfold tB;rw [h2,h4];rfl
    clear h2 h3 h4;go_wp2;go_ret;exact ⟨by rw [HV.out];rfl,B0.out⟩
   ·have q4:(lv==2)=false:=by rw [beq_eq_false_iff_ne];exact h4
    have HV:Hid (tB kd lv=false):=by show _=_;unfold tB;simp [h3,h4]
    clear h2 h3 h4;go_wp2;go_ret;exact ⟨by rw [HV.out];rfl,B0.out⟩
 ·have q2:(kd==2)=false:=by rw [beq_eq_false_iff_ne];exact h2
  have HV:Hid (tB kd lv=false):=by show _=_;unfold tB;simp [h2]
  clear h2;go_wp2;go_ret;exact ⟨by rw [HV.out];rfl,B0.out⟩
theorem Gg (kd lv:Int) (i t d ti id:ByteArray) (ac ap al ak:Option Addr) (nc cc np cp nl cl nk ck:Nat) (w:jn8) : Calls Tryz.prog 100 #[.agg #[.int .i64 kd,.int .i64 lv,.string i,.string t,.string d,.string ti,.string id,.slice ac nc cc,.slice ap np cp,.slice al nl cl,.slice ak nk ck]] w (dH (.bool (bB kd lv)) w):=by
 obtain ⟨S,hS⟩:∃ S,S=w.heap.size:=⟨_,rfl⟩;obtain ⟨w0,hw0⟩:∃ w0,w0=w.alloc (.cells #[.int .i64 kd,.int .i64 lv,.string i,.string t,.string d,.string ti,.string id,.slice ac nc cc,.slice ap np cp,.slice al nl cl,.slice ak nk ck] 133):=⟨_,rfl⟩;have k0:CB 133 S [.int .i64 kd,.int .i64 lv,.string i,.string t,.string d,.string ti,.string id,.slice ac nc cc,.slice ap np cp,.slice al nl cl,.slice ak nk ck] w0:=by rw [hw0,hS];exact CB.new _ _ w
 have B0:Hid (jn9 w.heap.size w w0):=by show jn9 _ _ _;rw [hw0];exact (jk6 _ _).alloc (jk7 _) _
 have e0:=k0.cell 0 _ rfl;have e1:=k0.cell 1 _ rfl;have e2:=k0.cell 2 _ rfl;have e3:=k0.cell 3 _ rfl;have e4:=k0.cell 4 _ rfl;have e5:=k0.cell 5 _ rfl;have e6:=k0.cell 6 _ rfl;have e7:=k0.cell 7 _ rfl;have e8:=k0.cell 8 _ rfl;have e9:=k0.cell 9 _ rfl;have e10:=k0.cell 10 _ rfl;have TC:=hid (zx kd lv i t d ti id ac ap al ak nc cc np cp nl cl nk ck w0);clear k0;go_enter Tryz.func100,Tryz.ntmps100;go_upto_region 1 with (fail)
 rw [<- hw0,<- hS];clear hw0 hS;by_cases h5:kd=5
 ·have q5:(kd==5)=true:=by rw [h5];rfl
  have HV:Hid (bB kd lv=true):=by show _=_;unfold bB;rw [h5];rfl
  clear h5;go_wp2;go_ret;exact ⟨by rw [HV.out];rfl,B0.out⟩
 ·have q5:(kd==5)=false:=by rw [beq_eq_false_iff_ne];exact h5
  have HV:Hid (bB kd lv=tB kd lv):=by show _=_;unfold bB;simp [h5]
  clear h5;go_wp2_with fail
  (with_reducible refine TC.out.mono ?_)
  rintro e w1 ⟨rfl,b1⟩;have BF:=hid (aQ B0.out b1);clear b1;go_wp2;go_ret;exact ⟨by rw [HV.out];rfl,BF.out⟩
def Pt.d (p:Pt):D:=.st [.bool p.ti,iU p.bl]
theorem Pt.dS {ok:Nat->Prop} {w:jn8} (p:Pt) {v:jnj} (h:Rd ok w (iU p.bl) [v]):Rd ok w p.d [.bool p.ti,v]:=by have:=Rd.sI (ok:=ok) (w:=w) (aH.cons (Rd.IQ ok w p.ti) (aH.one h));simpa [Pt.d] using this
theorem Pt.open_ {ok:Nat->Prop} {w:jn8} {p:Pt} {cs:List jnj} (h:Rd ok w p.d cs):∃ v,cs=[.bool p.ti,v]/\Rd ok w (iU p.bl) [v]:=by
 obtain ⟨rows,h1,rfl⟩:=Rd.jJ h;obtain ⟨r1,rs,rfl,h2,h3⟩:=h1.aD;obtain ⟨r2,rs2,rfl,h4,h5⟩:=h3.aD;obtain rfl:=h5.bZ;obtain rfl:=Rd.zy h2;obtain ⟨a,n,c,e⟩:∃ a n c,r2=[.slice a n c]:=by unfold iU at h4;obtain ⟨a,c,e,-⟩:=Rd.ay h4;exact ⟨a,_,c,e⟩
 subst e;exact ⟨_,by simp,h4⟩
theorem Vt:(Tryz.prog.info? 96).map (fun i=>(i.zero,i.size,i.bytes))=some (some (.agg #[.bool false,.slice none 0 0]),2,32):=by kernel_rfl
def fE (ok:Nat->Prop) (p M:Nat) (s:tN) (w:jn8):Prop:=
 ∃ (UA:Nat) (wA wO:jn8) (rA rO:List (List jnj)) (va vo:jnj),wA.heap.size=p+3/\UA<=wO.heap.size/\aB 96 2 ok UA wA (s.all.map Pt.d) rA va w/\aB 48 11 ok M wO (s.op.bl.map ah.d) rO vo w /\
  aG p va 93 w/\CB 96 (p+1) [.bool s.op.ti,vo] w/\aG (p+2) (.bool s.some_) 4 w/\(s.op.bl=[]->vo.ownBlock=none)
theorem fE.below {ok:Nat->Prop} {p M:Nat} {s:tN} {w w':jn8} (h:fE ok p M s w) (hb:jn9 w.heap.size w w'):fE ok p M s w':=by
 obtain ⟨UA,wA,wO,rA,rO,va,vo,h1,h2,h3,h4,h5,h6,h7,h8⟩:=h;have hp:p+3<=w.heap.size:=by have:=h3.lX;have:=h3.tK;omega
 exact ⟨UA,wA,wO,rA,rO,va,vo,h1,h2,h3.below hb,h4.below hb,(hb.block p (by omega)).trans h5,(hb.block (p+1) (by omega)).trans h6,(hb.block (p+2) (by omega)).trans h7,h8⟩
theorem fE.sz {ok:Nat->Prop} {p M:Nat} {s:tN} {w:jn8} (h:fE ok p M s w):p+3<=M/\M<=w.heap.size:=by obtain ⟨UA,wA,wO,rA,rO,va,vo,h1,h2,h3,h4,h5,h6,h7,h8⟩:=h;have:=h3.lX;have:=h4.lX;have:=h4.tK;omega
theorem fE.top {ok:Nat->Prop} {p M:Nat} {s:tN} {w:jn8} (h:fE ok p M s w):fE ok p w.heap.size s w:=by obtain ⟨UA,wA,wO,rA,rO,va,vo,h1,h2,h3,h4,h5,h6,h7,h8⟩:=h;exact ⟨UA,wA,wO,rA,rO,va,vo,h1,h2,h3,h4.top,h5,h6,h7,h8⟩
theorem fE.opc {ok:Nat->Prop} {p M:Nat} {s:tN} {w:jn8} (h:fE ok p M s w):∃ vo,CB 96 (p+1) [.bool s.op.ti,vo] w/\∃ a n c,vo=.slice a n c:=by obtain ⟨UA,wA,wO,rA,rO,va,vo,h1,h2,h3,h4,h5,h6,h7,h8⟩:=h;exact ⟨vo,h6,h4.Tk⟩
theorem fE.smc {ok:Nat->Prop} {p M:Nat} {s:tN} {w:jn8} (h:fE ok p M s w):aG (p+2) (.bool s.some_) 4 w:=by obtain ⟨UA,wA,wO,rA,rO,va,vo,h1,h2,h3,h4,h5,h6,h7,h8⟩:=h;exact h7
def qO (ok:Nat->Prop) (p M:Nat) (s:tN) (w:jn8) (e:Ending) (w':jn8):Prop:=e=.returned (.tuple #[])/\fE ok p w'.heap.size s w'/\jn9 p w w'/\∀ b,M<=b->b<w.heap.size->w'.heap[b]?=w.heap[b]?
theorem fE.Y7 {ok:Nat->Prop} {p M:Nat} {al:List Pt} {ti:Bool} {bl:List ah} {sm:Bool} {w:jn8} (hok:∀ b,ok b->b<p) (h:fE ok p M ⟨al,⟨ti,bl⟩,sm⟩ w) (u:Bool):fE ok p M ⟨al,⟨u,bl⟩,sm⟩ (w.setCell ⟨p+1,0,none⟩ (.bool u)):=by
 obtain ⟨UA,wA,wO,rA,rO,va,vo,h1,h2,h3,h4,h5,h6,h7,h8⟩:=h;have hA:=h3.lX;have k2:∀ b,b≠p+1->(w.setCell ⟨p+1,0,none⟩ (.bool u)).heap[b]?=w.heap[b]?:=fun b hb=>jl0 _ ⟨p+1,0,none⟩ _ b hb
 have g2:w.grownBy (w.setCell ⟨p+1,0,none⟩ (.bool u)) (some (p+1)):=⟨rfl,rfl,rfl,by simp [jm0],fun b _ hb=>k2 b (fun e=>hb (by rw [e]))⟩;obtain ⟨QC,e2,r2⟩:=h3.qP (p:=p+1) (by omega) (fun h=>by have:=hok _ h;omega) g2;obtain ⟨QD,e3,r3⟩:=h4.qP (p:=p+1) (by omega) (fun h=>by have:=hok _ h;omega) g2;exact ⟨UA,QC,QD,rA,rO,va,vo,by omega,by omega,r2,r3,(k2 p (by omega)).trans h5,dF h6 0 _,(k2 (p+2) (by omega)).trans h7,h8⟩
theorem fE.setSm {ok:Nat->Prop} {p M:Nat} {al:List Pt} {op:Pt} {sm:Bool} {w:jn8} (hok:∀ b,ok b->b<p) (h:fE ok p M ⟨al,op,sm⟩ w) (u:Bool):fE ok p M ⟨al,op,u⟩ (w.setCell ⟨p+2,0,none⟩ (.bool u)):=by
 obtain ⟨UA,wA,wO,rA,rO,va,vo,h1,h2,h3,h4,h5,h6,h7,h8⟩:=h;have hA:=h3.lX;have k2:∀ b,b≠p+2->(w.setCell ⟨p+2,0,none⟩ (.bool u)).heap[b]?=w.heap[b]?:=fun b hb=>jl0 _ ⟨p+2,0,none⟩ _ b hb
 have g2:w.grownBy (w.setCell ⟨p+2,0,none⟩ (.bool u)) (some (p+2)):=⟨rfl,rfl,rfl,by simp [jm0],fun b _ hb=>k2 b (fun e=>hb (by rw [e]))⟩;obtain ⟨QC,e2,r2⟩:=h3.qP (p:=p+2) (by omega) (fun h=>by have:=hok _ h;omega) g2;obtain ⟨QD,e3,r3⟩:=h4.qP (p:=p+2) (by omega) (fun h=>by have:=hok _ h;omega) g2;exact ⟨UA,QC,QD,rA,rO,va,vo,by omega,by omega,r2,r3,(k2 p (by omega)).trans h5,(k2 (p+1) (by omega)).trans h6,aG.set h7 _,h8⟩
theorem zB {ok:Nat->Prop} {p U M:Nat} {L:List Pt} {wA w:jn8} {rA:List (List jnj)} {va u0 u1:jnj} {sm:jnj} (h1:wA.heap.size=p+3) (hok:∀ b,ok b->b<p) (h3:aB 96 2 ok U wA (L.map Pt.d) rA va w) (h5:aG p va 93 w) (h6:CB 96 (p+1) [u0,u1] w) (h7:aG (p+2) sm 4 w) (hM:p+3<=M) : qO ok p M ⟨L,⟨false,[]⟩,true⟩ w (.returned (.tuple #[])) (((w.setCell ⟨p+1,0,none⟩ (.bool false)).setCell ⟨p+1,0+1,none⟩ (.slice none 0 0)).setCell ⟨p+2,0,none⟩ (.bool true)):=by
 have hu:=h3.tK;have hu0:=h3.lX;obtain ⟨w1,hw1⟩:∃ w1,w1=(w.setCell ⟨p+1,0,none⟩ (.bool false)).setCell ⟨p+1,0+1,none⟩ (.slice none 0 0):=⟨_,rfl⟩;rw [<- hw1];have k1:∀ b,b≠p+1->w1.heap[b]?=w.heap[b]?:=fun b hb=>by
  rw [hw1,jl0 _ ⟨p+1,0+1,none⟩ _ b hb,jl0 _ ⟨p+1,0,none⟩ _ b hb]
 have z1:w1.heap.size=w.heap.size:=by rw [hw1];simp [jm0]
 have g1:w.grownBy w1 (some (p+1)):=⟨by rw [hw1];rfl,by rw [hw1];rfl,by rw [hw1];rfl,by omega,fun b _ hb=>k1 b (fun e=>hb (by rw [e]))⟩;have c1:CB 96 (p+1) [.bool false,.slice none 0 0] w1:=by rw [hw1];exact dF (dF h6 0 _) 1 _
 obtain ⟨wA1,e1,r1⟩:=h3.qP (p:=p+1) (by omega) (fun h=>by have:=hok _ h;omega) g1;obtain ⟨w2,hw2⟩:∃ w2,w2=w1.setCell ⟨p+2,0,none⟩ (.bool true):=⟨_,rfl⟩;rw [<- hw2];have k2:∀ b,b≠p+2->w2.heap[b]?=w1.heap[b]?:=fun b hb=>by rw [hw2,jl0 _ ⟨p+2,0,none⟩ _ b hb]
 have z2:w2.heap.size=w1.heap.size:=by rw [hw2];simp [jm0]
 have g2:w1.grownBy w2 (some (p+2)):=⟨by rw [hw2];rfl,by rw [hw2];rfl,by rw [hw2];rfl,by omega,fun b _ hb=>k2 b (fun e=>hb (by rw [e]))⟩;have b7:aG (p+2) sm 4 w1:=(k1 (p+2) (by omega)).trans h7;obtain ⟨QC,e2,r2⟩:=r1.qP (p:=p+2) (by omega) (fun h=>by have:=hok _ h;omega) g2;refine ⟨rfl,⟨U,QC,w2,rA,[],va,.slice none 0 0,by omega,by omega,r2,aB.nil _ _ _ _,?_,(k2 (p+1) (by omega)).trans c1,by rw [hw2];exact b7.set _,fun _=>rfl⟩,?_,fun b hb _=>(k2 b (by omega)).trans (k1 b (by omega))⟩
 ·exact (k2 p (by omega)).trans ((k1 p (by omega)).trans h5)
 ·exact ⟨g2.os.trans g1.os,g2.tape.trans g1.tape,g2.output.trans g1.output,by omega,fun b hb=>(k2 b (by omega)).trans (k1 b (by omega))⟩
theorem vG (ok:Nat->Prop) (p M:Nat) (s:tN) (w:jn8) (hok:∀ b,ok b->b<p) (h:fE ok p M s w) (hl:s.all.length<=3000000) : Calls Tryz.prog 102 #[.pointer (some ⟨p+2,0,none⟩),.pointer (some ⟨p,0,none⟩),.pointer (some ⟨p+1,0,none⟩)] w (qO ok p M (dN s) w):=by
 have hsz:=h.sz;obtain ⟨UA,wA,wO,rA,rO,va,vo,h1,h2,h3,h4,h5,h6,h7,h8⟩:=h;obtain ⟨iP,hiP,xZ,yg,yh⟩:=info_parts Vt;obtain ⟨n,hn⟩:∃ n,n=(s.all.map Pt.d).length:=⟨_,rfl⟩;obtain ⟨av,cv,rfl,-,-⟩:=h3.cap hn.symm;obtain ⟨ao,no,co,rfl⟩:=h4.Tk;have hn1:n<=3000000:=by rw [hn,jkq];exact hl
 have hz:=h3.lX;have hz2:=h3.tK;obtain ⟨al,⟨ot,ob⟩,sm⟩:=s;have c0:=h5.cell;have f0:=h5.free;have d0:=h6.cell 0 _ rfl;have d1:=h6.cell 1 _ rfl;have df:=nO h6;have b0:=h7.cell;have bf:=h7.free;have xL:Hid (∀ g,(Value.slice av n cv).ownBlock=some g->wA.heap.size<=g/\g<M):=fun g hg=>⟨(h3.own.lt g hg).1,by have:=h3.oU g hg;have:=h4.lX;omega⟩
 have PV:=hid hok;have H1:=hid h1;have H2:=hid h2;have H3:=hid h3;have H4:=hid h4;have H5:=hid h5;have H6:=hid h6;have H7:=hid h7;have HN:=hid hn.symm;cases sm with
 | false=>
  have HF:Hid (qO ok p M (dN ⟨al,⟨ot,ob⟩,false⟩) w (.returned (.tuple #[])) (((w.setCell ⟨p+1,0,none⟩ (.bool false)).setCell ⟨p+1,0+1,none⟩ (.slice none 0 0)).setCell ⟨p+2,0,none⟩ (.bool true))):=zB (L:=al) h1 hok h3 h5 h6 h7 hsz.1;clear h1 h2 h3 h4 h5 h6 h7 h8 hok hn hl;go_enter Tryz.func102,Tryz.ntmps102;go_wp2
  go_end0
  exact HF.out
 | true=>
  have hx:Rd (fun b=>ok b\/UA<=b) w (Pt.d ⟨ot,ob⟩) [.bool ot,.slice ao no co]:=Pt.dS ⟨ot,ob⟩ (h4.rd.weaken (fun b hb=>hb.imp id (fun h=>jk8 h2 h)));have HX:=hid hx;clear h1 h2 h3 h4 h5 h6 h7 h8 hok hn hl hx;go_enter Tryz.func102,Tryz.ntmps102;go_wp2_with (at_builtin;refine sJ (n:=n) rfl _ _ 93 rfl iP _ 32 Tryz.underlying93 hiP xZ yg yh rfl (by decide) H3.out (fun b hb=>by have:=PV.out b hb;have:=H1.out;omega) (Pt.d ⟨ot,ob⟩) [.bool ot,.slice ao no co] HX.out rfl (by intro u hu;simp at hu;rcases hu with rfl | rfl<;>rfl) HN.out (by omega) (by decide) rfl rfl ?_)
  intro a' c' w1 hrow hg hat;have hz1:w.heap.size<=w1.heap.size:=by have:=hg.size;simp at this;omega
  have kb:∀ b,b<p+3->w1.heap[b]?=w.heap[b]?:=fun b hb=>(hg.block b (by have:=H1.out;simp;omega) (fun e=>by have:=(xL.out b e.symm).1;have:=H1.out;omega)).trans (jl1 w _ b (by have:=H1.out;omega))
  have bx1:aG p (.slice av n cv) 93 w1:=(kb p (by omega)).trans H5.out;have cx1:CB 96 (p+1) [.bool ot,.slice ao no co] w1:=(kb (p+1) (by omega)).trans H6.out;have sx1:aG (p+2) (.bool true) 4 w1:=(kb (p+2) (by omega)).trans H7.out;obtain ⟨w2,hw2⟩:∃ w2,w2=w1.setCell ⟨p,0,none⟩ (.slice a' (n+1) c'):=⟨_,rfl⟩;have g2:w1.grownBy w2 (some p):=⟨by rw [hw2];rfl,by rw [hw2];rfl,by rw [hw2];rfl,by rw [hw2];simp [jm0],fun b _ hb=>by rw [hw2];exact jl0 w1 ⟨p,0,none⟩ _ b (fun e=>hb (by rw [e]))⟩;obtain ⟨QC,e2,r2⟩:=hrow.qP (p:=p) (by have:=H1.out;omega) (fun h=>by have:=PV.out _ h;omega) g2;have kc:∀ b,b≠p->w2.heap[b]?=w1.heap[b]?:=fun b hb=>by rw [hw2];exact jl0 w1 ⟨p,0,none⟩ _ b hb
  have hz3:w1.heap.size<=w2.heap.size:=g2.size;have Y8:=(kc (p+1) (by omega)).trans cx1;have sx2:=(kc (p+2) (by omega)).trans sx1;have HF:=zB (wA:=QC) (L:=al++[⟨ot,ob⟩]) (by have:=H1.out;omega) PV.out (by rw [List.map_append];exact r2) (by rw [hw2];exact bx1.set _) Y8 sx2 hsz.1;have Y9:Hid (qO ok p M (dN ⟨al,⟨ot,ob⟩,true⟩) w (.returned (.tuple #[])) (((w2.setCell ⟨p+1,0,none⟩ (.bool false)).setCell ⟨p+1,0+1,none⟩ (.slice none 0 0)).setCell ⟨p+2,0,none⟩ (.bool true))):=by obtain ⟨f1,f2,f3,f4⟩:=HF;refine ⟨f1,f2,⟨f3.os.trans (g2.os.trans hg.os),f3.tape.trans (g2.tape.trans hg.tape),f3.output.trans (g2.output.trans hg.output),by have:=f3.size;omega,fun b hb=>((f3.block b hb).trans (kc b (by omega))).trans (kb b (by omega))⟩,fun b hb hlt=>?_⟩;refine ((f4 b hb (by omega)).trans (kc b (by omega))).trans ((hg.block b (by simp;omega) (fun e=>by have:=xL.out b e.symm;omega)).trans (jl1 w _ b hlt))
  have x0:=bx1.cell;have xf:=bx1.free;have y0:=(show CB 96 (p+1) [.bool ot,.slice ao no co] w2 from Y8).cell 0 _ rfl;have y1:=(show CB 96 (p+1) [.bool ot,.slice ao no co] w2 from Y8).cell 1 _ rfl;have yf:=nO (show CB 96 (p+1) [.bool ot,.slice ao no co] w2 from Y8);have s0:=(show aG (p+2) (.bool true) 4 w2 from sx2).cell;have sf:=(show aG (p+2) (.bool true) 4 w2 from sx2).free;clear hrow hg hat hz1 hsz kb bx1 cx1 sx1 g2 e2 r2 kc hz3 Y8 sx2 HF c0 f0 d0 d1 df b0 bf;go_upto_region 2 with (fail)
  rw [<- hw2];clear hw2 x0 xf;go_wp2
  go_end0
  exact Y9.out
open Go.RowKit
structure YN (li:List aj):Prop where
 sz:aj.aU li<=900000
 sm:aj.aF li
 tf:aj.Gd li
theorem sK (name:ByteArray):∀ (cs:List UInt8) (l:List ah) (k:Nat) (c:UInt8) (b:ah),cs[k]?=some c->l[k]?=some b->oM name (cs.take (k+1)) (l.take (k+1))=oM name (cs.take k) (l.take k)++[Tm name c b]
 | [],_,_,_,_,h,_=>by simp at h
 | _::_,[],_,_,_,_,h=>by simp at h
 | c0::cs,b0::l,0,c,b,h1,h2=>by
  simp at h1 h2;subst h1 h2;simp [oM]
 | c0::cs,b0::l,k+1,c,b,h1,h2=>by
  rw [List.take_succ_cons,List.take_succ_cons,List.take_succ_cons,List.take_succ_cons,oM,oM,sK name cs l k c b (by simpa using h1) (by simpa using h2)];rfl
theorem vH (name:ByteArray):∀ (cs:List UInt8) (l:List ah),(oM name cs l).length<=l.length
 | [],l=>by simp [oM]
 | _::_,[]=>by simp [oM]
 | c::cs,b::l=>by rw [oM,jkx,jkx];have:=vH name cs l;omega
def MQ (Q:Nat) (w1:jn8) (name:ByteArray) (cs:List UInt8) (ks:List ah) (vi:jnj) (wr:jn8):Prop:=
 ∃ (k:Nat) (rows:List (List jnj)) (v:jnj) (U:Nat) (wB:jn8),k<=ks.length/\vi=.int .i64 k/\wB.heap.size=Q+1/\aB 35 4 (fun _=>False) U wB ((oM name (cs.take k) (ks.take k)).map Nd.d) rows v wr /\
  CB 35 Q [.string ⟨#[116,114]⟩,.string ⟨#[]⟩,.slice none 0 0,v] wr/\jn9 Q w1 wr
theorem cb4 {p:Nat} {w:jn8} {c0 c1 c2 c3:jnj} (h:CB 35 p [c0,c1,c2,c3] w):w.cell? ⟨p,0,none⟩=some c0/\w.cell? ⟨p,1,none⟩=some c1/\w.cell? ⟨p,2,none⟩=some c2/\w.cell? ⟨p,3,none⟩=some c3/\∀ j,w.frozen? ⟨p,j,none⟩=false:=
 ⟨h.cell 0 _ rfl,h.cell 1 _ rfl,h.cell 2 _ rfl,h.cell 3 _ rfl,nO h⟩
theorem D7 (k lv:Int) (i t d ti:ByteArray) (at_:At) (li:List aj) (ks:List ah) (vc vp vl vk:jnj) (name letters:ByteArray) (w:jn8) (hR:kE (·<w.heap.size) w at_ li ks vc vp vl vk) (hlen:ks.length=letters.size) (hk1:ks.length<=1000000) (hc:∀ c∈ks,YN c.mG) : Calls Tryz.prog 174 #[.agg #[.int .i64 k,.int .i64 lv,.string i,.string t,.string d,.string ti,.string at_.id,vc,vp,vl,vk],.string name,.string letters] w (sw w (aP xO [] (oM name letters.data.toList ks))):=by
 obtain ⟨iN,Fv,nX,nY,nZ⟩:=info_parts mE;obtain ⟨ac,nc,cc,rfl⟩:=Rd.au hR.at_.cls
 obtain ⟨ap,np,cp,rfl⟩:=Rd.au hR.at_.aI
 obtain ⟨al,nl,cl,rfl⟩:=Rd.au hR.line;obtain ⟨ak,ck,hvk,hs⟩:=Rd.ay hR.kids;obtain ⟨nk,hnk⟩:∃ nk,nk=ks.length:=⟨_,rfl⟩;obtain rfl:vk=.slice ak nk ck:=by rw [hnk];simpa using hvk
 have hcap:nk<=ck:=by have:=hs.le;rw [jkq] at this;omega
 have hmx:=hs.max;unfold maxLen at hmx;have hnl:nk=letters.size:=by rw [hnk,hlen]
 obtain ⟨S,W0,hS,hW0,z0,k0,k1,b0⟩:=qQ 48 w [.int .i64 k,.int .i64 lv,.string i,.string t,.string d,.string ti,.string at_.id,.slice ac nc cc,.slice ap np cp,.slice al nl cl,.slice ak nk ck];have KX:Hid (∀ w':jn8,jn9 W0.heap.size W0 w'->w'.cell? ⟨S,10,none⟩=some (.slice ak nk ck)):=fun w' hb=>(k0.below hb).cell 10 _ rfl
 have HS2:Hid (l9 (·<S) W0 11 (ks.map ah.d) ak ck):=by subst hS;exact hs.below b0
 have CF:=hid hS;have HW0:=hid hW0;have Z0:=hid z0;have B0:=hid b0;have K1:=hid k1;have HC:=hid hc;have Iq:=hid hnk;have xM:=hid hnl;have EC:=hid (ku ⟨#[116,114]⟩ none none 0 0 0 0 W0);have YP:nk<=1000000:=by omega
 have hls:letters.size<=1000000:=by omega
 clear hR hvk hs hnk hnl hlen hS hW0 z0 k0 k1 b0 hc hk1;go_enter Tryz.func174,Tryz.ntmps174;go_upto_region 1 with (fail)
 rw [<- CF.out];have hk0:=HW0.out;simp only [jG] at hk0;rw [<- hk0];clear hk0;go_wp2_with fail
 (with_reducible refine EC.out.mono ?_)
 rintro e w1 ⟨rfl,b1⟩;go_upto_region 2 with (fail)
 obtain ⟨Q,hQ⟩:∃ Q,Q=w1.heap.size:=⟨_,rfl⟩;obtain ⟨wQ,Vu⟩:∃ wQ,wQ=w1.alloc (.cells #[.string ⟨#[116,114]⟩,.string ⟨#[]⟩,.slice none 0 0,.slice none 0 0] 35):=⟨_,rfl⟩;have zQ:wQ.heap.size=Q+1:=by rw [Vu,hQ];simp
 have kQ:CB 35 Q [.string ⟨#[116,114]⟩,.string ⟨#[]⟩,.slice none 0 0,.slice none 0 0] wQ:=by rw [Vu,hQ];exact CB.new _ _ w1
 have bQ:jn9 Q w1 wQ:=by rw [Vu,hQ];exact (jk6 _ _).alloc (jk7 _) _
 have hWQ:W0.heap.size<=Q:=by rw [hQ];exact b1.size
 have R0:Hid (MQ Q w1 name letters.data.toList ks (.int .i64 0) wQ):=⟨0,[],_,Q+1,wQ,Nat.zero_le _,rfl,zQ,by rw [<- zQ];exact aB.nil _ _ _ _,kQ,bQ⟩;have B1:=hid b1;have g10:=KX.out wQ (b1.trans (bQ.mono hWQ));rw [<- Vu,<- hQ];clear Vu zQ kQ bQ b1 EC hQ;go_wp2
 go_loopw [15] (fun vi wr=>MQ Q w1 name letters.data.toList ks vi wr) (fun i _=>nk-(intOf i).toNat)
 case atStart=>exact R0.out
 case round=>
  clear R0 g10;obtain ⟨j,rows,v,U,wB,hj,rfl,Tg,hrow,hcb,hbel⟩:=hrel;obtain ⟨ds,hds⟩:∃ ds,ds=(oM name (letters.data.toList.take j) (ks.take j)).map Nd.d:=⟨_,rfl⟩;rw [<- hds] at hrow;obtain ⟨m,hm⟩:∃ m,m=ds.length:=⟨_,rfl⟩;have hmj:m<=1000000:=by have h:=vH name (letters.data.toList.take j) (ks.take j);have h2:(ks.take j).length<=ks.length:=List.length_take_le' _ _;rw [hm,hds,jkq];have:=Iq.out;omega
  obtain ⟨av,cv,rfl,-,-⟩:=hrow.cap hm.symm;have HM:=hid hm.symm;have Fu:=hid hds;have bV:=hid hrow;have PX:=hid hcb;have Cy:=hid Tg;have dA:=hid hbel;have hUr:=hrow.tK;have hQU:Q+1<=U:=by have:=hrow.lX;omega
  clear hrow hcb hm hds Tg hbel;by_cases hlt:j<nk
  ·obtain ⟨y,hy⟩:∃ y,ks[j]?=some y:=⟨_,jk5 (by have:=Iq.out;omega)⟩;have hjs:j<letters.size:=by have:=xM.out;omega
   obtain ⟨c,hcx⟩:∃ c,letters.data.toList[j]?=some c:=⟨_,jk5 (by simpa using hjs)⟩;have hsn:=sK name _ _ _ _ _ hcx hy;have hlw:=HC.out y (jl3 hy);obtain ⟨yk,Ir,yi,yt,yd,Iu,F5,J7,Iw⟩:=y;have hlw:YN J7:=hlw;obtain ⟨g,off,vc,vp,vl,vk,rfl,hok,hbl,hc,hR⟩:=F6 HS2.out hy;have Vv:jn9 S W0 wr:=((jk6 _ _).trans (B1.out.mono (by have:=Z0.out;omega))).trans (dA.out.mono (by have:=Z0.out;omega));obtain ⟨c0,c1,c2,c3,c4,c5,c6,c7,c8,c9,c10⟩:=hc.at2 (w':=wr) (Vv.block g hok);obtain ⟨Ms,Mt,Mv,rfl⟩:=Rd.au hR.at_.cls
   obtain ⟨Mw,Mx,MB,rfl⟩:=Rd.au hR.at_.aI
   obtain ⟨Ct,Cu,Cv,rfl⟩:=Rd.au hR.line;obtain ⟨MC,ME,MF,rfl⟩:=Rd.au hR.kids;have HLI:Hid (Rd (·<S) W0 (aV J7) [.slice Ct Cu Cv]):=hR.line;have HLW:=hid hlw;have rX:=hid (show (oM name (letters.data.toList.take (j+1)) (ks.take (j+1))).map Nd.d=ds++[(aP name (jE yx (fM c)) (jY J7)).d] by rw [hsn,List.map_append,Fu.out];rfl);have HCX:=hid hcx;have jdq:=hid Vv;have hlet:(letters[j]'hjs)=c:=by have h:=hcx;rw [jk5 (by simpa using hjs)] at h;exact Option.some.inj h
   have t7:(j:Int)<(letters.size:Int):=by omega
   clear hc hok hbl hR hsn hlw hy hcx Vv;go_upto_region 5 with (fail)
   obtain ⟨p,hp⟩:∃ p,p=wr.heap.size:=⟨_,rfl⟩;obtain ⟨wA,iE⟩:∃ wA,wA=wr.alloc (.cells #[.int .i64 yk,.int .i64 Ir,.string yi,.string yt,.string yd,.string Iu,.string F5.id,.slice Ms Mt Mv,.slice Mw Mx MB,.slice Ct Cu Cv,.slice MC ME MF] 48):=⟨_,rfl⟩;have PA:CB 48 p [.int .i64 yk,.int .i64 Ir,.string yi,.string yt,.string yd,.string Iu,.string F5.id,.slice Ms Mt Mv,.slice Mw Mx MB,.slice Ct Cu Cv,.slice MC ME MF] wA:=by rw [iE,hp];exact CB.new _ _ wr
   have bA:jn9 wr.heap.size wr wA:=by rw [iE];exact (jk6 _ _).alloc (jk7 _) _
   have zA:wA.heap.size=p+1:=by rw [iE,hp];simp
   rw [<- iE,<- hp];have hpr:wr.heap.size<=p:=by omega
   have hzA:wr.heap.size+1<=wA.heap.size:=by omega
   have hzp:p+1<=wA.heap.size:=by omega
   have hSW:S+2<=W0.heap.size:=Nat.le_of_eq Z0.out.symm;have BA:=hid bA;have HPA:=hid PA;have ZA:=hid zA;clear iE hp c0 c1 c2 c3 c4 c5 c6 c7 c8 c9 c10 PA bA zA;have q7:letters[j]?=some c:=by rw [<- hlet];exact getElem?_pos letters j hjs
   apply Za (α1:=jn8) (α2:=Option Addr) (α3:=Nat) (α4:=Nat) (α5:=Nat->jnj) (R:=fun w2 a2 n2 c2 f=>Hid (jn9 wA.heap.size wA w2)/\Hid (Rd (wA.heap.size<=·) w2 (bR (jE yx (fM c))) [.slice a2 n2 c2]));case hm=>
    intro REST;go_upto_region 7 with (fail)
    by_cases MR:c=108
    ·have q1:((c.toNat:Int)==108)=true:=by rw [MR];rfl
     have hal:jE yx (fM c)=[⟨yx,⟨#[108,101,102,116]⟩⟩]:=by rw [MR];rfl
     have PC:Hid (Calls Tryz.prog 41 #[.slice (some ⟨wA.heap.size,0,none⟩) 2 2] (wA.alloc (.cells #[.string ⟨#[97,108,105,103,110]⟩,.string ⟨#[108,101,102,116]⟩] 9)) (bJ (wA.alloc (.cells #[.string ⟨#[97,108,105,103,110]⟩,.string ⟨#[108,101,102,116]⟩] 9)) [⟨yx,⟨#[108,101,102,116]⟩⟩])):=Qj yx ⟨#[108,101,102,116]⟩ wA;go_wp2_with fail
     (with_reducible refine PC.out.mono ?_)
     rintro e w2 ⟨bP,v2,rfl,hrow2⟩;obtain ⟨a2,n2,c2,rfl⟩:=hrow2.slice3;have bl:jn9 wA.heap.size wA (wA.alloc (.cells #[.string ⟨#[97,108,105,103,110]⟩,.string ⟨#[108,101,102,116]⟩] 9)):=(jk6 _ _).alloc (jk7 _) _;have PR:=hid (show Rd (wA.heap.size<=·) w2 (bR (jE yx (fM c))) [.slice a2 n2 c2] by rw [hal];exact hrow2.fu.weaken (fun b hb=>jk8 bl.size hb));have B2:=hid (bl.trans (hrow2.aO.mono bl.size));clear hrow2 bl PC hal;go_upto_region 13 with (fail)
     refine nQ [22,23,24,25,26,27,28,29,30,31,32,33,34] (fun f=>?_);simp only [List.foldl_cons,List.foldl_nil,jk4,jk3];exact REST w2 a2 n2 c2 f ⟨B2,PR⟩
    by_cases XZ:c=99
    ·have jdx:((c.toNat:Int)==108)=false:=by rw [XZ];rfl
     have q1:((c.toNat:Int)==99)=true:=by rw [XZ];rfl
     have hal:jE yx (fM c)=[⟨yx,⟨#[99,101,110,116,101,114]⟩⟩]:=by rw [XZ];rfl
     have PC:Hid (Calls Tryz.prog 41 #[.slice (some ⟨wA.heap.size,0,none⟩) 2 2] (wA.alloc (.cells #[.string ⟨#[97,108,105,103,110]⟩,.string ⟨#[99,101,110,116,101,114]⟩] 9)) (bJ (wA.alloc (.cells #[.string ⟨#[97,108,105,103,110]⟩,.string ⟨#[99,101,110,116,101,114]⟩] 9)) [⟨yx,⟨#[99,101,110,116,101,114]⟩⟩])):=Qj yx ⟨#[99,101,110,116,101,114]⟩ wA;go_wp2_with fail
     (with_reducible refine PC.out.mono ?_)
     rintro e w2 ⟨bP,v2,rfl,hrow2⟩;obtain ⟨a2,n2,c2,rfl⟩:=hrow2.slice3;have bl:jn9 wA.heap.size wA (wA.alloc (.cells #[.string ⟨#[97,108,105,103,110]⟩,.string ⟨#[99,101,110,116,101,114]⟩] 9)):=(jk6 _ _).alloc (jk7 _) _;have PR:=hid (show Rd (wA.heap.size<=·) w2 (bR (jE yx (fM c))) [.slice a2 n2 c2] by rw [hal];exact hrow2.fu.weaken (fun b hb=>jk8 bl.size hb));have B2:=hid (bl.trans (hrow2.aO.mono bl.size));clear hrow2 bl PC hal;go_upto_region 13 with (fail)
     refine nQ [22,23,24,25,26,27,28,29,30,31,32,33,34] (fun f=>?_);simp only [List.foldl_cons,List.foldl_nil,jk4,jk3];exact REST w2 a2 n2 c2 f ⟨B2,PR⟩
    by_cases Gh:c=114
    ·have q99:((c.toNat:Int)==99)=false:=by rw [Gh];rfl
     have jdx:((c.toNat:Int)==108)=false:=by rw [Gh];rfl
     have q1:((c.toNat:Int)==114)=true:=by rw [Gh];rfl
     have hal:jE yx (fM c)=[⟨yx,⟨#[114,105,103,104,116]⟩⟩]:=by rw [Gh];rfl
     have PC:Hid (Calls Tryz.prog 41 #[.slice (some ⟨wA.heap.size,0,none⟩) 2 2] (wA.alloc (.cells #[.string ⟨#[97,108,105,103,110]⟩,.string ⟨#[114,105,103,104,116]⟩] 9)) (bJ (wA.alloc (.cells #[.string ⟨#[97,108,105,103,110]⟩,.string ⟨#[114,105,103,104,116]⟩] 9)) [⟨yx,⟨#[114,105,103,104,116]⟩⟩])):=Qj yx ⟨#[114,105,103,104,116]⟩ wA;go_wp2_with fail
     (with_reducible refine PC.out.mono ?_)
     rintro e w2 ⟨bP,v2,rfl,hrow2⟩;obtain ⟨a2,n2,c2,rfl⟩:=hrow2.slice3;have bl:jn9 wA.heap.size wA (wA.alloc (.cells #[.string ⟨#[97,108,105,103,110]⟩,.string ⟨#[114,105,103,104,116]⟩] 9)):=(jk6 _ _).alloc (jk7 _) _;have PR:=hid (show Rd (wA.heap.size<=·) w2 (bR (jE yx (fM c))) [.slice a2 n2 c2] by rw [hal];exact hrow2.fu.weaken (fun b hb=>jk8 bl.size hb));have B2:=hid (bl.trans (hrow2.aO.mono bl.size));clear hrow2 bl PC hal;go_upto_region 13 with (fail)
     refine nQ [22,23,24,25,26,27,28,29,30,31,32,33,34] (fun f=>?_);simp only [List.foldl_cons,List.foldl_nil,jk4,jk3];exact REST w2 a2 n2 c2 f ⟨B2,PR⟩
    have q1:((c.toNat:Int)==108)=false:=by rw [beq_eq_false_iff_ne];intro h;exact MR (UInt8.toNat_inj.1 (show c.toNat=108 by omega))
    have q2:((c.toNat:Int)==99)=false:=by rw [beq_eq_false_iff_ne];intro h;exact XZ (UInt8.toNat_inj.1 (show c.toNat=99 by omega))
    have q3:((c.toNat:Int)==114)=false:=by rw [beq_eq_false_iff_ne];intro h;exact Gh (UInt8.toNat_inj.1 (show c.toNat=114 by omega))
    have hal:fM c=⟨#[]⟩:=by unfold fM;rw [if_neg MR,if_neg XZ,if_neg Gh]
    have PR:Hid (Rd (wA.heap.size<=·) wA (bR (jE yx (fM c))) [.slice none 0 0]):=by rw [hal];exact Rd.aC _ _ _
    clear MR XZ Gh hal;go_upto_region 13 with (fail)
    refine nQ [22,23,24,25,26,27,28,29,30,31,32,33,34] (fun f=>?_);simp only [List.foldl_cons,List.foldl_nil,jk4,jk3];exact REST wA none 0 0 f ⟨jk6 _ _,PR⟩
   case hr=>
    intro w2 a2 n2 c2 f ⟨B2,PR⟩;have U2:=hid ((bV.out.below BA.out).below B2.out);have CQ2:=hid ((PX.out.below BA.out).below B2.out);have LJ:=hid (HPA.out.below B2.out);have hz2:=B2.out.size;have LC:=hid (zl 900000 J7 (.slice Ct Cu Cv) w2.drew HLW.out.sz (by decide) (Rd.keep (w:=W0) (w':=w2.drew) (ok:=(·<S)) (fun b (hb:b<S) hlt=>⟨by show b<w2.heap.size;have:=Z0.out;omega,(show w2.heap[b]?=W0.heap[b]? from (B2.out.block b (by have:=Z0.out;omega)).trans ((BA.out.block b (by have:=Z0.out;omega)).trans (jdq.out.block b hb)))⟩) _ _ HLI.out) HLW.out.sm HLW.out.tf);have S0:w2.drew.cell? ⟨Q,3,none⟩=some (.slice av m cv)/\w2.drew.cell? ⟨p,9,none⟩=some (.slice Ct Cu Cv):=⟨CQ2.out.cell 3 _ rfl,LJ.out.cell 9 _ rfl⟩;refine mJ 11 (fun w'=>w'.cell? ⟨Q,3,none⟩=some (.slice av m cv)/\w'.cell? ⟨p,9,none⟩=some (.slice Ct Cu Cv)) (by kernel_rfl) S0 ?_;intro hH;refine PO 0 (v:=?_) rfl (by kernel_rfl) hH (by rfl) ?_ ?_;rotate_left
    ·(intro wv hSw;(try dsimp only at hSw);go_simp;try with_reducible rfl)
    try simp only [Act.put,jk2,jk3,jk4]
    refine PO 1 (v:=?_) rfl (by kernel_rfl) hH (by rfl) ?_ ?_;rotate_left
    ·(intro wv hSw;(try dsimp only at hSw);go_simp;try with_reducible rfl)
    try simp only [Act.put,jk2,jk3,jk4]
    refine PO 2 (v:=?_) rfl (by kernel_rfl) hH (by rfl) ?_ ?_;rotate_left
    ·(intro wv hSw;(try dsimp only at hSw);go_simp;try with_reducible rfl)
    try simp only [Act.put,jk2,jk3,jk4]
    refine PO 3 (v:=?_) rfl (by kernel_rfl) hH (by rfl) ?_ ?_;rotate_left
    ·(intro wv hSw;(try dsimp only at hSw);go_simp;try with_reducible rfl)
    try simp only [Act.put,jk2,jk3,jk4]
    refine PO 4 (v:=?_) rfl (by kernel_rfl) hH (by rfl) ?_ ?_;rotate_left
    ·(intro wv hSw;(try dsimp only at hSw);go_simp;try with_reducible rfl)
    try simp only [Act.put,jk2,jk3,jk4]
    refine PO 5 (v:=?_) rfl (by kernel_rfl) hH (by rfl) ?_ ?_;rotate_left
    ·(intro wv hSw;(try dsimp only at hSw);go_simp;try with_reducible rfl)
    try simp only [Act.put,jk2,jk3,jk4]
    refine Ga (i:=6) rfl (by kernel_rfl) (fun KQ hK=>?_);go_simp;go_at_call 78
    (with_reducible refine LC.out.mono ?_)
    rintro e w3 ⟨gu,v3,rfl,hrow3⟩;obtain ⟨a3,n3,c3,rfl⟩:=hrow3.slice3;have b3:jn9 w2.heap.size w2 w3:=((jk6 _ _).drew).trans hrow3.aO;have B3:=hid b3;have KS3:=hid (show Rd (w2.heap.size<=·) w3 (cO (jY J7)) [.slice a3 n3 c3] from hrow3.fu);have Q3:=CQ2.out.below b3;have P3:=LJ.out.below b3;have S3:w3.cell? ⟨Q,3,none⟩=some (.slice av m cv)/\w3.cell? ⟨p,9,none⟩=some (.slice Ct Cu Cv):=⟨Q3.cell 3 _ rfl,P3.cell 9 _ rfl⟩;have U3:=hid (U2.out.below b3);have CG:=hid Q3;have Fx:=hid P3;have EC:=hid (ku name a2 a3 n2 n3 c2 c3 w3);clear hrow3 b3 Q3 P3 LC U2;refine hK.out _ _ (fun _=>S3) (fun hH2=>?_);clear hK KQ hH;have hH:=hH2 (by decide);clear hH2;try simp only [Act.put,jk2,jk3,jk4]
    refine Ga (i:=7) rfl (by kernel_rfl) (fun KQ hK=>?_);go_simp;go_at_call 40
    (with_reducible refine EC.out.mono ?_)
    rintro e w4 ⟨rfl,b4⟩;have B4:=hid (aQ B3.out b4);have U4:=hid (U3.out.below b4);have Q4:=CG.out.below b4;have P4:=Fx.out.below b4;have S4:w4.cell? ⟨Q,3,none⟩=some (.slice av m cv)/\w4.cell? ⟨p,9,none⟩=some (.slice Ct Cu Cv):=⟨Q4.cell 3 _ rfl,P4.cell 9 _ rfl⟩;have Tn:=hid Q4;have Vw:=hid P4;have hz4:=B4.out.size;have XD:=hid (show Rd (fun b=>False\/U<=b) w4 (aP name (jE yx (fM c)) (jY J7)).d [.string name,.string ⟨#[]⟩,.slice a2 n2 c2,.slice a3 n3 c3] from Nd.dS name ⟨#[]⟩ ⟨Rd.weaken ((PR.out.aY B3.out).aY b4) (fun b hb=>.inr (by omega)),Rd.weaken (KS3.out.aY b4) (fun b hb=>.inr (by omega))⟩);clear b4 Q4 P4 EC U3 KS3 CG Fx;refine hK.out _ _ (fun _=>S4) (fun hH2=>?_);clear hK KQ hH;have hH:=hH2 (by decide);clear hH2;try simp only [Act.put,jk2,jk3,jk4]
    refine Ga (i:=8) rfl (by kernel_rfl) (fun KQ hK=>?_);go_simp;refine hK.out _ _ (fun _=>⟨past S4.1 _,past S4.2 _⟩) (fun hH2=>?_);clear hK KQ hH;have hH:=hH2 (by decide);clear hH2;try simp only [Act.put,jk2,jk3,jk4]
    refine Ga (i:=9) rfl (by kernel_rfl) (fun KQ hK=>?_);refine uV rfl (.tmp 36) (.tmp 43) 28 rfl iN _ 80 Tryz.underlying28 Fv nX nY nZ rfl (by decide) U4.out (fun _=>False.elim) (aP name (jE yx (fM c)) (jY J7)).d [.string name,.string ⟨#[]⟩,.slice a2 n2 c2,.slice a3 n3 c3] XD.out rfl jH HM.out (by omega) (by decide) rfl rfl ?_;intro a5 c5 w5 bg hg5;have hz5:w4.heap.size+1<=w5.heap.size:=by have h:=hg5.size;simp at h;exact h
    have hvQ:some Q≠(Value.slice av m cv).ownBlock:=fun e=>by have:=(U4.out.own.lt Q e.symm).1;have:=Cy.out;omega
    have hvp:some p≠(Value.slice av m cv).ownBlock:=fun e=>by have:=U4.out.oU p e.symm;omega
    have q5:CB 35 Q [.string ⟨#[116,114]⟩,.string ⟨#[]⟩,.slice none 0 0,.slice av m cv] w5:=(hg5.block Q (by simp;omega) hvQ).trans ((jl1 w4 _ Q Tn.out.lt).trans Tn.out);have p5:CB 48 p [.int .i64 yk,.int .i64 Ir,.string yi,.string yt,.string yd,.string Iu,.string F5.id,.slice Ms Mt Mv,.slice Mw Mx MB,.slice Ct Cu Cv,.slice MC ME MF] w5:=(hg5.block p (by simp;omega) hvp).trans ((jl1 w4 _ p Vw.out.lt).trans Vw.out);have S5:w5.cell? ⟨Q,3,none⟩=some (.slice av m cv)/\w5.cell? ⟨p,9,none⟩=some (.slice Ct Cu Cv):=⟨q5.cell 3 _ rfl,p5.cell 9 _ rfl⟩;have fz:=nO q5;have e3:=q5.cell 3 _ rfl;have HQ5:=hid q5;have U5:=hid bg;have Ti:=hid hg5;clear bg hg5 q5 p5 hvp XD;refine hK.out _ _ (fun _=>S5) (fun hH2=>?_);clear hK KQ hH;have hH:=hH2 (by decide);clear hH2;try simp only [Act.put,jk2,jk3,jk4]
    refine Ga (i:=10) rfl (by kernel_rfl) (fun KQ hK=>?_);go_simp;refine hK.out _ _ (fun _=>S5) (fun hH2=>?_);clear hK KQ hH;have hH:=hH2 (by decide);clear hH2;try simp only [Act.put,jk2,jk3,jk4]
    refine Ga (i:=11) rfl (by kernel_rfl) (fun KQ hK=>?_);go_simp;refine hK.out _ _ (fun h=>absurd rfl h) (fun _=>?_);clear hK KQ;refine mK (by kernel_rfl) ?_ _;obtain ⟨w6,iH⟩:∃ w6,w6=w5.setCell ⟨Q,3,none⟩ (.slice a5 (m+1) c5):=⟨_,rfl⟩;rw [<- iH];have g6:w5.grownBy w6 (some Q):=by rw [iH];exact ⟨rfl,rfl,rfl,by simp [jm0],fun b _ hb=>jl0 w5 ⟨Q,3,none⟩ _ b (fun e=>hb (by rw [e]))⟩
    have q6:CB 35 Q [.string ⟨#[116,114]⟩,.string ⟨#[]⟩,.slice none 0 0,.slice a5 (m+1) c5] w6:=by rw [iH];exact dF HQ5.out 3 _
    have Vq:w6.heap.size=w5.heap.size:=by rw [iH];simp [jm0]
    obtain ⟨wB6,hB6,pU⟩:=U5.out.hop2 (p:=Q) (by have:=Cy.out;omega) g6;have HF:Hid (MQ Q w1 name letters.data.toList ks (.int .i64 ((j+1:Nat):Int)) w6):=by
     have h1:=pU.up (U':=w6.heap.size) (by omega) (jk7 _);rw [<- rX.out] at h1;refine ⟨j+1,_,_,w6.heap.size,wB6,by have:=Iq.out;omega,rfl,hB6.trans Cy.out,h1,q6,?_⟩;have Vu:Q<=wr.heap.size:=by omega
     refine dA.out.trans ((BA.out.mono Vu).trans ((B2.out.mono (by have:=BA.out.size;omega)).trans ((B4.out.mono (by omega)).trans ?_)));exact ((jk6 _ _).alloc (by omega) _ |>.grown Ti.out (by simp;omega) (fun g hg=>by have:=(U4.out.own.lt g hg).1;have:=Cy.out;omega)).trans ((jk6 Q w5).grown g6 (by omega) (fun g hg=>by have:=Option.some.inj hg;omega))
    clear iH g6 q6 pU hB6 U5 Ti HQ5 hH S0 S3 S4 S5 fz e3 hvQ;go_wp2;go_roundw;case rel=>exact HF.out
    case measure=>simp [intOf];omega
  ·have hkl:j=nk:=by have:=Iq.out;omega
   have hjk:j=ks.length:=by have:=Iq.out;omega
   have hll:letters.data.toList.length=letters.size:=by simp
   have Zb:Hid (kU (W0.heap.size<=·) wr [] (oM name letters.data.toList ks) (.slice none 0 0) (.slice av m cv)):=by have h:=bV.out.fu;rw [Fu.out,jl9 (by rw [hll];have:=xM.out;omega),jl9 (by omega)] at h;exact ⟨Rd.aC _ _ _,h.weaken (fun b hb=>by have:=Cy.out;omega)⟩
   have BL:=hid (B1.out.trans (dA.out.mono hWQ));obtain ⟨x0,x1,x2,x3,xf⟩:=pI (K1.out.below BL.out);obtain ⟨y0,y1,y2,y3,-⟩:=cb4 PX.out;clear hll hjk;go_upto_region 15 with (fail)
   obtain ⟨w9,bM⟩:∃ w9,w9=four wr (S+1) (.string ⟨#[116,114]⟩) (.string ⟨#[]⟩) (.slice none 0 0) (.slice av m cv):=⟨_,rfl⟩;have hf:=fA ⟨#[116,114]⟩ ⟨#[]⟩ [] (oM name letters.data.toList ks) CF.out Z0.out B0.out K1.out BL.out Zb.out;rw [<- bM] at hf;have iV:=hid hf.1;have Bj:=hid hf.2;clear hf;have hw8:=bM;simp only [four] at hw8;clear bM;go_wp2;rw [<- hw8];have r0:=iV.out.cell 0 _ rfl;have r1:=iV.out.cell 1 _ rfl;have r2:=iV.out.cell 2 _ rfl;have r3:=iV.out.cell 3 _ rfl;exact bodyPost_ret (v:=.agg #[.string ⟨#[116,114]⟩,.string ⟨#[]⟩,.slice none 0 0,.slice av m cv]) (by simp [results,Tryz.results174,go_sem,r0,r1,r2,r3]) rfl Bj.out
end Go.Proofs.YtkfnkeflalcphaaGreatDoor

