/- Contract of html.line: the nodes of inlines. Contracts of publisherref34.some, element, texts, attrs, joined. Contract of publisherref34.joined: neighbouring texts are joined. Contract of html.row: the node of a row of a table. -/
import Derived.Test.YtclikfjalmcoaaaGreatDoorKHsm
import Derived.Test.YtclikfjalmcoaaaGreatDoorKHtF
set_option maxHeartbeats 8000000
set_option maxRecDepth 100000
open Go.Lib (hid)
namespace Go.Proofs.YtclikfjalmcoaaaGreatDoor
open List renaming setIfInBounds_toArray->je3,set_cons_zero->je4,set_cons_succ->je5,getElem?_eq_getElem->je6,length_append->jeq,length_map->jex,length_cons->jez,mem_of_getElem?->jf4,take_of_length_le->jfj
open Go.RowKit.Below renaming refl->je7,heap_setCell->jf1,heap_alloc->jf2
open Nat renaming le_refl->je8
open Go.World renaming cell?->jg0,setCell->jg1
open Go renaming World->jh9,Value->jhk
open Go.RowKit
set_option linter.unusedVariables false
set_option linter.unusedSimpArgs false
theorem UZ (x:aj) (h:x.small):x.nd.tx.size<=300:=by
 obtain ⟨k,t,d,ti,a,ar,ci,ks⟩:=x;rw [aj.small] at h;have h1:=h.1;have e0:(⟨#[]⟩:ByteArray).size=0:=rfl;have e1:Q7.size=1:=rfl;rw [aj.nd];have key:∀ (c:Prop) [Decidable c] (a b:Nd),a.tx.size<=300->b.tx.size<=300->(if c then a else b).tx.size<=300:=by
  intro c _ a b h1 h2;split
  ·exact h1
  ·exact h2
 have el:∀ (n:ByteArray) (a:List Pr) (ks:List Nd),(aN n a ks).tx.size<=300:=fun _ _ _=>by show (⟨#[]⟩:ByteArray).size<=300;omega
 refine key _ _ _ (by show Q7.size<=300;omega) ?_;refine key _ _ _ (el _ _ _) (key _ _ _ (el _ _ _) (key _ _ _ (el _ _ _) (key _ _ _ (el _ _ _) (key _ _ _ (el _ _ _) (key _ _ _ (el _ _ _) (key _ _ _ (el _ _ _) (key _ _ _ (el _ _ _) (key _ _ _ (el _ _ _) (key _ _ _ (el _ _ _) (key _ _ _ (el _ _ _) h1))))))))))
theorem aj.mY:∀ (l:List aj),aj.ay l->∀ x∈l,x.small
 | [],_,x,hx=>by cases hx
 | y::l,h,x,hx=>by
  rw [aj.ay] at h;rcases List.mem_cons.1 hx with rfl | hx
  ·exact h.1
  ·exact aj.mY l h.2 x hx
theorem BJ:∀ (l:List Nd) (p:List Nd × ByteArray),(l.foldl dJ p).1.length<=p.1.length+2*l.length
 | [],p=>by simp
 | x::l,p=>by
  have h:=BJ l (dJ p x);have h2:(dJ p x).1.length<=p.1.length+2:=by
   unfold dJ;split
   ·show p.1.length<=_;omega
   ·show (p.1++bG p.2++[x]).length<=_;rw [jeq,jeq];have:(bG p.2).length<=1:=by unfold bG;split<;>simp
    simp;omega
  rw [List.foldl_cons,jez];omega
theorem FX:∀ (l:List Nd) (p:List Nd × ByteArray),(∀ x∈l,x.tx.size<=300)->(l.foldl dJ p).2.size<=p.2.size+300*l.length
 | [],p,_=>by simp
 | x::l,p,hx=>by
  have h:=FX l (dJ p x) (fun y hy=>hx y (List.mem_cons_of_mem _ hy));have h1:=hx x (List.mem_cons_self ..);have h2:(dJ p x).2.size<=p.2.size+300:=by
   unfold dJ;split
   ·show (p.2++x.tx).size<=_;rw [ByteArray.size_append];omega
   ·show (⟨#[]⟩:ByteArray).size<=_;have:(⟨#[]⟩:ByteArray).size=0:=rfl;omega
  rw [List.foldl_cons,jez];omega
theorem Ea (l:List Nd) (k:Nat) (x:Nd) (h:l[k]?=some x):fP (l.take (k+1))=dJ (fP (l.take k)) x:=by rw [List.take_add_one,h];exact Eb _ _
theorem yU (a b:ByteArray):Lib.strCells (a++b)=Lib.strCells a++Lib.strCells b:=by unfold Lib.strCells;rw [ByteArray.data_append];simp
def nT (w:jh9) (g o:Nat) (c0 c1 c2 c3:jhk):jh9:=(((w.setCell ⟨g,o,none⟩ c0).setCell ⟨g,o+1,none⟩ c1).setCell ⟨g,o+2,none⟩ c2).setCell ⟨g,o+3,none⟩ c3
theorem gu (w:jh9) (g o:Nat) (c0 c1 c2 c3:jhk) (b:Nat) (h:b≠g):(nT w g o c0 c1 c2 c3).heap[b]?=w.heap[b]?:=by unfold nT;rw [jf1 _ ⟨g,o+3,none⟩ _ b h,jf1 _ ⟨g,o+2,none⟩ _ b h,jf1 _ ⟨g,o+1,none⟩ _ b h,jf1 _ ⟨g,o,none⟩ _ b h]
theorem jl (w:jh9) (b b' o o':Nat) (u v:jhk) (h:b≠b'):(w.setCell ⟨b,o,none⟩ u).setCell ⟨b',o',none⟩ v=(w.setCell ⟨b',o',none⟩ v).setCell ⟨b,o,none⟩ u:=by
 unfold jg1;simp only [World.mk.injEq,and_true];apply Array.ext_getElem?;intro i;simp only [Array.getElem?_modify];by_cases h1:b=i
 ·subst h1;have hb:¬ b'=b:=fun e=>h e.symm
  simp [hb]
 ·simp [h1]
theorem lZ (w:jh9) (S g o:Nat) (V c0 c1 c2 c3:jhk) (h:S≠g):nT (w.setCell ⟨S,0,none⟩ V) g o c0 c1 c2 c3=(nT w g o c0 c1 c2 c3).setCell ⟨S,0,none⟩ V:=by unfold nT;rw [jl w S g,jl _ S g,jl _ S g,jl _ S g]<;>exact h
theorem Ph {w:jh9} {g o:Nat} {c0 c1 c2 c3:jhk} {b j:Nat} {v:jhk} (h:w.cell? ⟨b,j,none⟩=some v) (hb:b≠g):(nT w g o c0 c1 c2 c3).cell? ⟨b,j,none⟩=some v:=by rw [fH (gu w g o c0 c1 c2 c3 b hb)];exact h
section
variable {T:TypeId} {U:Nat} {ok:Nat->Prop} {w0 w:jh9} {ds:List D} {rows:List (List jhk)} {v:jhk}
theorem aI.Pj {g n c:Nat} {d0 d1:D} {a0 a1 a2 a3:jhk} (h:aI T 4 ok U w0 (ds++[d0]) (rows++[[a0,a1,a2,a3]]) (.slice (some ⟨g,0,none⟩) (n+1) c) w) (hn:ds.length=n) (c0 c1 c2 c3:jhk) (hd:Rd (fun b=>(ok b\/w0.heap.size<=b)/\g≠b/\b<U) w d1 [c0,c1,c2,c3]):aI T 4 ok U w0 (ds++[d1]) (rows++[[c0,c1,c2,c3]]) (.slice (some ⟨g,0,none⟩) (n+1) c) (nT w g (n*4) c0 c1 c2 c3):=by
 have hl:rows.length=n:=by have:=h.red.len;simp at this;omega
 have hfl:rows.flatten.length=n*4:=by rw [jH 4 rows (fun r hr=>h.len r (by simp [hr])),hl]
 have hown:=h.own;have e1:(rows++[[a0,a1,a2,a3]]).flatten=rows.flatten++[a0,a1,a2,a3]:=by simp
 rw [e1,jeq,List.length_singleton,hn] at hown;have st:∀ (W:jh9) (zs:List jhk),W.ownsRow w0.heap.size T 4 (.slice (some ⟨g,0,none⟩) (n+1) c) (n+1) (rows.flatten++zs)->∀ (j:Nat) (u:jhk),(W.setCell ⟨g,n*4+j,none⟩ u).ownsRow w0.heap.size T 4 (.slice (some ⟨g,0,none⟩) (n+1) c) (n+1) (rows.flatten++zs.set j u):=by intro W zs hW j u;have:=(hW.stored (n*4+j) u).1;rw [List.set_append_right _ _ (by omega),hfl,Nat.add_sub_cancel_left] at this;exact this
 have o4:=st _ _ (st _ _ (st _ _ (st _ _ hown 0 c0) 1 c1) 2 c2) 3 c3;have hb:∀ b,b≠g->(nT w g (n*4) c0 c1 c2 c3).heap[b]?=w.heap[b]?:=fun b hb=>gu w g _ _ _ _ _ b hb
 have hz:(nT w g (n*4) c0 c1 c2 c3).heap.size=w.heap.size:=by simp [nT,jg1]
 have hg0:w0.heap.size<=g:=(h.own.lt g rfl).1;refine ⟨?_,?_,?_,?_,h.oU,h.DK,by rw [hz];exact h.G9⟩
 ·rw [show (rows++[[c0,c1,c2,c3]]).flatten=rows.flatten++[c0,c1,c2,c3] by simp,jeq,List.length_singleton,hn];exact o4
 ·obtain ⟨rA,rB,e2,hA,hB⟩:∃ rA rB,rows++[[a0,a1,a2,a3]]=rA++[rB]/\aO (fun b=>(ok b\/w0.heap.size<=b)/\(Value.slice (some ⟨g,0,none⟩) (n+1) c).ownBlock≠some b/\b<U) w ds rA/\True:=by
   refine ⟨rows,_,rfl,?_,trivial⟩;have h0:=h.red;clear st o4 hown;generalize hP:(fun b=>(ok b\/w0.heap.size<=b)/\(Value.slice (some ⟨g,0,none⟩) (n+1) c).ownBlock≠some b/\b<U)=P at h0;have gen:∀ (ds:List D) (rows:List (List jhk)) (d0:D) (r0:List jhk),aO P w (ds++[d0]) (rows++[r0])->rows.length=ds.length->aO P w ds rows:=by
    intro ds;induction ds with
    | nil=>intro rows d0 r0 _ hl;rw [List.eq_nil_of_length_eq_zero hl];exact aO.none
    | cons x ds ih=>
     intro rows d0 r0 hr hl;cases rows with
     | nil=>simp at hl
     | cons r rows=>
      obtain ⟨r',rs,e,h1,h2⟩:=hr.aH;have e':r'=r/\rs=rows++[r0]:=by simp at e;exact ⟨e.1.symm,e.2.symm⟩
      obtain ⟨rfl,rfl⟩:=e';exact aO.cons h1 (ih rows d0 r0 h2 (by simpa using hl))
   exact gen ds rows d0 _ h0 (by omega)
  have e3:rA=rows:=by have:=congrArg List.dropLast e2;simpa using this.symm
  subst e3;refine aO.app (aO.keep (fun b hb' _=>⟨hb',hb b (fun e=>by subst e;exact hb'.2.1 rfl)⟩) _ _ hA) (aO.one (Rd.keep (fun b hb' _=>⟨⟨hb'.1,fun e=>hb'.2.1 (by simpa [Value.ownBlock] using e),hb'.2.2⟩,hb b (fun e=>hb'.2.1 e.symm)⟩) _ _ hd))
 ·intro r hr;rcases List.mem_append.1 hr with hr | hr
  ·exact h.len r (by simp [hr])
  ·simp at hr;subst hr;rfl
 ·have hbel:=h.aJ;exact (((hbel.setCell (p:=⟨g,n*4,none⟩) hg0 c0).setCell (p:=⟨g,n*4+1,none⟩) hg0 c1).setCell (p:=⟨g,n*4+2,none⟩) hg0 c2).setCell (p:=⟨g,n*4+3,none⟩) hg0 c3
theorem aI.FY {g n c:Nat} {d0:D} {a0 a1 a2 a3:jhk} (h:aI T 4 ok U w0 (ds++[d0]) (rows++[[a0,a1,a2,a3]]) (.slice (some ⟨g,0,none⟩) (n+1) c) w) (hn:ds.length=n) : w.cell? ⟨g,n*4,none⟩=some a0/\w.cell? ⟨g,n*4+1,none⟩=some a1/\w.cell? ⟨g,n*4+2,none⟩=some a2/\w.cell? ⟨g,n*4+3,none⟩=some a3/\∀ j,w.frozen? ⟨g,j,none⟩=false:=by
 have hl:rows.length=n:=by have:=h.red.len;simp at this;omega
 have hfl:rows.flatten.length=n*4:=by rw [jH 4 rows (fun r hr=>h.len r (by simp [hr])),hl]
 have hc:∀ i u,[a0,a1,a2,a3][i]?=some u->w.cell? ⟨g,n*4+i,none⟩=some u:=by
  intro i u hu;have:=h.own.cells (g:=g) rfl (n*4+i) u (by
   rw [show (rows++[[a0,a1,a2,a3]]).flatten=rows.flatten++[a0,a1,a2,a3] by simp,List.getElem?_append_right (by omega),hfl,Nat.add_sub_cancel_left];exact hu)
  have e:((⟨g,0,none⟩:Addr).add (n*4+i))=⟨g,n*4+i,none⟩:=by unfold Addr.add;split<;>simp_all
  rwa [e] at this
 refine ⟨hc 0 _ rfl,hc 1 _ rfl,hc 2 _ rfl,hc 3 _ rfl,fun j=>?_⟩;rcases h.own.2 with ⟨h1,-⟩ | ⟨g',cap,cur,h1,-,h2,-⟩
 ·cases h1
 ·injection h1 with h1
  injection h1 with h1
  injection h1 with h1
  subst h1;simp [World.frozen?,h2]
theorem Ht {k n:Nat} {ops:Array Oper} {o:Oper} {a:Act} {K:Act->jh9->Prop} {Q:Exit->Act->jh9->Prop} {E:Prop} (hgd:o.guard=none) (s x:Operand) (t:TypeId) (ho:o.op=.call { callee:=.builtin .append,args:=#[s,x],argTypes:=#[t,t] }) (i:TypeInfo) (z:jhk) (bytes:Nat) (ht:Tryz.prog.underlying t=some (.slice T)) (hi:Tryz.prog.info? T=some i) (hz:i.zero=some z) (hsize:i.size=k) (hby:i.bytes=bytes) (hzs:z.cells.size=k) (hsz:0<k) (h:aI T k ok U w0 ds rows v w) (hB:∀ b,ok b->b<w0.heap.size) (d:D) (r:List jhk) (hx:Rd (fun b=>ok b\/U<=b) w d r) (hr:r.length=k) (h1:∀ u∈r,u.oneCell'=true) (hdn:ds.length=n) (hn:n<=10000000) (kW:bytes<=1000) (hs:a.eval s=v) (hxe:a.eval x=.slice (some ⟨w.heap.size,0,none⟩) 1 1) (hK:∀ g c' w',aI T k ok w'.heap.size w0 (ds++[d]) (rows++[r]) (.slice (some ⟨g,0,none⟩) (n+1) c') w'->(w.alloc (.cells r.toArray T)).grownBy w' v.ownBlock->(v.ownBlock=some g\/w.heap.size<g)->n+1<=c'->K (a.put o.dst (.slice (some ⟨g,0,none⟩) (n+1) c')) w') : if Region.wanted o (yielded ops a.tmps)=true then Oper.wp Tryz.prog o a (w.alloc (.cells r.toArray T)) K Q else E:=by
 subst hdn;have hmul:(ds.length+1)*bytes<=140737488355328:=Nat.le_trans (Nat.mul_le_mul (show ds.length+1<=10000001 by omega) kW) (by omega);refine step_append_lies _ hgd s x t ho w0.heap.size T i z k bytes ht hi hz hsize hby hzs hsz v ds.length rows.flatten hs (h.own.alloc _) ⟨w.heap.size,0,none⟩ 1 1 r hxe (by omega) (Ml w r T) h1 (by omega) (by unfold maxLen;omega) hmul (by have:=h.aJ.size;simp;omega) (w.heap.size+1) (by simp) ?_;intro g cap w' hown hg hat _;have Ni:v.ownBlock=some g\/w.heap.size<g:=hat.elim (fun e=>.inl (by rw [e])) (fun e=>.inr (by omega));have hcp:ds.length+1<=cap:=by obtain ⟨g',cap',he,hle⟩:=oI hown (by omega);injection he with _ _ he;omega
 refine hK _ _ w' ?_ hg Ni hcp;refine h.put hB (aW:=[r]) (es:=[d]) (aO.one (Rd.keep (fun b hb hlt=>⟨hb,jf2 w _ b hlt⟩) _ _ hx)) (by simp [hr]) (World.grownBy_alloc w _ none) (by simpa using hown) hg (hat.elim (fun e=>.inl (by rw [e];rfl)) (fun e=>.inr (by rw [e];simp [Value.ownBlock])))
end
def yV (S:Nat) (w:jh9) (N:List Nd) (vi:jhk) (wr:jh9):Prop:=
 ∃ (k:Nat) (rows:List (List jhk)) (v:jhk) (U:Nat) (wB:jh9),k<=N.length/\vi=.int .i64 k/\wB.heap.size=S+2/\aI 43 4 (fun _=>False) U wB ((fP (N.take k)).1.map Nd.d) rows v wr /\
  aG S v 34 wr/\yT (S+1) U (Lib.strCells (fP (N.take k)).2) wr/\Below S w wr
theorem Jw {p:Nat} {w:jh9} {c0 c1 c2 c3 c4 c5 c6 c7 c8 c9:jhk} (h:PB p [c0,c1,c2,c3,c4,c5,c6,c7,c8,c9] w) : w.cell? ⟨p,0,none⟩=some c0/\w.cell? ⟨p,1,none⟩=some c1/\w.cell? ⟨p,2,none⟩=some c2/\w.cell? ⟨p,3,none⟩=some c3/\w.cell? ⟨p,4,none⟩=some c4/\w.cell? ⟨p,5,none⟩=some c5 /\ w.cell? ⟨p,6,none⟩=some c6/\w.cell? ⟨p,7,none⟩=some c7/\w.cell? ⟨p,8,none⟩=some c8/\w.cell? ⟨p,9,none⟩=some c9:=
 ⟨h.cell 0 _ rfl,h.cell 1 _ rfl,h.cell 2 _ rfl,h.cell 3 _ rfl,h.cell 4 _ rfl,h.cell 5 _ rfl,h.cell 6 _ rfl,h.cell 7 _ rfl,h.cell 8 _ rfl,h.cell 9 _ rfl⟩
theorem tT.U0 {S:Nat} {w w':jh9} {at_:At} {ar:List ByteArray} {ci:List Ci} {ks:List aj} {vc vp va vi vk:jhk} (h:tT (·<S) w at_ ar ci ks vc vp va vi vk) (hb:Below S w w') (hS:S<=w'.heap.size):tT (·<w'.heap.size) w' at_ ar ci ks vc vp va vi vk:=
 have hs:uh (·<S) (·<w'.heap.size) w w':=fun b (h1:b<S) _=>⟨by omega,hb.block b h1⟩
 ⟨⟨Rd.keep hs _ _ h.at_.cls,Rd.keep hs _ _ h.at_.aP⟩,Rd.keep hs _ _ h.args,Rd.keep hs _ _ h.iq,Rd.keep hs _ _ h.kids⟩
theorem tu (s:ByteArray):s.toList.isEmpty=q01 s:=by rw [Lib.toList_data,Bool.eq_iff_iff,List.isEmpty_iff,q01,decide_eq_true_iff]
theorem J3 {s:ByteArray} (h:q01 s=false):0<s.size:=by
 unfold q01 at h;rw [decide_eq_false_iff_not] at h;have:s.data.toList.length≠0:=fun e=>h (List.eq_nil_of_length_eq_zero e)
 have e2:s.data.toList.length=s.size:=by simp
 omega
theorem yT.Nj {b U U':Nat} {w w':jh9} (h:yT b U [] w) (hs:w'.heap[b]?=w.heap[b]?) (hU:b<U'):yT b U' [] w':=
 h.imp (fun ⟨_,v,h2,_,h4⟩=>⟨hU,v,hs.trans h2,by rw [h4 rfl];exact World.ownsRowF_nil _ _ _ _,h4⟩) (fun ⟨_,v,h2,_,h4⟩=>⟨hU,v,hs.trans h2,by rw [h4 rfl];exact World.ownsRowF_nil _ _ _ _,h4⟩)
theorem qc (n:Nat):∀ (l:List aj) (v:jhk) (w:jh9),aj.aS l<=n->n<=1000000->Rd (·<w.heap.size) w (bD l) [v]->aj.ay l->aj.Ec l -> Calls Tryz.prog 50 #[v] w (bU w (iL l)):=by
 induction n using Nat.strongRecOn with
 | _ n ih=>
  intro l v w hn hnm hrd hsm Xv;obtain ⟨iN,FJ,oq,ou,ow⟩:=info_parts mW;obtain ⟨a,cap,hv,hs⟩:=Rd.aC hrd;obtain rfl:v=.slice a l.length cap:=by simpa using hv
  have hcap:l.length<=cap:=by simpa using hs.le
  have hll:=aj.gZ l;have hmx:=hs.max;unfold maxLen at hmx;obtain ⟨N,hN⟩:∃ N,N=aj.zX l:=⟨_,rfl⟩;have hNl:N.length=l.length:=by rw [hN,oJ,jex]
  have hNt:∀ x∈N,x.tx.size<=300:=by intro x hx;rw [hN,oJ] at hx;obtain ⟨y,hy,rfl⟩:=List.mem_map.1 hx;exact UZ y (aj.mY l hsm y hy)
  have hNf:∀ x∈N,x.full:=by rw [hN];exact BK l Xv
  have U1:iL l=(fP N).1++bG (fP N).2:=by rw [hN];exact J4 l Xv
  obtain ⟨S,hS⟩:∃ S,S=w.heap.size:=⟨_,rfl⟩;obtain ⟨W0,hW0⟩:∃ W,W=(w.alloc (.cells #[.slice none 0 0] 34)).alloc (.cells #[.pointer none,.slice none 0 0] 110):=⟨_,rfl⟩;have z0:W0.heap.size=S+2:=by rw [hW0,hS];simp
  have k0:aG S (.slice none 0 0) 34 W0:=by rw [hW0,hS];exact (aG.new w _ _).alloc _
  have k1:W0.heap[S+1]?=some (.cells #[.pointer none,.slice none 0 0] 110 (0,0)):=by
   rw [hW0,hS];have:=heap_alloc_new (w.alloc (.cells #[.slice none 0 0] 34)) (.cells #[.pointer none,.slice none 0 0] 110)
   rwa [World.size_alloc] at this
  have b0:Below S w W0:=by rw [hW0,hS];exact ((je7 _ _).alloc (je8 _) _).alloc (by simp) _
  have R0:Hid (yV S w N (.int .i64 0) W0):=⟨0,[],_,S+2,W0,Nat.zero_le _,rfl,z0,by rw [<- z0];exact aI.nil _ _ _ _,k0,yT.new k1 (by omega),b0⟩;have HS:=hid hs;have IH:=hid ih;have iR:=hid hsm;have HTF:=hid Xv;have HN:=hid hN;have FZ:=hid hNl;have HNT:=hid hNt;have HNF:=hid hNf;have qp:=hid U1;have Hl:=hid hS;have HW0:=hid hW0;clear hs hv hrd ih hsm Xv hN hNl hNt hNf U1 hS hW0 z0 k0 k1 b0;go_enter Tryz.func50,Tryz.ntmps50;go_upto_region 3 with (fail)
  rw [<- Hl.out,<- HW0.out];go_wp2
  go_loopw [12] (fun vi wr=>yV S w N vi wr) (fun i _=>l.length-(intOf i).toNat)
  case atStart=>exact R0.out
  case round=>
   clear R0 HW0;obtain ⟨k,rows,v,U,wB,hk,rfl,Pk,hrow,hbx,hbd,hbel⟩:=hrel;rw [FZ.out] at hk;obtain ⟨P,hP⟩:∃ P,P=fP (N.take k):=⟨_,rfl⟩;rw [<- hP] at hrow hbd;obtain ⟨m,hm⟩:∃ m,m=(P.1.map Nd.d).length:=⟨_,rfl⟩;have hm2:m<=2*k:=by
    have h:=BJ (N.take k) ([],⟨#[]⟩);have h2:(N.take k).length<=k:=List.length_take_le _ _;have h3:P.1=((N.take k).foldl dJ ([],⟨#[]⟩)).1:=by rw [hP];rfl
    rw [<- h3] at h;rw [hm,jex];simp at h;omega
   have hpt:P.2.size<=300*k:=by
    have h:=FX (N.take k) ([],⟨#[]⟩) (fun x hx=>HNT.out x (List.mem_of_mem_take hx));have h2:(N.take k).length<=k:=List.length_take_le _ _;have h3:P.2=((N.take k).foldl dJ ([],⟨#[]⟩)).2:=by rw [hP];rfl
    rw [<- h3] at h;have h4:(([]:List Nd),(⟨#[]⟩:ByteArray)).2.size=0:=rfl;omega
   obtain ⟨av,cv,rfl,-,-⟩:=hrow.cap hm.symm;have HM:=hid hm.symm;have HP:=hid hP;have bC:=hid hrow;have lU:=hid hbx;have kM:=hid hbd;have zY:=hid Pk;have hUr:=hrow.G9;have hSU:S+2<=U:=by have:=hrow.DK;omega
   have Pg:Hid (P.1.length=m):=by show _=_;rw [hm,jex]
   clear hrow hbx hbd hm hP Pk;by_cases hlt:k<l.length
   ·obtain ⟨x,hx⟩:∃ x,l[k]?=some x:=⟨_,je6 hlt⟩;have Xw:N[k]?=some x.nd:=by rw [HN.out,oJ,List.getElem?_map,hx];rfl
    have hst:=Ea N k x.nd Xw;rw [<- HP.out] at hst;have hfull:=HNF.out x.nd (jf4 Xw);have htx:=HNT.out x.nd (jf4 Xw);have hxs:=aj.mY l iR.out x (jf4 hx);have hxt:=yX l HTF.out x (jf4 hx);have hsz:=aj.aZ l k _ hx;obtain ⟨X,hX⟩:∃ X,X=x.nd:=⟨_,rfl⟩;rw [<- hX] at hst hfull htx;obtain ⟨kd,t,d,ti,at_,ar,ci,ks⟩:=x;obtain ⟨g,off,vc,vp,va,vi,vk,rfl,hok,hbl,hc,hR⟩:=iy HS.out hx;obtain ⟨c0,c1,c2,c3,c4,c5,c6,c7,c8,c9⟩:=hc.below (show Below w.heap.size w wr by rw [<- Hl.out];exact hbel);rw [aj.sz] at hsz;obtain ⟨ac,nc,cc,rfl⟩:=Rd.au hR.at_.cls
    obtain ⟨ap,np,cp,rfl⟩:=Rd.au hR.at_.aP
    obtain ⟨aa,na,ca,rfl⟩:=Rd.au hR.args;obtain ⟨ai,ni,rP,rfl⟩:=Rd.au hR.iq;obtain ⟨ak,nk,ck,rfl⟩:=Rd.au hR.kids;have HR:Hid (tT (·<S) w at_ ar ci ks (.slice ac nc cc) (.slice ap np cp) (.slice aa na ca) (.slice ai ni rP) (.slice ak nk ck)):=by rw [Hl.out];exact hR
    have HST:=hid hst;have HX:=hid hX;have J5:=hid hfull;have HXS:=hid hxs;have HXT:=hid hxt;have fJ:=hid hbel;have hSr:S<=wr.heap.size:=by have:=hbel.size;have:=Hl.out;omega
    clear hc hok hbl hR hst hX hfull hxs hxt Xw hx hbel;go_upto_region 7 with (fail)
    obtain ⟨p,hp⟩:∃ p,p=wr.heap.size:=⟨_,rfl⟩;obtain ⟨wA,gW⟩:∃ wA,wA=wr.alloc (.cells #[.int .i64 kd,.string t,.string d,.string ti,.string at_.id,.slice ac nc cc,.slice ap np cp,.slice aa na ca,.slice ai ni rP,.slice ak nk ck] 51):=⟨_,rfl⟩;have PA:PB p [.int .i64 kd,.string t,.string d,.string ti,.string at_.id,.slice ac nc cc,.slice ap np cp,.slice aa na ca,.slice ai ni rP,.slice ak nk ck] wA:=by rw [gW,hp];exact heap_alloc_new wr _
    have bA:Below wr.heap.size wr wA:=by rw [gW];exact (je7 _ _).alloc (je8 _) _
    rw [<- gW,<- hp];obtain ⟨e0,e1,e2,e3,e4,e5,e6,e7,e8,e9⟩:=Jw PA;have zA:=bA.size;have BA:=hid (fJ.out.trans (bA.mono hSr));have Y0:=HR.out.U0 BA.out (by omega);have LC:BD wA ks (.slice ak nk ck):=fun W hW=>by
     have hsk:=HXS.out;rw [aj.small] at hsk;have htk:=HXT.out;rw [aj.tf] at htk;exact IH.out (aj.aS ks) (by omega) ks _ W (je8 _) (by omega) (Y0.kids.up hW) hsk.2.2.2.2.2.2.2.2 htk.2
    have IC:=D6 kd t d ti at_ ar ci ks _ _ _ _ _ wA Y0 HXS.out LC (by omega)
    rw [<- HX.out] at IC;have IL:=hid IC;have vR:=hid bA;clear gW hp c0 c1 c2 c3 c4 c5 c6 c7 c8 c9 Y0 LC IC PA bA;go_wp2_with fail
    (with_reducible refine IL.out.mono ?_)
    rintro e w1 ⟨vA,vK,rfl,Xx,b1⟩;obtain ⟨aA,nA,cA,rfl⟩:=Rd.au Xx.at_
    obtain ⟨aK,nK,cK,rfl⟩:=Rd.au Xx.ks;have HND:=hid Xx;have B1:=hid b1;have z1:=b1.size;clear e0 e1 e2 e3 e4 e5 e6 e7 e8 e9 Xx b1 IL;obtain ⟨nm,tx,XA,XK⟩:=X;dsimp only [Nd.nm,Nd.tx,Nd.at_,Nd.ks] at htx HND;dsimp only [Nd.nm,Nd.tx];go_upto_region 8 with (fail)
    obtain ⟨q,hq⟩:∃ q,q=w1.heap.size:=⟨_,rfl⟩;obtain ⟨wN,U6⟩:∃ wN,wN=w1.alloc (.cells #[.string nm,.string tx,.slice aA nA cA,.slice aK nK cK] 43):=⟨_,rfl⟩;have KN:CB 43 q [.string nm,.string tx,.slice aA nA cA,.slice aK nK cK] wN:=by rw [U6,hq];exact CB.new _ _ w1
    have bN:Below w1.heap.size w1 wN:=by rw [U6];exact (je7 _ _).alloc (je8 _) _
    have zN:wN.heap.size=q+1:=by rw [U6,hq];simp
    have hqr:wA.heap.size<=q:=by rw [hq];exact z1
    have HQ:=hid hq;rw [<- U6,<- hq];have BN:=hid (aU vR.out (aU B1.out bN));have Xp:=hid bN;have f0:=KN.cell 0 _ rfl;have f1:=KN.cell 1 _ rfl;have Xy:=hid KN;have ZN:=hid zN;have hzr:=BN.out.size;clear U6 hq KN bN zN;by_cases hem:q01 nm=true
    ·have q1:nm.toList.isEmpty=true:=by rw [tu];exact hem
     have q2:nm.toList=[]:=by rw [List.isEmpty_iff] at q1;exact q1
     have htp:0<tx.size:=J3 (J5.out hem).2;have J6:Hid (fP (N.take (k+1))=(P.1,P.2++tx)):=by show _=_;rw [HST.out];unfold dJ;rw [if_pos (show q01 (Nd.mk nm tx XA XK).nm=true from hem)];rfl
     have WS:=hid (wE (S+1) U (Lib.strCells P.2) tx wN (kM.out.below BN.out) (by rw [Lib.strCells_length];omega) (by omega) htp);clear hem HST J5;go_wp2_with fail
     (with_reducible refine WS.out.mono ?_)
     rintro e w2 ⟨rfl,U7,hb2⟩;have hR2:=bC.out.reU (w':=w2) (by have:=hb2.size;omega) (fun b h1 h2=>(hb2.blk b h2 (by have:=zY.out;omega)).trans (BN.out.block b (by omega)));obtain ⟨wB2,U8,hrow2⟩:=hR2;have HF:Hid (yV S w N (.int .i64 ((k+1:Nat):Int)) w2):=by
      refine ⟨k+1,rows,.slice av m cv,U,wB2,by rw [FZ.out];omega,rfl,U8.trans zY.out,?_,?_,?_,?_⟩
      ·rw [J6.out];exact hrow2
      ·exact (hb2.blk S (by omega) (by omega)).trans ((BN.out.block S (by omega)).trans lU.out)
      ·rw [J6.out,yU];exact U7
      ·exact fJ.out.trans ((BN.out.mono hSr).trans (hb2.below (by omega) (by omega)))
     clear U7 hb2 U8 hrow2 WS f0 f1 q1 q2;go_wp2;go_roundw;case rel=>exact HF.out
     case measure=>simp [intOf];omega
    ·have q1:nm.toList.isEmpty=false:=by rw [tu];simpa using hem
     have J6:Hid (fP (N.take (k+1))=(P.1++bG P.2++[.mk nm tx XA XK],⟨#[]⟩)):=by show _=_;rw [HST.out];unfold dJ;rw [if_neg (show ¬ q01 (Nd.mk nm tx XA XK).nm=true from hem)]
     have FC:=xE S U P.2.data.toList P.1 rows (.slice av m cv) wr wN wB (by have:=zY.out;omega) bC.out lU.out kM.out BN.out (by rw [Pg.out];omega);rw [yR] at FC;have FL:=hid FC;clear hem HST J5 FC;go_wp2_with fail
     (with_reducible refine FL.out.mono ?_)
     rintro e w3 ⟨rfl,fM,v3,wB3,Rk,hrow3,Hu,Nk,oF,hkp3,hb3⟩;obtain ⟨m3,Ms⟩:∃ m,m=(List.map Nd.d (P.1++bG P.2)).length:=⟨_,rfl⟩;have YT:m3<=m+1:=by
      rw [Ms,jex,jeq,Pg.out];have:(bG P.2).length<=1:=by unfold bG;split<;>simp
      omega
     obtain ⟨a3,c3,rfl,hc3,Y1⟩:=hrow3.cap Ms.symm;unfold maxLen at Y1;have Tx:=hid Ms.symm;have U3:=hid hrow3.drew;have TA:CB 43 q [.string nm,.string tx,.slice aA nA cA,.slice aK nK cK] w3:=(hkp3 q (by omega) (by have:=ZN.out;omega)).trans Xy.out;have NR3:Hid (Rd (fun b=>wA.heap.size<=b/\b<q) w3 (Nd.mk nm tx XA XK).d [.string nm,.string tx,.slice aA nA cA,.slice aK nK cK]):=
      Nd.gI nm tx (HND.out.keep (fun b (h1:wA.heap.size<=b) h2=>⟨⟨h1,by rw [HQ.out];exact h2⟩,(hkp3 b (by omega) (by have:=ZN.out;have:=HQ.out;omega)).trans (Xp.out.block b h2)⟩))
     have S0:w3.drew.cell? ⟨S,0,none⟩=some (.slice a3 m3 c3)/\w3.drew.cell? ⟨q,0,none⟩=some (.string nm)/\w3.drew.cell? ⟨q,1,none⟩=some (.string tx)/\w3.drew.cell? ⟨q,2,none⟩=some (.slice aA nA cA)/\w3.drew.cell? ⟨q,3,none⟩=some (.slice aK nK cK):=⟨Hu.cell,TA.cell 0 _ rfl,TA.cell 1 _ rfl,TA.cell 2 _ rfl,TA.cell 3 _ rfl⟩;have hov:∀ g,(Value.slice a3 m3 c3).ownBlock=some g->S+2<=g/\(g<wr.heap.size\/wN.heap.size<=g):=fun g hg=>⟨by have:=(hrow3.own.lt g hg).1;have:=zY.out;omega,oF g hg⟩
     have D8:=hid hov;have Y2:=hid Hu;have Rl:=hid Nk;have HB3:=hid hb3;have Nl:=hid Rk;have HKQ:=hid TA;have hz3:=hb3.size;have Y3:S<w3.heap.size:=Hu.lt;clear Ms hrow3 Hu Nk hb3 Rk oF hkp3 TA hov FL f0 f1 q1;go_upto_region 11 with (fail)
     refine gM 7 (fun w'=>w'.cell? ⟨S,0,none⟩=some (.slice a3 m3 c3)/\w'.cell? ⟨q,0,none⟩=some (.string nm)/\w'.cell? ⟨q,1,none⟩=some (.string tx)/\w'.cell? ⟨q,2,none⟩=some (.slice aA nA cA)/\w'.cell? ⟨q,3,none⟩=some (.slice aK nK cK)) (by kernel_rfl) S0 ?_;intro hH;refine uj 0 (v:=?_) rfl (by kernel_rfl) hH (by rfl) ?_ ?_;rotate_left
     ·(intro wv hSw;(try dsimp only at hSw);go_simp;try with_reducible rfl)
     try simp only [Act.put,je3,je4,je5]
     refine uj 1 (v:=?_) rfl (by kernel_rfl) hH (by rfl) ?_ ?_;rotate_left
     ·(intro wv hSw;(try dsimp only at hSw);go_simp;try with_reducible rfl)
     try simp only [Act.put,je3,je4,je5]
     refine uj 2 (v:=?_) rfl (by kernel_rfl) hH (by rfl) ?_ ?_;rotate_left
     ·(intro wv hSw;(try dsimp only at hSw);go_simp;try with_reducible rfl)
     try simp only [Act.put,je3,je4,je5]
     refine fK (i:=3) rfl (by kernel_rfl) (fun KQ hK=>?_);go_simp;refine hK.out _ _ (fun _ _=>⟨past S0.1 _,past S0.2.1 _,past S0.2.2.1 _,past S0.2.2.2.1 _,past S0.2.2.2.2 _⟩) (fun hH2=>?_);clear hK KQ hH;have hH:=hH2 (by decide) (by kernel_rfl);clear hH2;try simp only [Act.put,je3,je4,je5]
     refine fK (i:=4) rfl (by kernel_rfl) (fun KQ hK=>?_);refine Ht rfl (.tmp 26) (.tmp 29) 34 rfl iN _ 80 Tryz.underlying34 FJ oq ou ow rfl (by decide) U3.out (fun _=>False.elim) (Nd.mk ⟨#[]⟩ ⟨#[]⟩ [] []).d [.string ⟨#[]⟩,.string ⟨#[]⟩,.slice none 0 0,.slice none 0 0] (Nd.gI ⟨#[]⟩ ⟨#[]⟩ ⟨Rd.aB _ _ _,Rd.aB _ _ _⟩) rfl j3 Tx.out (by omega) (by decide) rfl rfl ?_;intro g5 c5 w5 bR hg5 J7 GQ;have hgS:S+2<=g5/\g5≠q/\(g5<wr.heap.size\/wN.heap.size<=g5):=by
      have hz9:w3.drew.heap.size=w3.heap.size:=rfl;rcases J7 with h | h
      ·have:=D8.out g5 h;have:=ZN.out;omega
      ·have:=ZN.out;omega
     have Rm:∀ b,b=S\/b=q->some b≠(Value.slice a3 m3 c3).ownBlock:=fun b hb e=>by
      have:=D8.out b e.symm;have:=ZN.out;omega
     have S5:w5.cell? ⟨S,0,none⟩=some (.slice a3 m3 c3)/\w5.cell? ⟨q,0,none⟩=some (.string nm)/\w5.cell? ⟨q,1,none⟩=some (.string tx)/\w5.cell? ⟨q,2,none⟩=some (.slice aA nA cA)/\w5.cell? ⟨q,3,none⟩=some (.slice aK nK cK):=⟨(World.grownBy.cell_far hg5 ⟨S,0,none⟩ (by simp;omega) (Rm S (.inl rfl))).trans (past S0.1 _),(World.grownBy.cell_far hg5 ⟨q,0,none⟩ (by simp;have:=ZN.out;omega) (Rm q (.inr rfl))).trans (past S0.2.1 _),(World.grownBy.cell_far hg5 ⟨q,1,none⟩ (by simp;have:=ZN.out;omega) (Rm q (.inr rfl))).trans (past S0.2.2.1 _),(World.grownBy.cell_far hg5 ⟨q,2,none⟩ (by simp;have:=ZN.out;omega) (Rm q (.inr rfl))).trans (past S0.2.2.2.1 _),(World.grownBy.cell_far hg5 ⟨q,3,none⟩ (by simp;have:=ZN.out;omega) (Rm q (.inr rfl))).trans (past S0.2.2.2.2 _)⟩;obtain ⟨y0,y1,y2,y3,yf⟩:=bR.FY Tx.out;have t0:(0:Int)<=(m3:Int):=by omega
     have t1:(m3:Int)<((m3+1:Nat):Int):=by omega
     have t2:(m3:Int)<(m3:Int)+1:=by omega
     have t3:m3<m3+1:=by omega
     have U5:=hid bR;have Pm:=hid hg5;have hz5:w3.heap.size+1<=w5.heap.size:=by have:=hg5.size;simp at this;exact this
     have Pn:S≠g5:=by omega
     have hqg:q≠g5:=fun e=>hgS.2.1 e.symm
     have Nn:aG S (.slice a3 m3 c3) 34 w5:=(hg5.block S (by simp;omega) (Rm S (.inl rfl))).trans ((jf2 w3 _ S Y3).trans Y2.out);have U9:=Nn.free;have z5:=Nn.cell;obtain ⟨wZ,Y4,BM⟩:=bR.hop2 (p:=S) (by have:=Nl.out;have:=zY.out;omega) (show w5.grownBy (w5.setCell ⟨S,0,none⟩ (.slice (some ⟨g5,0,none⟩) (m3+1) c5)) (some S) from ⟨rfl,rfl,rfl,by simp [jg1],fun b _ hb=>jf1 w5 ⟨S,0,none⟩ _ b (fun e=>hb (by rw [e]))⟩);obtain ⟨u0,u1,u2,u3,uf⟩:=BM.FY Tx.out;have BX5:=hid Nn;clear BM Y4 Nn bR hg5 J7 Rm S0;refine hK.out _ _ (fun _ _=>S5) (fun hH2=>?_);clear hK KQ hH;have hH:=hH2 (by decide) (by kernel_rfl);clear hH2;try simp only [Act.put,je3,je4,je5]
     apply Va;case hm=>
      intro REST;refine Hw (i:=5) (j:=7) rfl rfl (by kernel_rfl) (fun KQ hK=>?_) (fun KQ hK=>?_);rotate_left
      ·go_simp;refine hK.out _ _ (fun h=>absurd rfl h) (fun _=>?_);clear hK KQ;try simp only [Act.put,je3,je4,je5]
       refine fK (i:=5) rfl (by kernel_rfl) (fun KQ hK=>?_);go_simp;refine hK.out _ _ (fun _ h=>absurd h (by decide)) (fun _=>?_);clear hK KQ;try simp only [Act.put,je3,je4,je5]
       refine fK (i:=6) rfl (by kernel_rfl) (fun KQ hK=>?_);go_simp;refine hK.out _ _ (fun _ h=>absurd h (by decide)) (fun _=>?_);clear hK KQ;try simp only [Act.put,je3,je4,je5]
       refine F4 (by kernel_rfl) ?_ _;have hsw:=lZ w5 S g5 (m3*4) (.slice (some ⟨g5,0,none⟩) (m3+1) c5) (.string nm) (.string tx) (.slice aA nA cA) (.slice aK nK cK) Pn;simp only [nT] at hsw;rw [hsw];clear hsw;exact REST
      go_simp;refine hK.out _ _ (fun _ _=>S5) (fun hH2=>?_);clear hK KQ;have hH:=hH2 (by decide) (by kernel_rfl);clear hH2;try simp only [Act.put,je3,je4,je5]
      refine Hw (i:=6) (j:=7) rfl rfl (by kernel_rfl) (fun KQ hK=>?_) (fun KQ hK=>?_)
      ·go_simp;have S6:jg0 ((((w5.setCell ⟨g5,m3*4,none⟩ (.string nm)).setCell ⟨g5,m3*4+1,none⟩ (.string tx)).setCell ⟨g5,m3*4+2,none⟩ (.slice aA nA cA)).setCell ⟨g5,m3*4+3,none⟩ (.slice aK nK cK)) ⟨S,0,none⟩=some (.slice a3 m3 c3)/\jg0 ((((w5.setCell ⟨g5,m3*4,none⟩ (.string nm)).setCell ⟨g5,m3*4+1,none⟩ (.string tx)).setCell ⟨g5,m3*4+2,none⟩ (.slice aA nA cA)).setCell ⟨g5,m3*4+3,none⟩ (.slice aK nK cK)) ⟨q,0,none⟩=some (.string nm)/\jg0 ((((w5.setCell ⟨g5,m3*4,none⟩ (.string nm)).setCell ⟨g5,m3*4+1,none⟩ (.string tx)).setCell ⟨g5,m3*4+2,none⟩ (.slice aA nA cA)).setCell ⟨g5,m3*4+3,none⟩ (.slice aK nK cK)) ⟨q,1,none⟩=some (.string tx)/\jg0 ((((w5.setCell ⟨g5,m3*4,none⟩ (.string nm)).setCell ⟨g5,m3*4+1,none⟩ (.string tx)).setCell ⟨g5,m3*4+2,none⟩ (.slice aA nA cA)).setCell ⟨g5,m3*4+3,none⟩ (.slice aK nK cK)) ⟨q,2,none⟩=some (.slice aA nA cA)/\jg0 ((((w5.setCell ⟨g5,m3*4,none⟩ (.string nm)).setCell ⟨g5,m3*4+1,none⟩ (.string tx)).setCell ⟨g5,m3*4+2,none⟩ (.slice aA nA cA)).setCell ⟨g5,m3*4+3,none⟩ (.slice aK nK cK)) ⟨q,3,none⟩=some (.slice aK nK cK):=show jg0 (nT w5 g5 (m3*4) (.string nm) (.string tx) (.slice aA nA cA) (.slice aK nK cK)) ⟨S,0,none⟩=some (.slice a3 m3 c3)/\jg0 (nT w5 g5 (m3*4) (.string nm) (.string tx) (.slice aA nA cA) (.slice aK nK cK)) ⟨q,0,none⟩=some (.string nm)/\jg0 (nT w5 g5 (m3*4) (.string nm) (.string tx) (.slice aA nA cA) (.slice aK nK cK)) ⟨q,1,none⟩=some (.string tx)/\jg0 (nT w5 g5 (m3*4) (.string nm) (.string tx) (.slice aA nA cA) (.slice aK nK cK)) ⟨q,2,none⟩=some (.slice aA nA cA)/\jg0 (nT w5 g5 (m3*4) (.string nm) (.string tx) (.slice aA nA cA) (.slice aK nK cK)) ⟨q,3,none⟩=some (.slice aK nK cK) from ⟨Ph S5.1 Pn,Ph S5.2.1 hqg,Ph S5.2.2.1 hqg,Ph S5.2.2.2.1 hqg,Ph S5.2.2.2.2 hqg⟩
       have z6:=S6.1;have Rn:aG S (.slice a3 m3 c3) 34 ((((w5.setCell ⟨g5,m3*4,none⟩ (.string nm)).setCell ⟨g5,m3*4+1,none⟩ (.string tx)).setCell ⟨g5,m3*4+2,none⟩ (.slice aA nA cA)).setCell ⟨g5,m3*4+3,none⟩ (.slice aK nK cK)):=(gu w5 g5 (m3*4) (.string nm) (.string tx) (.slice aA nA cA) (.slice aK nK cK) S Pn).trans BX5.out;have zf:=Rn.free;refine hK.out _ _ (fun _ _=>S6) (fun hH2=>?_);clear hK KQ hH;have hH:=hH2 (by decide) (by kernel_rfl);clear hH2;try simp only [Act.put,je3,je4,je5]
       refine fK (i:=7) rfl (by kernel_rfl) (fun KQ hK=>?_);go_simp;refine hK.out _ _ (fun h=>absurd rfl h) (fun _=>?_);clear hK KQ hH;try simp only [Act.put,je3,je4,je5]
       refine F4 (by kernel_rfl) ?_ _;clear S6 z6 Rn zf;exact REST
      ·go_simp;refine hK.out _ _ (fun h=>absurd rfl h) (fun _=>?_);clear hK KQ hH;try simp only [Act.put,je3,je4,je5]
       refine fK (i:=6) rfl (by kernel_rfl) (fun KQ hK=>?_);go_simp;refine hK.out _ _ (fun _ h=>absurd h (by decide)) (fun _=>?_);clear hK KQ;try simp only [Act.put,je3,je4,je5]
       refine F4 (by kernel_rfl) ?_ _;have hsw:=lZ w5 S g5 (m3*4) (.slice (some ⟨g5,0,none⟩) (m3+1) c5) (.string nm) (.string tx) (.slice aA nA cA) (.slice aK nK cK) Pn;simp only [nT] at hsw;rw [hsw];clear hsw;exact REST
     case hr=>
      clear S5 y0 y1 y2 y3 yf u0 u1 u2 u3 uf U9 z5 t0 t1 t2 t3;have TD:=U5.out.Pj Tx.out (.string nm) (.string tx) (.slice aA nA cA) (.slice aK nK cK) (d1:=(Nd.mk nm tx XA XK).d) (Rd.keep (fun b hb hlt=>⟨⟨.inr (by have:=Nl.out;have:=zY.out;omega),(fun e=>by subst e;have:=ZN.out;omega),by omega⟩,(Pm.out.block b (by simp;omega) (fun e=>by have:=D8.out b e.symm;have:=ZN.out;omega)).trans (jf2 w3 _ b hlt)⟩) _ _ NR3.out);obtain ⟨w6,j4⟩:∃ w6,w6=nT w5 g5 (m3*4) (.string nm) (.string tx) (.slice aA nA cA) (.slice aK nK cK):=⟨_,rfl⟩;have hb6:∀ b,b≠g5->w6.heap[b]?=w5.heap[b]?:=fun b hb=>by rw [j4];exact gu _ _ _ _ _ _ _ b hb
      have Vb:aG S (.slice a3 m3 c3) 34 w6:=(hb6 S Pn).trans BX5.out;rw [<- j4] at TD;have Ro:=j4;simp only [nT] at Ro;rw [<- Ro];clear Ro;have hz6:w6.heap.size=w5.heap.size:=by rw [j4];simp [nT,jg1]
      obtain ⟨w7,hw7⟩:∃ w7,w7=w6.setCell ⟨S,0,none⟩ (.slice (some ⟨g5,0,none⟩) (m3+1) c5):=⟨_,rfl⟩;rw [<- hw7];have Xz:aG S (.slice (some ⟨g5,0,none⟩) (m3+1) c5) 34 w7:=by rw [hw7];exact Vb.set _
      have g7:w6.grownBy w7 (some S):=by rw [hw7];exact ⟨rfl,rfl,rfl,by simp [jg1],fun b _ hb=>jf1 w6 ⟨S,0,none⟩ _ b (fun e=>hb (by rw [e]))⟩
      have hz7:w7.heap.size=w6.heap.size:=by rw [hw7];simp [jg1]
      obtain ⟨XB,XC,F5⟩:=TD.hop2 (p:=S) (by have:=Nl.out;have:=zY.out;omega) g7;have Rp:∀ b,b<w3.heap.size->b≠S->b≠g5->(∀ g,(Value.slice a3 m3 c3).ownBlock=some g->b≠g)->w7.heap[b]?=w3.heap[b]?:=fun b h1 h2 h3 h4=>
       (g7.block b (by omega) (fun e=>h2 (Option.some.inj e))).trans ((hb6 b h3).trans ((Pm.out.block b (by simp;omega) (fun e=>h4 b e.symm rfl)).trans (jf2 w3 _ b h1)))
      have hr7:aI 43 4 (fun _=>False) w7.heap.size XB ((fP (N.take (k+1))).1.map Nd.d) (fM++[[.string nm,.string tx,.slice aA nA cA,.slice aK nK cK]]) (.slice (some ⟨g5,0,none⟩) (m3+1) c5) w7:=by rw [J6.out];show aI _ _ _ _ _ (List.map Nd.d (P.1++bG P.2++[.mk nm tx XA XK])) _ _ _;rw [List.map_append];exact F5.up (by omega) (je8 _)
      have HF:Hid (yV S w N (.int .i64 ((k+1:Nat):Int)) w7):=by
       refine ⟨k+1,_,.slice (some ⟨g5,0,none⟩) (m3+1) c5,w7.heap.size,XB,by rw [FZ.out];omega,rfl,XC.trans (Nl.out.trans zY.out),hr7,Xz,?_,?_⟩
       ·rw [J6.out];exact Rl.out.Nj (Rp (S+1) (by have:=Rl.out.lt;exact this) (by omega) (by omega) (fun g hg=>by have:=(D8.out g hg).1;omega)) (by have:=Rl.out.lt;omega)
       ·refine fJ.out.trans ((BN.out.mono hSr).trans (HB3.out.trans ⟨?_,?_,?_,by omega,fun b hb=>Rp b (by omega) (by omega) (by omega) (fun g hg=>by have:=(D8.out g hg).1;omega)⟩))
        ·rw [hw7,j4];exact Pm.out.os
        ·rw [hw7,j4];exact Pm.out.tape
        ·rw [hw7,j4];exact Pm.out.output
      clear TD hr7 F5 XC g7 Xz hw7 Vb j4 hb6 Rp;go_wp2;go_roundw;case rel=>exact HF.out
      case measure=>simp [intOf];omega
   ·have hkl:k=l.length:=by omega
    subst hkl;have hPN:P=fP N:=by rw [HP.out,jfj (by rw [FZ.out];exact je8 _)]
    have FC:=xE S U P.2.data.toList P.1 rows (.slice av m cv) wr wr wB (by have:=zY.out;omega) bC.out lU.out kM.out (je7 _ _) (by rw [Pg.out];omega);rw [yR,hPN,<- qp.out] at FC;have FL:=hid FC;clear FC;go_wp2_with fail
    (with_reducible refine FL.out.mono ?_)
    rintro e w3 ⟨rfl,fM,v3,wB3,Rk,hrow3,Hu,Nk,oF,hkp3,hb3⟩;have x0:=Hu.cell;have HF:Hid (bU w (iL l) (.returned v3) w3):=by
     refine ⟨fM,v3,rfl,hrow3.qm ?_ ?_⟩
     ·have:=Hl.out;have:=zY.out;omega
     ·rw [<- Hl.out];exact hbel.trans hb3
    clear hrow3 Nk hb3 oF hkp3 FL;go_wp2;go_ret;exact HF.out
open Go.RowKit
open Go.RowKit
theorem aO.init {P:Nat->Prop} {w:jh9}:∀ (ds:List D) (rows:List (List jhk)) (d0:D) (r0:List jhk),aO P w (ds++[d0]) (rows++[r0])->rows.length=ds.length->aO P w ds rows/\Rd P w d0 r0
 | [],rows,d0,r0,hr,hl=>by
  rw [List.eq_nil_of_length_eq_zero hl] at hr ⊢;obtain ⟨r,rs,e,h1,h2⟩:=hr.aH;have e1:r=r0:=by simp at e;exact e.1.symm
  subst e1;exact ⟨aO.none,h1⟩
 | x::ds,[],d0,r0,hr,hl=>by simp at hl
 | x::ds,r::rows,d0,r0,hr,hl=>by
  obtain ⟨r',rs,e,h1,h2⟩:=hr.aH;have e':r'=r/\rs=rows++[r0]:=by simp at e;exact ⟨e.1.symm,e.2.symm⟩
  obtain ⟨rfl,rfl⟩:=e';obtain ⟨h3,h4⟩:=aO.init ds rows d0 r0 h2 (by simpa using hl);exact ⟨aO.cons h1 h3,h4⟩
section
variable {T:TypeId} {U:Nat} {ok:Nat->Prop} {w0 w:jh9} {ds:List D} {rows:List (List jhk)} {v:jhk}
theorem aI.Hy {d:D} (h:aI T 4 ok U w0 (ds++[d]) rows v w):∃ rows' a0 a1 a2 a3,rows=rows'++[[a0,a1,a2,a3]]/\Rd (fun b=>(ok b\/w0.heap.size<=b)/\v.ownBlock≠some b/\b<U) w d [a0,a1,a2,a3]:=by
 have hl:=h.red.len;rw [jeq,List.length_singleton] at hl;have hne:rows≠[]:=fun e=>by rw [e] at hl;simp at hl
 obtain ⟨rows',r,rfl⟩:∃ rows' r,rows=rows'++[r]:=⟨_,_,(List.dropLast_concat_getLast hne).symm⟩;have hr:=h.len r (by simp)
 match r,hr with
 | [a0,a1,a2,a3],_=>exact ⟨rows',a0,a1,a2,a3,rfl,(aO.init ds rows' d _ h.red (by simp at hl;exact hl)).2⟩
end
open Go.RowKit
structure Uu (li:List aj):Prop where
 sz:aj.aS li<=900000
 sm:aj.ay li
 tf:aj.Ec li
theorem qU (name:ByteArray):∀ (cs:List UInt8) (l:List ah) (k:Nat) (c:UInt8) (b:ah),cs[k]?=some c->l[k]?=some b->aT name (cs.take (k+1)) (l.take (k+1))=aT name (cs.take k) (l.take k)++[J8 name c b]
 | [],_,_,_,_,h,_=>by simp at h
 | _::_,[],_,_,_,_,h=>by simp at h
 | c0::cs,b0::l,0,c,b,h1,h2=>by
  simp at h1 h2;subst h1 h2;simp [aT]
 | c0::cs,b0::l,k+1,c,b,h1,h2=>by
  rw [List.take_succ_cons,List.take_succ_cons,List.take_succ_cons,List.take_succ_cons,aT,aT,qU name cs l k c b (by simpa using h1) (by simpa using h2)];rfl
theorem um (name:ByteArray):∀ (cs:List UInt8) (l:List ah),(aT name cs l).length<=l.length
 | [],l=>by simp [aT]
 | _::_,[]=>by simp [aT]
 | c::cs,b::l=>by rw [aT,jez,jez];have:=um name cs l;omega
def J9 (Q:Nat) (w1:jh9) (name:ByteArray) (cs:List UInt8) (ks:List ah) (vi:jhk) (wr:jh9):Prop:=
 ∃ (k:Nat) (rows:List (List jhk)) (v:jhk) (U:Nat) (wB:jh9),k<=ks.length/\vi=.int .i64 k/\wB.heap.size=Q+1/\aI 43 4 (fun _=>False) U wB ((aT name (cs.take k) (ks.take k)).map Nd.d) rows v wr /\
  CB 43 Q [.string ⟨#[116,114]⟩,.string ⟨#[]⟩,.slice none 0 0,v] wr/\Below Q w1 wr
theorem Y5 {p:Nat} {w:jh9} {c0 c1 c2 c3:jhk} (h:CB 43 p [c0,c1,c2,c3] w):w.cell? ⟨p,0,none⟩=some c0/\w.cell? ⟨p,1,none⟩=some c1/\w.cell? ⟨p,2,none⟩=some c2/\w.cell? ⟨p,3,none⟩=some c3/\∀ j,w.frozen? ⟨p,j,none⟩=false:=
 ⟨h.cell 0 _ rfl,h.cell 1 _ rfl,h.cell 2 _ rfl,h.cell 3 _ rfl,yM h⟩
theorem BO (k lv:Int) (i t d ti:ByteArray) (at_:At) (li:List aj) (ks:List ah) (vc vp vl vk:jhk) (name letters:ByteArray) (w:jh9) (hR:jV (·<w.heap.size) w at_ li ks vc vp vl vk) (hlen:ks.length=letters.size) (hk1:ks.length<=1000000) (hc:∀ c∈ks,Uu c.kX) : Calls Tryz.prog 201 #[.agg #[.int .i64 k,.int .i64 lv,.string i,.string t,.string d,.string ti,.string at_.id,vc,vp,vl,vk],.string name,.string letters] w (rQ w (aN qw [] (aT name letters.data.toList ks))):=by
 obtain ⟨iN,FJ,oq,ou,ow⟩:=info_parts mW;obtain ⟨ac,nc,cc,rfl⟩:=Rd.au hR.at_.cls
 obtain ⟨ap,np,cp,rfl⟩:=Rd.au hR.at_.aP
 obtain ⟨al,nl,cl,rfl⟩:=Rd.au hR.line;obtain ⟨ak,ck,hvk,hs⟩:=Rd.aC hR.kids;obtain ⟨nk,hnk⟩:∃ nk,nk=ks.length:=⟨_,rfl⟩;obtain rfl:vk=.slice ak nk ck:=by rw [hnk];simpa using hvk
 have hcap:nk<=ck:=by have:=hs.le;rw [jex] at this;omega
 have hmx:=hs.max;unfold maxLen at hmx;have hnl:nk=letters.size:=by rw [hnk,hlen]
 obtain ⟨S,W0,hS,hW0,z0,k0,k1,b0⟩:=tQ 30 w [.int .i64 k,.int .i64 lv,.string i,.string t,.string d,.string ti,.string at_.id,.slice ac nc cc,.slice ap np cp,.slice al nl cl,.slice ak nk ck];have KX:Hid (∀ w':jh9,Below W0.heap.size W0 w'->w'.cell? ⟨S,10,none⟩=some (.slice ak nk ck)):=fun w' hb=>(k0.below hb).cell 10 _ rfl
 have HS2:Hid (kL (·<S) W0 11 (ks.map ah.d) ak ck):=by subst hS;exact hs.below b0
 have F6:=hid hS;have HW0:=hid hW0;have Z0:=hid z0;have B0:=hid b0;have K1:=hid k1;have HC:=hid hc;have Bo:=hid hnk;have FZ:=hid hnl;have EC:=hid (iC ⟨#[116,114]⟩ none none 0 0 0 0 W0);have Ux:nk<=1000000:=by omega
 have hls:letters.size<=1000000:=by omega
 clear hR hvk hs hnk hnl hlen hS hW0 z0 k0 k1 b0 hc hk1;go_enter Tryz.func201,Tryz.ntmps201;go_upto_region 1 with (fail)
 rw [<- F6.out];have hk0:=HW0.out;simp only [jy] at hk0;rw [<- hk0];clear hk0;go_wp2_with fail
 (with_reducible refine EC.out.mono ?_)
 rintro e w1 ⟨rfl,b1⟩;go_upto_region 2 with (fail)
 obtain ⟨Q,hQ⟩:∃ Q,Q=w1.heap.size:=⟨_,rfl⟩;obtain ⟨wQ,Rq⟩:∃ wQ,wQ=w1.alloc (.cells #[.string ⟨#[116,114]⟩,.string ⟨#[]⟩,.slice none 0 0,.slice none 0 0] 43):=⟨_,rfl⟩;have zQ:wQ.heap.size=Q+1:=by rw [Rq,hQ];simp
 have kQ:CB 43 Q [.string ⟨#[116,114]⟩,.string ⟨#[]⟩,.slice none 0 0,.slice none 0 0] wQ:=by rw [Rq,hQ];exact CB.new _ _ w1
 have bQ:Below Q w1 wQ:=by rw [Rq,hQ];exact (je7 _ _).alloc (je8 _) _
 have hWQ:W0.heap.size<=Q:=by rw [hQ];exact b1.size
 have R0:Hid (J9 Q w1 name letters.data.toList ks (.int .i64 0) wQ):=⟨0,[],_,Q+1,wQ,Nat.zero_le _,rfl,zQ,by rw [<- zQ];exact aI.nil _ _ _ _,kQ,bQ⟩;have B1:=hid b1;have g10:=KX.out wQ (b1.trans (bQ.mono hWQ));rw [<- Rq,<- hQ];clear Rq zQ kQ bQ b1 EC hQ;go_wp2
 go_loopw [15] (fun vi wr=>J9 Q w1 name letters.data.toList ks vi wr) (fun i _=>nk-(intOf i).toNat)
 case atStart=>exact R0.out
 case round=>
  clear R0 g10;obtain ⟨j,rows,v,U,wB,hj,rfl,Pk,hrow,hcb,hbel⟩:=hrel;obtain ⟨ds,hds⟩:∃ ds,ds=(aT name (letters.data.toList.take j) (ks.take j)).map Nd.d:=⟨_,rfl⟩;rw [<- hds] at hrow;obtain ⟨m,hm⟩:∃ m,m=ds.length:=⟨_,rfl⟩;have YH:m<=1000000:=by have h:=um name (letters.data.toList.take j) (ks.take j);have h2:(ks.take j).length<=ks.length:=List.length_take_le' _ _;rw [hm,hds,jex];have:=Bo.out;omega
  obtain ⟨av,cv,rfl,-,-⟩:=hrow.cap hm.symm;have HM:=hid hm.symm;have zR:=hid hds;have bC:=hid hrow;have Po:=hid hcb;have zY:=hid Pk;have fJ:=hid hbel;have hUr:=hrow.G9;have hQU:Q+1<=U:=by have:=hrow.DK;omega
  clear hrow hcb hm hds Pk hbel;by_cases hlt:j<nk
  ·obtain ⟨y,hy⟩:∃ y,ks[j]?=some y:=⟨_,je6 (by have:=Bo.out;omega)⟩;have hjs:j<letters.size:=by have:=FZ.out;omega
   obtain ⟨c,hcx⟩:∃ c,letters.data.toList[j]?=some c:=⟨_,je6 (by simpa using hjs)⟩;have hsn:=qU name _ _ _ _ _ hcx hy;have XE:=HC.out y (jf4 hy);obtain ⟨yk,FM,yi,yt,yd,FN,DY,Hg,Bq⟩:=y;have XE:Uu Hg:=XE;obtain ⟨g,off,vc,vp,vl,vk,rfl,hok,hbl,hc,hR⟩:=dV HS2.out hy;have Rs:Below S W0 wr:=((je7 _ _).trans (B1.out.mono (by have:=Z0.out;omega))).trans (fJ.out.mono (by have:=Z0.out;omega));obtain ⟨c0,c1,c2,c3,c4,c5,c6,c7,c8,c9,c10⟩:=hc.at2 (w':=wr) (Rs.block g hok);obtain ⟨JA,JB,JC,rfl⟩:=Rd.au hR.at_.cls
   obtain ⟨JD,JE,JF,rfl⟩:=Rd.au hR.at_.aP
   obtain ⟨zS,zT,zU,rfl⟩:=Rd.au hR.line;obtain ⟨JG,JH,JI,rfl⟩:=Rd.au hR.kids;have HLI:Hid (Rd (·<S) W0 (bD Hg) [.slice zS zT zU]):=hR.line;have Y6:=hid XE;have pJ:=hid (show (aT name (letters.data.toList.take (j+1)) (ks.take (j+1))).map Nd.d=ds++[(aN name (iD uo (dO c)) (iL Hg)).d] by rw [hsn,List.map_append,zR.out];rfl);have HCX:=hid hcx;have Y7:=hid Rs;have hlet:(letters[j]'hjs)=c:=by have h:=hcx;rw [je6 (by simpa using hjs)] at h;exact Option.some.inj h
   have t7:(j:Int)<(letters.size:Int):=by omega
   clear hc hok hbl hR hsn XE hy hcx Rs;go_upto_region 5 with (fail)
   obtain ⟨p,hp⟩:∃ p,p=wr.heap.size:=⟨_,rfl⟩;obtain ⟨wA,gW⟩:∃ wA,wA=wr.alloc (.cells #[.int .i64 yk,.int .i64 FM,.string yi,.string yt,.string yd,.string FN,.string DY.id,.slice JA JB JC,.slice JD JE JF,.slice zS zT zU,.slice JG JH JI] 30):=⟨_,rfl⟩;have PA:CB 30 p [.int .i64 yk,.int .i64 FM,.string yi,.string yt,.string yd,.string FN,.string DY.id,.slice JA JB JC,.slice JD JE JF,.slice zS zT zU,.slice JG JH JI] wA:=by rw [gW,hp];exact CB.new _ _ wr
   have bA:Below wr.heap.size wr wA:=by rw [gW];exact (je7 _ _).alloc (je8 _) _
   have zA:wA.heap.size=p+1:=by rw [gW,hp];simp
   rw [<- gW,<- hp];have hpr:wr.heap.size<=p:=by omega
   have hzA:wr.heap.size+1<=wA.heap.size:=by omega
   have hzp:p+1<=wA.heap.size:=by omega
   have hSW:S+2<=W0.heap.size:=Nat.le_of_eq Z0.out.symm;have BA:=hid bA;have HPA:=hid PA;have ZA:=hid zA;clear gW hp c0 c1 c2 c3 c4 c5 c6 c7 c8 c9 c10 PA bA zA;have q7:letters[j]?=some c:=by rw [<- hlet];exact getElem?_pos letters j hjs
   apply Vd (α1:=jh9) (α2:=Option Addr) (α3:=Nat) (α4:=Nat) (α5:=Nat->jhk) (R:=fun w2 a2 n2 c2 f=>Hid (Below wA.heap.size wA w2)/\Hid (Rd (wA.heap.size<=·) w2 (bS (iD uo (dO c))) [.slice a2 n2 c2]));case hm=>
    intro REST;go_upto_region 7 with (fail)
    by_cases Ka:c=108
    ·have q1:((c.toNat:Int)==108)=true:=by rw [Ka];rfl
     have hal:iD uo (dO c)=[⟨uo,⟨#[108,101,102,116]⟩⟩]:=by rw [Ka];rfl
     have PC:Hid (Calls Tryz.prog 58 #[.slice (some ⟨wA.heap.size,0,none⟩) 2 2] (wA.alloc (.cells #[.string ⟨#[97,108,105,103,110]⟩,.string ⟨#[108,101,102,116]⟩] 9)) (bg (wA.alloc (.cells #[.string ⟨#[97,108,105,103,110]⟩,.string ⟨#[108,101,102,116]⟩] 9)) [⟨uo,⟨#[108,101,102,116]⟩⟩])):=MX uo ⟨#[108,101,102,116]⟩ wA;go_wp2_with fail
     (with_reducible refine PC.out.mono ?_)
     rintro e w2 ⟨aW,v2,rfl,hrow2⟩;obtain ⟨a2,n2,c2,rfl⟩:=hrow2.slice3;have bl:Below wA.heap.size wA (wA.alloc (.cells #[.string ⟨#[97,108,105,103,110]⟩,.string ⟨#[108,101,102,116]⟩] 9)):=(je7 _ _).alloc (je8 _) _;have PR:=hid (show Rd (wA.heap.size<=·) w2 (bS (iD uo (dO c))) [.slice a2 n2 c2] by rw [hal];exact hrow2.eO.weaken (fun b hb=>Nat.le_trans bl.size hb));have B2:=hid (bl.trans (hrow2.aJ.mono bl.size));clear hrow2 bl PC hal;go_upto_region 13 with (fail)
     refine l6 [22,23,24,25,26,27,28,29,30,31,32,33,34] (fun f=>?_);simp only [List.foldl_cons,List.foldl_nil,je5,je4];exact REST w2 a2 n2 c2 f ⟨B2,PR⟩
    by_cases TG:c=99
    ·have Y8:((c.toNat:Int)==108)=false:=by rw [TG];rfl
     have q1:((c.toNat:Int)==99)=true:=by rw [TG];rfl
     have hal:iD uo (dO c)=[⟨uo,⟨#[99,101,110,116,101,114]⟩⟩]:=by rw [TG];rfl
     have PC:Hid (Calls Tryz.prog 58 #[.slice (some ⟨wA.heap.size,0,none⟩) 2 2] (wA.alloc (.cells #[.string ⟨#[97,108,105,103,110]⟩,.string ⟨#[99,101,110,116,101,114]⟩] 9)) (bg (wA.alloc (.cells #[.string ⟨#[97,108,105,103,110]⟩,.string ⟨#[99,101,110,116,101,114]⟩] 9)) [⟨uo,⟨#[99,101,110,116,101,114]⟩⟩])):=MX uo ⟨#[99,101,110,116,101,114]⟩ wA;go_wp2_with fail
     (with_reducible refine PC.out.mono ?_)
     rintro e w2 ⟨aW,v2,rfl,hrow2⟩;obtain ⟨a2,n2,c2,rfl⟩:=hrow2.slice3;have bl:Below wA.heap.size wA (wA.alloc (.cells #[.string ⟨#[97,108,105,103,110]⟩,.string ⟨#[99,101,110,116,101,114]⟩] 9)):=(je7 _ _).alloc (je8 _) _;have PR:=hid (show Rd (wA.heap.size<=·) w2 (bS (iD uo (dO c))) [.slice a2 n2 c2] by rw [hal];exact hrow2.eO.weaken (fun b hb=>Nat.le_trans bl.size hb));have B2:=hid (bl.trans (hrow2.aJ.mono bl.size));clear hrow2 bl PC hal;go_upto_region 13 with (fail)
     refine l6 [22,23,24,25,26,27,28,29,30,31,32,33,34] (fun f=>?_);simp only [List.foldl_cons,List.foldl_nil,je5,je4];exact REST w2 a2 n2 c2 f ⟨B2,PR⟩
    by_cases Ed:c=114
    ·have q99:((c.toNat:Int)==99)=false:=by rw [Ed];rfl
     have Y8:((c.toNat:Int)==108)=false:=by rw [Ed];rfl
     have q1:((c.toNat:Int)==114)=true:=by rw [Ed];rfl
     have hal:iD uo (dO c)=[⟨uo,⟨#[114,105,103,104,116]⟩⟩]:=by rw [Ed];rfl
     have PC:Hid (Calls Tryz.prog 58 #[.slice (some ⟨wA.heap.size,0,none⟩) 2 2] (wA.alloc (.cells #[.string ⟨#[97,108,105,103,110]⟩,.string ⟨#[114,105,103,104,116]⟩] 9)) (bg (wA.alloc (.cells #[.string ⟨#[97,108,105,103,110]⟩,.string ⟨#[114,105,103,104,116]⟩] 9)) [⟨uo,⟨#[114,105,103,104,116]⟩⟩])):=MX uo ⟨#[114,105,103,104,116]⟩ wA;go_wp2_with fail
     (with_reducible refine PC.out.mono ?_)
     rintro e w2 ⟨aW,v2,rfl,hrow2⟩;obtain ⟨a2,n2,c2,rfl⟩:=hrow2.slice3;have bl:Below wA.heap.size wA (wA.alloc (.cells #[.string ⟨#[97,108,105,103,110]⟩,.string ⟨#[114,105,103,104,116]⟩] 9)):=(je7 _ _).alloc (je8 _) _;have PR:=hid (show Rd (wA.heap.size<=·) w2 (bS (iD uo (dO c))) [.slice a2 n2 c2] by rw [hal];exact hrow2.eO.weaken (fun b hb=>Nat.le_trans bl.size hb));have B2:=hid (bl.trans (hrow2.aJ.mono bl.size));clear hrow2 bl PC hal;go_upto_region 13 with (fail)
     refine l6 [22,23,24,25,26,27,28,29,30,31,32,33,34] (fun f=>?_);simp only [List.foldl_cons,List.foldl_nil,je5,je4];exact REST w2 a2 n2 c2 f ⟨B2,PR⟩
    have q1:((c.toNat:Int)==108)=false:=by rw [beq_eq_false_iff_ne];intro h;exact Ka (UInt8.toNat_inj.1 (show c.toNat=108 by omega))
    have q2:((c.toNat:Int)==99)=false:=by rw [beq_eq_false_iff_ne];intro h;exact TG (UInt8.toNat_inj.1 (show c.toNat=99 by omega))
    have q3:((c.toNat:Int)==114)=false:=by rw [beq_eq_false_iff_ne];intro h;exact Ed (UInt8.toNat_inj.1 (show c.toNat=114 by omega))
    have hal:dO c=⟨#[]⟩:=by unfold dO;rw [if_neg Ka,if_neg TG,if_neg Ed]
    have PR:Hid (Rd (wA.heap.size<=·) wA (bS (iD uo (dO c))) [.slice none 0 0]):=by rw [hal];exact Rd.aB _ _ _
    clear Ka TG Ed hal;go_upto_region 13 with (fail)
    refine l6 [22,23,24,25,26,27,28,29,30,31,32,33,34] (fun f=>?_);simp only [List.foldl_cons,List.foldl_nil,je5,je4];exact REST wA none 0 0 f ⟨je7 _ _,PR⟩
   case hr=>
    intro w2 a2 n2 c2 f ⟨B2,PR⟩;have U2:=hid ((bC.out.below BA.out).below B2.out);have CQ2:=hid ((Po.out.below BA.out).below B2.out);have Ve:=hid (HPA.out.below B2.out);have hz2:=B2.out.size;have LC:=hid (qc 900000 Hg (.slice zS zT zU) w2.drew Y6.out.sz (by decide) (Rd.keep (w:=W0) (w':=w2.drew) (ok:=(·<S)) (fun b (hb:b<S) hlt=>⟨by show b<w2.heap.size;have:=Z0.out;omega,(show w2.heap[b]?=W0.heap[b]? from (B2.out.block b (by have:=Z0.out;omega)).trans ((BA.out.block b (by have:=Z0.out;omega)).trans (Y7.out.block b hb)))⟩) _ _ HLI.out) Y6.out.sm Y6.out.tf);have S0:w2.drew.cell? ⟨Q,3,none⟩=some (.slice av m cv)/\w2.drew.cell? ⟨p,9,none⟩=some (.slice zS zT zU):=⟨CQ2.out.cell 3 _ rfl,Ve.out.cell 9 _ rfl⟩;refine lC 11 (fun w'=>w'.cell? ⟨Q,3,none⟩=some (.slice av m cv)/\w'.cell? ⟨p,9,none⟩=some (.slice zS zT zU)) (by kernel_rfl) S0 ?_;intro hH;refine Mt 0 (v:=?_) rfl (by kernel_rfl) hH (by rfl) ?_ ?_;rotate_left
    ·(intro wv hSw;(try dsimp only at hSw);go_simp;try with_reducible rfl)
    try simp only [Act.put,je3,je4,je5]
    refine Mt 1 (v:=?_) rfl (by kernel_rfl) hH (by rfl) ?_ ?_;rotate_left
    ·(intro wv hSw;(try dsimp only at hSw);go_simp;try with_reducible rfl)
    try simp only [Act.put,je3,je4,je5]
    refine Mt 2 (v:=?_) rfl (by kernel_rfl) hH (by rfl) ?_ ?_;rotate_left
    ·(intro wv hSw;(try dsimp only at hSw);go_simp;try with_reducible rfl)
    try simp only [Act.put,je3,je4,je5]
    refine Mt 3 (v:=?_) rfl (by kernel_rfl) hH (by rfl) ?_ ?_;rotate_left
    ·(intro wv hSw;(try dsimp only at hSw);go_simp;try with_reducible rfl)
    try simp only [Act.put,je3,je4,je5]
    refine Mt 4 (v:=?_) rfl (by kernel_rfl) hH (by rfl) ?_ ?_;rotate_left
    ·(intro wv hSw;(try dsimp only at hSw);go_simp;try with_reducible rfl)
    try simp only [Act.put,je3,je4,je5]
    refine Mt 5 (v:=?_) rfl (by kernel_rfl) hH (by rfl) ?_ ?_;rotate_left
    ·(intro wv hSw;(try dsimp only at hSw);go_simp;try with_reducible rfl)
    try simp only [Act.put,je3,je4,je5]
    refine D9 (i:=6) rfl (by kernel_rfl) (fun KQ hK=>?_);go_simp;go_at_call 50
    (with_reducible refine LC.out.mono ?_)
    rintro e w3 ⟨fM,v3,rfl,hrow3⟩;obtain ⟨a3,n3,c3,rfl⟩:=hrow3.slice3;have b3:Below w2.heap.size w2 w3:=((je7 _ _).drew).trans hrow3.aJ;have B3:=hid b3;have KS3:=hid (show Rd (w2.heap.size<=·) w3 (bX (iL Hg)) [.slice a3 n3 c3] from hrow3.eO);have Q3:=CQ2.out.below b3;have P3:=Ve.out.below b3;have S3:w3.cell? ⟨Q,3,none⟩=some (.slice av m cv)/\w3.cell? ⟨p,9,none⟩=some (.slice zS zT zU):=⟨Q3.cell 3 _ rfl,P3.cell 9 _ rfl⟩;have U3:=hid (U2.out.below b3);have Mv:=hid Q3;have Rt:=hid P3;have EC:=hid (iC name a2 a3 n2 n3 c2 c3 w3);clear hrow3 b3 Q3 P3 LC U2;refine hK.out _ _ (fun _=>S3) (fun hH2=>?_);clear hK KQ hH;have hH:=hH2 (by decide);clear hH2;try simp only [Act.put,je3,je4,je5]
    refine D9 (i:=7) rfl (by kernel_rfl) (fun KQ hK=>?_);go_simp;go_at_call 57
    (with_reducible refine EC.out.mono ?_)
    rintro e w4 ⟨rfl,b4⟩;have B4:=hid (aU B3.out b4);have U4:=hid (U3.out.below b4);have Q4:=Mv.out.below b4;have P4:=Rt.out.below b4;have S4:w4.cell? ⟨Q,3,none⟩=some (.slice av m cv)/\w4.cell? ⟨p,9,none⟩=some (.slice zS zT zU):=⟨Q4.cell 3 _ rfl,P4.cell 9 _ rfl⟩;have HQ4:=hid Q4;have Vf:=hid P4;have hz4:=B4.out.size;have XD:=hid (show Rd (fun b=>False\/U<=b) w4 (aN name (iD uo (dO c)) (iL Hg)).d [.string name,.string ⟨#[]⟩,.slice a2 n2 c2,.slice a3 n3 c3] from Nd.gI name ⟨#[]⟩ ⟨Rd.weaken ((PR.out.aV B3.out).aV b4) (fun b hb=>.inr (by omega)),Rd.weaken (KS3.out.aV b4) (fun b hb=>.inr (by omega))⟩);clear b4 Q4 P4 EC U3 KS3 Mv Rt;refine hK.out _ _ (fun _=>S4) (fun hH2=>?_);clear hK KQ hH;have hH:=hH2 (by decide);clear hH2;try simp only [Act.put,je3,je4,je5]
    refine D9 (i:=8) rfl (by kernel_rfl) (fun KQ hK=>?_);go_simp;refine hK.out _ _ (fun _=>⟨past S4.1 _,past S4.2 _⟩) (fun hH2=>?_);clear hK KQ hH;have hH:=hH2 (by decide);clear hH2;try simp only [Act.put,je3,je4,je5]
    refine D9 (i:=9) rfl (by kernel_rfl) (fun KQ hK=>?_);refine sZ rfl (.tmp 36) (.tmp 43) 34 rfl iN _ 80 Tryz.underlying34 FJ oq ou ow rfl (by decide) U4.out (fun _=>False.elim) (aN name (iD uo (dO c)) (iL Hg)).d [.string name,.string ⟨#[]⟩,.slice a2 n2 c2,.slice a3 n3 c3] XD.out rfl j3 HM.out (by omega) (by decide) rfl rfl ?_;intro a5 c5 w5 bR hg5;have hz5:w4.heap.size+1<=w5.heap.size:=by have h:=hg5.size;simp at h;exact h
    have hvQ:some Q≠(Value.slice av m cv).ownBlock:=fun e=>by have:=(U4.out.own.lt Q e.symm).1;have:=zY.out;omega
    have hvp:some p≠(Value.slice av m cv).ownBlock:=fun e=>by have:=U4.out.oU p e.symm;omega
    have q5:CB 43 Q [.string ⟨#[116,114]⟩,.string ⟨#[]⟩,.slice none 0 0,.slice av m cv] w5:=(hg5.block Q (by simp;omega) hvQ).trans ((jf2 w4 _ Q HQ4.out.lt).trans HQ4.out);have p5:CB 30 p [.int .i64 yk,.int .i64 FM,.string yi,.string yt,.string yd,.string FN,.string DY.id,.slice JA JB JC,.slice JD JE JF,.slice zS zT zU,.slice JG JH JI] w5:=(hg5.block p (by simp;omega) hvp).trans ((jf2 w4 _ p Vf.out.lt).trans Vf.out);have S5:w5.cell? ⟨Q,3,none⟩=some (.slice av m cv)/\w5.cell? ⟨p,9,none⟩=some (.slice zS zT zU):=⟨q5.cell 3 _ rfl,p5.cell 9 _ rfl⟩;have fz:=yM q5;have e3:=q5.cell 3 _ rfl;have XF:=hid q5;have U5:=hid bR;have Pm:=hid hg5;clear bR hg5 q5 p5 hvp XD;refine hK.out _ _ (fun _=>S5) (fun hH2=>?_);clear hK KQ hH;have hH:=hH2 (by decide);clear hH2;try simp only [Act.put,je3,je4,je5]
    refine D9 (i:=10) rfl (by kernel_rfl) (fun KQ hK=>?_);go_simp;refine hK.out _ _ (fun _=>S5) (fun hH2=>?_);clear hK KQ hH;have hH:=hH2 (by decide);clear hH2;try simp only [Act.put,je3,je4,je5]
    refine D9 (i:=11) rfl (by kernel_rfl) (fun KQ hK=>?_);go_simp;refine hK.out _ _ (fun h=>absurd rfl h) (fun _=>?_);clear hK KQ;refine lD (by kernel_rfl) ?_ _;obtain ⟨w6,j4⟩:∃ w6,w6=w5.setCell ⟨Q,3,none⟩ (.slice a5 (m+1) c5):=⟨_,rfl⟩;rw [<- j4];have g6:w5.grownBy w6 (some Q):=by rw [j4];exact ⟨rfl,rfl,rfl,by simp [jg1],fun b _ hb=>jf1 w5 ⟨Q,3,none⟩ _ b (fun e=>hb (by rw [e]))⟩
    have q6:CB 43 Q [.string ⟨#[116,114]⟩,.string ⟨#[]⟩,.slice none 0 0,.slice a5 (m+1) c5] w6:=by rw [j4];exact xD XF.out 3 _
    have hz6:w6.heap.size=w5.heap.size:=by rw [j4];simp [jg1]
    obtain ⟨wB6,hB6,iw⟩:=U5.out.hop2 (p:=Q) (by have:=zY.out;omega) g6;have HF:Hid (J9 Q w1 name letters.data.toList ks (.int .i64 ((j+1:Nat):Int)) w6):=by
     have h1:=iw.up (U':=w6.heap.size) (by omega) (je8 _);rw [<- pJ.out] at h1;refine ⟨j+1,_,_,w6.heap.size,wB6,by have:=Bo.out;omega,rfl,hB6.trans zY.out,h1,q6,?_⟩;have Rq:Q<=wr.heap.size:=by omega
     refine fJ.out.trans ((BA.out.mono Rq).trans ((B2.out.mono (by have:=BA.out.size;omega)).trans ((B4.out.mono (by omega)).trans ?_)));exact ((je7 _ _).alloc (by omega) _ |>.grown Pm.out (by simp;omega) (fun g hg=>by have:=(U4.out.own.lt g hg).1;have:=zY.out;omega)).trans ((je7 Q w5).grown g6 (by omega) (fun g hg=>by have:=Option.some.inj hg;omega))
    clear j4 g6 q6 iw hB6 U5 Pm XF hH S0 S3 S4 S5 fz e3 hvQ;go_wp2;go_roundw;case rel=>exact HF.out
    case measure=>simp [intOf];omega
  ·have hkl:j=nk:=by have:=Bo.out;omega
   have hjk:j=ks.length:=by have:=Bo.out;omega
   have hll:letters.data.toList.length=letters.size:=by simp
   have Vg:Hid (jA (W0.heap.size<=·) wr [] (aT name letters.data.toList ks) (.slice none 0 0) (.slice av m cv)):=by have h:=bC.out.eO;rw [zR.out,jfj (by rw [hll];have:=FZ.out;omega),jfj (by omega)] at h;exact ⟨Rd.aB _ _ _,h.weaken (fun b hb=>by have:=zY.out;omega)⟩
   have BL:=hid (B1.out.trans (fJ.out.mono hWQ));obtain ⟨x0,x1,x2,x3,xf⟩:=mJ (K1.out.below BL.out);obtain ⟨y0,y1,y2,y3,-⟩:=Y5 Po.out;clear hll hjk;go_upto_region 15 with (fail)
   obtain ⟨w9,dG⟩:∃ w9,w9=four wr (S+1) (.string ⟨#[116,114]⟩) (.string ⟨#[]⟩) (.slice none 0 0) (.slice av m cv):=⟨_,rfl⟩;have hf:=fO ⟨#[116,114]⟩ ⟨#[]⟩ [] (aT name letters.data.toList ks) F6.out Z0.out B0.out K1.out BL.out Vg.out;rw [<- dG] at hf;have j5:=hid hf.1;have Ee:=hid hf.2;clear hf;have hw8:=dG;simp only [four] at hw8;clear dG;go_wp2;rw [<- hw8];have r0:=j5.out.cell 0 _ rfl;have r1:=j5.out.cell 1 _ rfl;have r2:=j5.out.cell 2 _ rfl;have r3:=j5.out.cell 3 _ rfl;exact bodyPost_ret (v:=.agg #[.string ⟨#[116,114]⟩,.string ⟨#[]⟩,.slice none 0 0,.slice av m cv]) (by simp [results,Tryz.results201,go_sem,r0,r1,r2,r3]) rfl Ee.out
end Go.Proofs.YtclikfjalmcoaaaGreatDoor

