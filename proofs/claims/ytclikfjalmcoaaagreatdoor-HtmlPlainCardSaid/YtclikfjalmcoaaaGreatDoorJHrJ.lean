/- Contract of html.line: the nodes of inlines. Contracts of publisherref34.some, element, texts, attrs, joined. Contract of publisherref34.joined: neighbouring texts are joined. -/
import Derived.Test.YtclikfjalmcoaaaGreatDoorJHsm
import Derived.Test.YtclikfjalmcoaaaGreatDoorJHtF
import Derived.Test.YtclikfjalmcoaaaGreatDoorJPlUn
set_option maxHeartbeats 8000000
set_option maxRecDepth 100000
open Go.Lib (hid)
namespace Go.Proofs.YtclikfjalmcoaaaGreatDoor
open List renaming setIfInBounds_toArray->jc3,set_cons_zero->jc4,set_cons_succ->jc5,length_append->jcq,length_map->jcx,mem_of_getElem?->jd4
open Nat renaming le_refl->jc8
open Go.RowKit.Below renaming heap_setCell->jd1,heap_alloc->jd2
open Go.World renaming cell?->je0,setCell->je1
open Go renaming Value->jfk
open Go.RowKit
set_option linter.unusedVariables false
set_option linter.unusedSimpArgs false
theorem TY (x:ah) (h:x.small):x.nd.tx.size<=300:=by
 obtain ⟨k,t,d,ti,a,ar,ci,ks⟩:=x;rw [ah.small] at h;have h1:=h.1;have e0:(⟨#[]⟩:ByteArray).size=0:=rfl;have e1:QG.size=1:=rfl;rw [ah.nd];have key:∀ (c:Prop) [Decidable c] (a b:Nd),a.tx.size<=300->b.tx.size<=300->(if c then a else b).tx.size<=300:=by
  intro c _ a b h1 h2;split
  ·exact h1
  ·exact h2
 have el:∀ (n:ByteArray) (a:List Pr) (ks:List Nd),(aL n a ks).tx.size<=300:=fun _ _ _=>by show (⟨#[]⟩:ByteArray).size<=300;omega
 refine key _ _ _ (by show QG.size<=300;omega) ?_;refine key _ _ _ (el _ _ _) (key _ _ _ (el _ _ _) (key _ _ _ (el _ _ _) (key _ _ _ (el _ _ _) (key _ _ _ (el _ _ _) (key _ _ _ (el _ _ _) (key _ _ _ (el _ _ _) (key _ _ _ (el _ _ _) (key _ _ _ (el _ _ _) (key _ _ _ (el _ _ _) (key _ _ _ (el _ _ _) h1))))))))))
theorem ah.nZ:∀ (l:List ah),ah.aC l->∀ x∈l,x.small
 | [],_,x,hx=>by cases hx
 | y::l,h,x,hx=>by
  rw [ah.aC] at h;rcases List.mem_cons.1 hx with rfl | hx
  ·exact h.1
  ·exact ah.nZ l h.2 x hx
theorem Ch:∀ (l:List Nd) (p:List Nd × ByteArray),(l.foldl dV p).1.length<=p.1.length+2*l.length
 | [],p=>by simp
 | x::l,p=>by
  have h:=Ch l (dV p x);have h2:(dV p x).1.length<=p.1.length+2:=by
   unfold dV;split
   ·show p.1.length<=_;omega
   ·show (p.1++bJ p.2++[x]).length<=_;rw [jcq,jcq];have:(bJ p.2).length<=1:=by unfold bJ;split<;>simp
    simp;omega
  rw [List.foldl_cons,List.length_cons];omega
theorem Gl:∀ (l:List Nd) (p:List Nd × ByteArray),(∀ x∈l,x.tx.size<=300)->(l.foldl dV p).2.size<=p.2.size+300*l.length
 | [],p,_=>by simp
 | x::l,p,hx=>by
  have h:=Gl l (dV p x) (fun y hy=>hx y (List.mem_cons_of_mem _ hy));have h1:=hx x (List.mem_cons_self ..);have h2:(dV p x).2.size<=p.2.size+300:=by
   unfold dV;split
   ·show (p.2++x.tx).size<=_;rw [ByteArray.size_append];omega
   ·show (⟨#[]⟩:ByteArray).size<=_;have:(⟨#[]⟩:ByteArray).size=0:=rfl;omega
  rw [List.foldl_cons,List.length_cons];omega
theorem Es (l:List Nd) (k:Nat) (x:Nd) (h:l[k]?=some x):eX (l.take (k+1))=dV (eX (l.take k)) x:=by rw [List.take_add_one,h];exact Et _ _
theorem zo (a b:ByteArray):Lib.strCells (a++b)=Lib.strCells a++Lib.strCells b:=by unfold Lib.strCells;rw [ByteArray.data_append];simp
def fO (w:World) (g o:Nat) (c0 c1 c2 c3:jfk):World:=(((w.setCell ⟨g,o,none⟩ c0).setCell ⟨g,o+1,none⟩ c1).setCell ⟨g,o+2,none⟩ c2).setCell ⟨g,o+3,none⟩ c3
theorem Jk (w:World) (g o:Nat) (c0 c1 c2 c3:jfk) (b:Nat) (h:b≠g):(fO w g o c0 c1 c2 c3).heap[b]?=w.heap[b]?:=by unfold fO;rw [jd1 _ ⟨g,o+3,none⟩ _ b h,jd1 _ ⟨g,o+2,none⟩ _ b h,jd1 _ ⟨g,o+1,none⟩ _ b h,jd1 _ ⟨g,o,none⟩ _ b h]
theorem jr (w:World) (b b' o o':Nat) (u v:jfk) (h:b≠b'):(w.setCell ⟨b,o,none⟩ u).setCell ⟨b',o',none⟩ v=(w.setCell ⟨b',o',none⟩ v).setCell ⟨b,o,none⟩ u:=by
 unfold je1;simp only [World.mk.injEq,and_true];apply Array.ext_getElem?;intro i;simp only [Array.getElem?_modify];by_cases h1:b=i
 ·subst h1;have hb:¬ b'=b:=fun e=>h e.symm
  simp [hb]
 ·simp [h1]
theorem Jl (w:World) (S g o:Nat) (V c0 c1 c2 c3:jfk) (h:S≠g):fO (w.setCell ⟨S,0,none⟩ V) g o c0 c1 c2 c3=(fO w g o c0 c1 c2 c3).setCell ⟨S,0,none⟩ V:=by unfold fO;rw [jr w S g,jr _ S g,jr _ S g,jr _ S g]<;>exact h
theorem xW {w:World} {g o:Nat} {c0 c1 c2 c3:jfk} {b j:Nat} {v:jfk} (h:w.cell? ⟨b,j,none⟩=some v) (hb:b≠g):(fO w g o c0 c1 c2 c3).cell? ⟨b,j,none⟩=some v:=by rw [fJ (Jk w g o c0 c1 c2 c3 b hb)];exact h
section
variable {T:TypeId} {U:Nat} {ok:Nat->Prop} {w0 w:World} {ds:List D} {rows:List (List jfk)} {v:jfk}
theorem aI.Gm {g n c:Nat} {d0 d1:D} {a0 a1 a2 a3:jfk} (h:aI T 4 ok U w0 (ds++[d0]) (rows++[[a0,a1,a2,a3]]) (.slice (some ⟨g,0,none⟩) (n+1) c) w) (hn:ds.length=n) (c0 c1 c2 c3:jfk) (hd:Rd (fun b=>(ok b\/w0.heap.size<=b)/\g≠b/\b<U) w d1 [c0,c1,c2,c3]):aI T 4 ok U w0 (ds++[d1]) (rows++[[c0,c1,c2,c3]]) (.slice (some ⟨g,0,none⟩) (n+1) c) (fO w g (n*4) c0 c1 c2 c3):=by
 have hl:rows.length=n:=by have:=h.red.len;simp at this;omega
 have hfl:rows.flatten.length=n*4:=by rw [jL 4 rows (fun r hr=>h.len r (by simp [hr])),hl]
 have hown:=h.own;have e1:(rows++[[a0,a1,a2,a3]]).flatten=rows.flatten++[a0,a1,a2,a3]:=by simp
 rw [e1,jcq,List.length_singleton,hn] at hown;have st:∀ (W:World) (zs:List jfk),W.ownsRow w0.heap.size T 4 (.slice (some ⟨g,0,none⟩) (n+1) c) (n+1) (rows.flatten++zs)->∀ (j:Nat) (u:jfk),(W.setCell ⟨g,n*4+j,none⟩ u).ownsRow w0.heap.size T 4 (.slice (some ⟨g,0,none⟩) (n+1) c) (n+1) (rows.flatten++zs.set j u):=by intro W zs hW j u;have:=(hW.stored (n*4+j) u).1;rw [List.set_append_right _ _ (by omega),hfl,Nat.add_sub_cancel_left] at this;exact this
 have o4:=st _ _ (st _ _ (st _ _ (st _ _ hown 0 c0) 1 c1) 2 c2) 3 c3;have hb:∀ b,b≠g->(fO w g (n*4) c0 c1 c2 c3).heap[b]?=w.heap[b]?:=fun b hb=>Jk w g _ _ _ _ _ b hb
 have hz:(fO w g (n*4) c0 c1 c2 c3).heap.size=w.heap.size:=by simp [fO,je1]
 have hg0:w0.heap.size<=g:=(h.own.lt g rfl).1;refine ⟨?_,?_,?_,?_,h.oU,h.Eu,by rw [hz];exact h.Ie⟩
 ·rw [show (rows++[[c0,c1,c2,c3]]).flatten=rows.flatten++[c0,c1,c2,c3] by simp,jcq,List.length_singleton,hn];exact o4
 ·obtain ⟨rA,rB,e2,hA,hB⟩:∃ rA rB,rows++[[a0,a1,a2,a3]]=rA++[rB]/\aO (fun b=>(ok b\/w0.heap.size<=b)/\(Value.slice (some ⟨g,0,none⟩) (n+1) c).ownBlock≠some b/\b<U) w ds rA/\True:=by
   refine ⟨rows,_,rfl,?_,trivial⟩;have h0:=h.red;clear st o4 hown;generalize hP:(fun b=>(ok b\/w0.heap.size<=b)/\(Value.slice (some ⟨g,0,none⟩) (n+1) c).ownBlock≠some b/\b<U)=P at h0;have gen:∀ (ds:List D) (rows:List (List jfk)) (d0:D) (r0:List jfk),aO P w (ds++[d0]) (rows++[r0])->rows.length=ds.length->aO P w ds rows:=by
    intro ds;induction ds with
    | nil=>intro rows d0 r0 _ hl;rw [List.eq_nil_of_length_eq_zero hl];exact aO.none
    | cons x ds ih=>
     intro rows d0 r0 hr hl;cases rows with
     | nil=>simp at hl
     | cons r rows=>
      obtain ⟨r',rs,e,h1,h2⟩:=hr.aG;have e':r'=r/\rs=rows++[r0]:=by simp at e;exact ⟨e.1.symm,e.2.symm⟩
      obtain ⟨rfl,rfl⟩:=e';exact aO.cons h1 (ih rows d0 r0 h2 (by simpa using hl))
   exact gen ds rows d0 _ h0 (by omega)
  have e3:rA=rows:=by have:=congrArg List.dropLast e2;simpa using this.symm
  subst e3;refine aO.app (aO.keep (fun b hb' _=>⟨hb',hb b (fun e=>by subst e;exact hb'.2.1 rfl)⟩) _ _ hA) (aO.one (Rd.keep (fun b hb' _=>⟨⟨hb'.1,fun e=>hb'.2.1 (by simpa [Value.ownBlock] using e),hb'.2.2⟩,hb b (fun e=>hb'.2.1 e.symm)⟩) _ _ hd))
 ·intro r hr;rcases List.mem_append.1 hr with hr | hr
  ·exact h.len r (by simp [hr])
  ·simp at hr;subst hr;rfl
 ·have hbel:=h.aJ;exact (((hbel.setCell (p:=⟨g,n*4,none⟩) hg0 c0).setCell (p:=⟨g,n*4+1,none⟩) hg0 c1).setCell (p:=⟨g,n*4+2,none⟩) hg0 c2).setCell (p:=⟨g,n*4+3,none⟩) hg0 c3
theorem aI.lg {g n c:Nat} {d0:D} {a0 a1 a2 a3:jfk} (h:aI T 4 ok U w0 (ds++[d0]) (rows++[[a0,a1,a2,a3]]) (.slice (some ⟨g,0,none⟩) (n+1) c) w) (hn:ds.length=n) : w.cell? ⟨g,n*4,none⟩=some a0/\w.cell? ⟨g,n*4+1,none⟩=some a1/\w.cell? ⟨g,n*4+2,none⟩=some a2/\w.cell? ⟨g,n*4+3,none⟩=some a3/\∀ j,w.frozen? ⟨g,j,none⟩=false:=by
 have hl:rows.length=n:=by have:=h.red.len;simp at this;omega
 have hfl:rows.flatten.length=n*4:=by rw [jL 4 rows (fun r hr=>h.len r (by simp [hr])),hl]
 have hc:∀ i u,[a0,a1,a2,a3][i]?=some u->w.cell? ⟨g,n*4+i,none⟩=some u:=by
  intro i u hu;have:=h.own.cells (g:=g) rfl (n*4+i) u (by
   rw [show (rows++[[a0,a1,a2,a3]]).flatten=rows.flatten++[a0,a1,a2,a3] by simp,List.getElem?_append_right (by omega),hfl,Nat.add_sub_cancel_left];exact hu)
  have e:((⟨g,0,none⟩:Addr).add (n*4+i))=⟨g,n*4+i,none⟩:=by unfold Addr.add;split<;>simp_all
  rwa [e] at this
 refine ⟨hc 0 _ rfl,hc 1 _ rfl,hc 2 _ rfl,hc 3 _ rfl,fun j=>?_⟩;rcases h.own.2 with ⟨h1,-⟩ | ⟨g',cap,cur,h1,-,h2,-⟩
 ·cases h1
 ·injection h1 with h1
  injection h1 with h1
  injection h1 with h1
  subst h1;simp [World.frozen?,h2]
theorem Ig {k n:Nat} {ops:Array Oper} {o:Oper} {a:Act} {K:Act->World->Prop} {Q:Exit->Act->World->Prop} {E:Prop} (hgd:o.guard=none) (s x:Operand) (t:TypeId) (ho:o.op=.call { callee:=.builtin .append,args:=#[s,x],argTypes:=#[t,t] }) (i:TypeInfo) (z:jfk) (bytes:Nat) (ht:Tryz.prog.underlying t=some (.slice T)) (hi:Tryz.prog.info? T=some i) (hz:i.zero=some z) (hsize:i.size=k) (hby:i.bytes=bytes) (hzs:z.cells.size=k) (hsz:0<k) (h:aI T k ok U w0 ds rows v w) (hB:∀ b,ok b->b<w0.heap.size) (d:D) (r:List jfk) (hx:Rd (fun b=>ok b\/U<=b) w d r) (hr:r.length=k) (h1:∀ u∈r,u.oneCell'=true) (hdn:ds.length=n) (hn:n<=10000000) (lX:bytes<=1000) (hs:a.eval s=v) (hxe:a.eval x=.slice (some ⟨w.heap.size,0,none⟩) 1 1) (hK:∀ g c' w',aI T k ok w'.heap.size w0 (ds++[d]) (rows++[r]) (.slice (some ⟨g,0,none⟩) (n+1) c') w'->(w.alloc (.cells r.toArray T)).grownBy w' v.ownBlock->(v.ownBlock=some g\/w.heap.size<g)->n+1<=c'->K (a.put o.dst (.slice (some ⟨g,0,none⟩) (n+1) c')) w') : if Region.wanted o (yielded ops a.tmps)=true then Oper.wp Tryz.prog o a (w.alloc (.cells r.toArray T)) K Q else E:=by
 subst hdn;have hmul:(ds.length+1)*bytes<=140737488355328:=Nat.le_trans (Nat.mul_le_mul (show ds.length+1<=10000001 by omega) lX) (by omega);refine step_append_lies _ hgd s x t ho w0.heap.size T i z k bytes ht hi hz hsize hby hzs hsz v ds.length rows.flatten hs (h.own.alloc _) ⟨w.heap.size,0,none⟩ 1 1 r hxe (by omega) (Mi w r T) h1 (by omega) (by unfold maxLen;omega) hmul (by have:=h.aJ.size;simp;omega) (w.heap.size+1) (by simp) ?_;intro g cap w' hown hg hat _;have MU:v.ownBlock=some g\/w.heap.size<g:=hat.elim (fun e=>.inl (by rw [e])) (fun e=>.inr (by omega));have hcp:ds.length+1<=cap:=by obtain ⟨g',cap',he,hle⟩:=gI hown (by omega);injection he with _ _ he;omega
 refine hK _ _ w' ?_ hg MU hcp;refine h.put hB (bg:=[r]) (es:=[d]) (aO.one (Rd.keep (fun b hb hlt=>⟨hb,jd2 w _ b hlt⟩) _ _ hx)) (by simp [hr]) (World.grownBy_alloc w _ none) (by simpa using hown) hg (hat.elim (fun e=>.inl (by rw [e];rfl)) (fun e=>.inr (by rw [e];simp [Value.ownBlock])))
end
def qJ (S:Nat) (w:World) (N:List Nd) (vi:jfk) (wr:World):Prop:=
 ∃ (k:Nat) (rows:List (List jfk)) (v:jfk) (U:Nat) (wB:World),k<=N.length/\vi=.int .i64 k/\wB.heap.size=S+2/\aI 43 4 (fun _=>False) U wB ((eX (N.take k)).1.map Nd.d) rows v wr /\
  aF S v 34 wr/\zq (S+1) U (Lib.strCells (eX (N.take k)).2) wr/\Below S w wr
theorem JO {p:Nat} {w:World} {c0 c1 c2 c3 c4 c5 c6 c7 c8 c9:jfk} (h:PB p [c0,c1,c2,c3,c4,c5,c6,c7,c8,c9] w) : w.cell? ⟨p,0,none⟩=some c0/\w.cell? ⟨p,1,none⟩=some c1/\w.cell? ⟨p,2,none⟩=some c2/\w.cell? ⟨p,3,none⟩=some c3/\w.cell? ⟨p,4,none⟩=some c4/\w.cell? ⟨p,5,none⟩=some c5 /\ w.cell? ⟨p,6,none⟩=some c6/\w.cell? ⟨p,7,none⟩=some c7/\w.cell? ⟨p,8,none⟩=some c8/\w.cell? ⟨p,9,none⟩=some c9:=
 ⟨h.cell 0 _ rfl,h.cell 1 _ rfl,h.cell 2 _ rfl,h.cell 3 _ rfl,h.cell 4 _ rfl,h.cell 5 _ rfl,h.cell 6 _ rfl,h.cell 7 _ rfl,h.cell 8 _ rfl,h.cell 9 _ rfl⟩
theorem jF.T9 {S:Nat} {w w':World} {at_:At} {ar:List ByteArray} {ci:List Ci} {ks:List ah} {vc vp va vi vk:jfk} (h:jF (·<S) w at_ ar ci ks vc vp va vi vk) (hb:Below S w w') (hS:S<=w'.heap.size):jF (·<w'.heap.size) w' at_ ar ci ks vc vp va vi vk:=
 have hs:uE (·<S) (·<w'.heap.size) w w':=fun b (h1:b<S) _=>⟨by omega,hb.block b h1⟩
 ⟨⟨Rd.keep hs _ _ h.at_.cls,Rd.keep hs _ _ h.at_.aH⟩,Rd.keep hs _ _ h.args,Rd.keep hs _ _ h.bM,Rd.keep hs _ _ h.kids⟩
theorem uF (s:ByteArray):s.toList.isEmpty=aW s:=by rw [Lib.toList_data,Bool.eq_iff_iff,List.isEmpty_iff,aW,decide_eq_true_iff]
theorem JQ {s:ByteArray} (h:aW s=false):0<s.size:=by
 unfold aW at h;rw [decide_eq_false_iff_not] at h;have:s.data.toList.length≠0:=fun e=>h (List.eq_nil_of_length_eq_zero e)
 have e2:s.data.toList.length=s.size:=by simp
 omega
theorem zq.zu {b U U':Nat} {w w':World} (h:zq b U [] w) (hs:w'.heap[b]?=w.heap[b]?) (hU:b<U'):zq b U' [] w':=
 h.imp (fun ⟨_,v,h2,_,h4⟩=>⟨hU,v,hs.trans h2,by rw [h4 rfl];exact World.ownsRowF_nil _ _ _ _,h4⟩) (fun ⟨_,v,h2,_,h4⟩=>⟨hU,v,hs.trans h2,by rw [h4 rfl];exact World.ownsRowF_nil _ _ _ _,h4⟩)
theorem iH (n:Nat):∀ (l:List ah) (v:jfk) (w:World),ah.aU l<=n->n<=1000000->Rd (·<w.heap.size) w (bC l) [v]->ah.aC l->ah.Ev l -> Calls Tryz.prog 50 #[v] w (bR w (fA l)):=by
 induction n using Nat.strongRecOn with
 | _ n ih=>
  intro l v w hn hnm hrd hsm Wv;obtain ⟨iN,wG,jh,ji,jk⟩:=info_parts og;obtain ⟨a,cap,hv,hs⟩:=Rd.aD hrd;obtain rfl:v=.slice a l.length cap:=by simpa using hv
  have hcap:l.length<=cap:=by simpa using hs.le
  have hll:=ah.gU l;have hmx:=hs.max;unfold maxLen at hmx;obtain ⟨N,hN⟩:∃ N,N=ah.Cj l:=⟨_,rfl⟩;have hNl:N.length=l.length:=by rw [hN,o9,jcx]
  have hNt:∀ x∈N,x.tx.size<=300:=by intro x hx;rw [hN,o9] at hx;obtain ⟨y,hy,rfl⟩:=List.mem_map.1 hx;exact TY y (ah.nZ l hsm y hy)
  have hNf:∀ x∈N,x.full:=by rw [hN];exact Ck l Wv
  have Ua:fA l=(eX N).1++bJ (eX N).2:=by rw [hN];exact JR l Wv
  obtain ⟨S,hS⟩:∃ S,S=w.heap.size:=⟨_,rfl⟩;obtain ⟨W0,hW0⟩:∃ W,W=(w.alloc (.cells #[.slice none 0 0] 34)).alloc (.cells #[.pointer none,.slice none 0 0] 110):=⟨_,rfl⟩;have z0:W0.heap.size=S+2:=by rw [hW0,hS];simp
  have k0:aF S (.slice none 0 0) 34 W0:=by rw [hW0,hS];exact (aF.new w _ _).alloc _
  have k1:W0.heap[S+1]?=some (.cells #[.pointer none,.slice none 0 0] 110 (0,0)):=by
   rw [hW0,hS];have:=heap_alloc_new (w.alloc (.cells #[.slice none 0 0] 34)) (.cells #[.pointer none,.slice none 0 0] 110)
   rwa [World.size_alloc] at this
  have b0:Below S w W0:=by rw [hW0,hS];exact ((Below.refl _ _).alloc (jc8 _) _).alloc (by simp) _
  have R0:Hid (qJ S w N (.int .i64 0) W0):=⟨0,[],_,S+2,W0,Nat.zero_le _,rfl,z0,by rw [<- z0];exact aI.nil _ _ _ _,k0,zq.new k1 (by omega),b0⟩;have HS:=hid hs;have IH:=hid ih;have iT:=hid hsm;have HTF:=hid Wv;have HN:=hid hN;have Ew:=hid hNl;have HNT:=hid hNt;have HNF:=hid hNf;have bS:=hid Ua;have Gn:=hid hS;have HW0:=hid hW0;clear hs hv hrd ih hsm Wv hN hNl hNt hNf Ua hS hW0 z0 k0 k1 b0;go_enter Tryz.func50,Tryz.ntmps50;go_upto_region 3 with (fail)
  rw [<- Gn.out,<- HW0.out];go_wp2
  go_loopw [12] (fun vi wr=>qJ S w N vi wr) (fun i _=>l.length-(intOf i).toNat)
  case atStart=>exact R0.out
  case round=>
   clear R0 HW0;obtain ⟨k,rows,v,U,wB,hk,rfl,O9,hrow,hbx,hbd,hbel⟩:=hrel;rw [Ew.out] at hk;obtain ⟨P,hP⟩:∃ P,P=eX (N.take k):=⟨_,rfl⟩;rw [<- hP] at hrow hbd;obtain ⟨m,hm⟩:∃ m,m=(P.1.map Nd.d).length:=⟨_,rfl⟩;have hm2:m<=2*k:=by
    have h:=Ch (N.take k) ([],⟨#[]⟩);have h2:(N.take k).length<=k:=List.length_take_le _ _;have h3:P.1=((N.take k).foldl dV ([],⟨#[]⟩)).1:=by rw [hP];rfl
    rw [<- h3] at h;rw [hm,jcx];simp at h;omega
   have hpt:P.2.size<=300*k:=by
    have h:=Gl (N.take k) ([],⟨#[]⟩) (fun x hx=>HNT.out x (List.mem_of_mem_take hx));have h2:(N.take k).length<=k:=List.length_take_le _ _;have h3:P.2=((N.take k).foldl dV ([],⟨#[]⟩)).2:=by rw [hP];rfl
    rw [<- h3] at h;have h4:(([]:List Nd),(⟨#[]⟩:ByteArray)).2.size=0:=rfl;omega
   obtain ⟨av,cv,rfl,-,-⟩:=hrow.cap hm.symm;have HM:=hid hm.symm;have HP:=hid hP;have aY:=hid hrow;have jJ:=hid hbx;have iM:=hid hbd;have lK:=hid O9;have hUr:=hrow.Ie;have hSU:S+2<=U:=by have:=hrow.Eu;omega
   have SK:Hid (P.1.length=m):=by show _=_;rw [hm,jcx]
   clear hrow hbx hbd hm hP O9;by_cases hlt:k<l.length
   ·obtain ⟨x,hx⟩:∃ x,l[k]?=some x:=⟨_,List.getElem?_eq_getElem hlt⟩;have Ww:N[k]?=some x.nd:=by rw [HN.out,o9,List.getElem?_map,hx];rfl
    have hst:=Es N k x.nd Ww;rw [<- HP.out] at hst;have hfull:=HNF.out x.nd (jd4 Ww);have htx:=HNT.out x.nd (jd4 Ww);have hxs:=ah.nZ l iT.out x (jd4 hx);have hxt:=zw l HTF.out x (jd4 hx);have hsz:=ah.bD l k _ hx;obtain ⟨X,hX⟩:∃ X,X=x.nd:=⟨_,rfl⟩;rw [<- hX] at hst hfull htx;obtain ⟨kd,t,d,ti,at_,ar,ci,ks⟩:=x;obtain ⟨g,off,vc,vp,va,vi,vk,rfl,hok,hbl,hc,hR⟩:=eF HS.out hx;obtain ⟨c0,c1,c2,c3,c4,c5,c6,c7,c8,c9⟩:=hc.below (show Below w.heap.size w wr by rw [<- Gn.out];exact hbel);rw [ah.sz] at hsz;obtain ⟨ac,nc,cc,rfl⟩:=Rd.aj hR.at_.cls
    obtain ⟨ap,np,cp,rfl⟩:=Rd.aj hR.at_.aH
    obtain ⟨aa,na,ca,rfl⟩:=Rd.aj hR.args;obtain ⟨ai,ni,nE,rfl⟩:=Rd.aj hR.bM;obtain ⟨ak,nk,ck,rfl⟩:=Rd.aj hR.kids;have HR:Hid (jF (·<S) w at_ ar ci ks (.slice ac nc cc) (.slice ap np cp) (.slice aa na ca) (.slice ai ni nE) (.slice ak nk ck)):=by rw [Gn.out];exact hR
    have HST:=hid hst;have HX:=hid hX;have JU:=hid hfull;have HXS:=hid hxs;have HXT:=hid hxt;have dY:=hid hbel;have hSr:S<=wr.heap.size:=by have:=hbel.size;have:=Gn.out;omega
    clear hc hok hbl hR hst hX hfull hxs hxt Ww hx hbel;go_upto_region 7 with (fail)
    obtain ⟨p,hp⟩:∃ p,p=wr.heap.size:=⟨_,rfl⟩;obtain ⟨wA,gQ⟩:∃ wA,wA=wr.alloc (.cells #[.int .i64 kd,.string t,.string d,.string ti,.string at_.id,.slice ac nc cc,.slice ap np cp,.slice aa na ca,.slice ai ni nE,.slice ak nk ck] 51):=⟨_,rfl⟩;have PA:PB p [.int .i64 kd,.string t,.string d,.string ti,.string at_.id,.slice ac nc cc,.slice ap np cp,.slice aa na ca,.slice ai ni nE,.slice ak nk ck] wA:=by rw [gQ,hp];exact heap_alloc_new wr _
    have bA:Below wr.heap.size wr wA:=by rw [gQ];exact (Below.refl _ _).alloc (jc8 _) _
    rw [<- gQ,<- hp];obtain ⟨e0,e1,e2,e3,e4,e5,e6,e7,e8,e9⟩:=JO PA;have zA:=bA.size;have BA:=hid (dY.out.trans (bA.mono hSr));have XM:=HR.out.T9 BA.out (by omega);have LC:iU wA ks (.slice ak nk ck):=fun W hW=>by
     have hsk:=HXS.out;rw [ah.small] at hsk;have htk:=HXT.out;rw [ah.tf] at htk;exact IH.out (ah.aU ks) (by omega) ks _ W (jc8 _) (by omega) (XM.kids.up hW) hsk.2.2.2.2.2.2.2.2 htk.2
    have IC:=Ey kd t d ti at_ ar ci ks _ _ _ _ _ wA XM HXS.out LC (by omega)
    rw [<- HX.out] at IC;have IL:=hid IC;have wI:=hid bA;clear gQ hp c0 c1 c2 c3 c4 c5 c6 c7 c8 c9 XM LC IC PA bA;go_wp2_with fail
    (with_reducible refine IL.out.mono ?_)
    rintro e w1 ⟨vA,vK,rfl,Wx,b1⟩;obtain ⟨aA,nA,cA,rfl⟩:=Rd.aj Wx.at_
    obtain ⟨aK,nK,cK,rfl⟩:=Rd.aj Wx.ks;have HND:=hid Wx;have B1:=hid b1;have z1:=b1.size;clear e0 e1 e2 e3 e4 e5 e6 e7 e8 e9 Wx b1 IL;obtain ⟨nm,tx,XA,XK⟩:=X;dsimp only [Nd.nm,Nd.tx,Nd.at_,Nd.ks] at htx HND;dsimp only [Nd.nm,Nd.tx];go_upto_region 8 with (fail)
    obtain ⟨q,hq⟩:∃ q,q=w1.heap.size:=⟨_,rfl⟩;obtain ⟨wN,Ub⟩:∃ wN,wN=w1.alloc (.cells #[.string nm,.string tx,.slice aA nA cA,.slice aK nK cK] 43):=⟨_,rfl⟩;have KN:CB 43 q [.string nm,.string tx,.slice aA nA cA,.slice aK nK cK] wN:=by rw [Ub,hq];exact CB.new _ _ w1
    have bN:Below w1.heap.size w1 wN:=by rw [Ub];exact (Below.refl _ _).alloc (jc8 _) _
    have zN:wN.heap.size=q+1:=by rw [Ub,hq];simp
    have hqr:wA.heap.size<=q:=by rw [hq];exact z1
    have HQ:=hid hq;rw [<- Ub,<- hq];have BN:=hid (aQ wI.out (aQ B1.out bN));have HN1:=hid bN;have f0:=KN.cell 0 _ rfl;have f1:=KN.cell 1 _ rfl;have Wy:=hid KN;have ZN:=hid zN;have hzr:=BN.out.size;clear Ub hq KN bN zN;by_cases hem:aW nm=true
    ·have q1:nm.toList.isEmpty=true:=by rw [uF];exact hem
     have q2:nm.toList=[]:=by rw [List.isEmpty_iff] at q1;exact q1
     have htp:0<tx.size:=JQ (JU.out hem).2;have zx:Hid (eX (N.take (k+1))=(P.1,P.2++tx)):=by show _=_;rw [HST.out];unfold dV;rw [if_pos (show aW (Nd.mk nm tx XA XK).nm=true from hem)];rfl
     have WS:=hid (xq (S+1) U (Lib.strCells P.2) tx wN (iM.out.below BN.out) (by rw [Lib.strCells_length];omega) (by omega) htp);clear hem HST JU;go_wp2_with fail
     (with_reducible refine WS.out.mono ?_)
     rintro e w2 ⟨rfl,Uc,hb2⟩;have hR2:=aY.out.reU (w':=w2) (by have:=hb2.size;omega) (fun b h1 h2=>(hb2.blk b h2 (by have:=lK.out;omega)).trans (BN.out.block b (by omega)));obtain ⟨wB2,Ud,hrow2⟩:=hR2;have HF:Hid (qJ S w N (.int .i64 ((k+1:Nat):Int)) w2):=by
      refine ⟨k+1,rows,.slice av m cv,U,wB2,by rw [Ew.out];omega,rfl,Ud.trans lK.out,?_,?_,?_,?_⟩
      ·rw [zx.out];exact hrow2
      ·exact (hb2.blk S (by omega) (by omega)).trans ((BN.out.block S (by omega)).trans jJ.out)
      ·rw [zx.out,zo];exact Uc
      ·exact dY.out.trans ((BN.out.mono hSr).trans (hb2.below (by omega) (by omega)))
     clear Uc hb2 Ud hrow2 WS f0 f1 q1 q2;go_wp2;go_roundw;case rel=>exact HF.out
     case measure=>simp [intOf];omega
    ·have q1:nm.toList.isEmpty=false:=by rw [uF];simpa using hem
     have zx:Hid (eX (N.take (k+1))=(P.1++bJ P.2++[.mk nm tx XA XK],⟨#[]⟩)):=by show _=_;rw [HST.out];unfold dV;rw [if_neg (show ¬ aW (Nd.mk nm tx XA XK).nm=true from hem)]
     have FC:=xX S U P.2.data.toList P.1 rows (.slice av m cv) wr wN wB (by have:=lK.out;omega) aY.out jJ.out iM.out BN.out (by rw [SK.out];omega);rw [zy] at FC;have FL:=hid FC;clear hem HST JU FC;go_wp2_with fail
     (with_reducible refine FL.out.mono ?_)
     rintro e w3 ⟨rfl,dD,v3,wB3,QH,hrow3,Ih,MV,sO,hkp3,hb3⟩;obtain ⟨m3,Mj⟩:∃ m,m=(List.map Nd.d (P.1++bJ P.2)).length:=⟨_,rfl⟩;have XO:m3<=m+1:=by
      rw [Mj,jcx,jcq,SK.out];have:(bJ P.2).length<=1:=by unfold bJ;split<;>simp
      omega
     obtain ⟨a3,c3,rfl,hc3,XP⟩:=hrow3.cap Mj.symm;unfold maxLen at XP;have Pb:=hid Mj.symm;have U3:=hid hrow3.drew;have SL:CB 43 q [.string nm,.string tx,.slice aA nA cA,.slice aK nK cK] w3:=(hkp3 q (by omega) (by have:=ZN.out;omega)).trans Wy.out;have XQ:Hid (Rd (fun b=>wA.heap.size<=b/\b<q) w3 (Nd.mk nm tx XA XK).d [.string nm,.string tx,.slice aA nA cA,.slice aK nK cK]):=
      Nd.fK nm tx (HND.out.keep (fun b (h1:wA.heap.size<=b) h2=>⟨⟨h1,by rw [HQ.out];exact h2⟩,(hkp3 b (by omega) (by have:=ZN.out;have:=HQ.out;omega)).trans (HN1.out.block b h2)⟩))
     have S0:w3.drew.cell? ⟨S,0,none⟩=some (.slice a3 m3 c3)/\w3.drew.cell? ⟨q,0,none⟩=some (.string nm)/\w3.drew.cell? ⟨q,1,none⟩=some (.string tx)/\w3.drew.cell? ⟨q,2,none⟩=some (.slice aA nA cA)/\w3.drew.cell? ⟨q,3,none⟩=some (.slice aK nK cK):=⟨Ih.cell,SL.cell 0 _ rfl,SL.cell 1 _ rfl,SL.cell 2 _ rfl,SL.cell 3 _ rfl⟩;have hov:∀ g,(Value.slice a3 m3 c3).ownBlock=some g->S+2<=g/\(g<wr.heap.size\/wN.heap.size<=g):=fun g hg=>⟨by have:=(hrow3.own.lt g hg).1;have:=lK.out;omega,sO g hg⟩
     have pq:=hid hov;have XR:=hid Ih;have zB:=hid MV;have HB3:=hid hb3;have xu:=hid QH;have HKQ:=hid SL;have hz3:=hb3.size;have XT:S<w3.heap.size:=Ih.lt;clear Mj hrow3 Ih MV hb3 QH sO hkp3 SL hov FL f0 f1 q1;go_upto_region 11 with (fail)
     refine gJ 7 (fun w'=>w'.cell? ⟨S,0,none⟩=some (.slice a3 m3 c3)/\w'.cell? ⟨q,0,none⟩=some (.string nm)/\w'.cell? ⟨q,1,none⟩=some (.string tx)/\w'.cell? ⟨q,2,none⟩=some (.slice aA nA cA)/\w'.cell? ⟨q,3,none⟩=some (.slice aK nK cK)) (by kernel_rfl) S0 ?_;intro hH;refine lY (i:=0) (v:=?_) rfl (by kernel_rfl) (by kernel_rfl) (by kernel_rfl) (by kernel_rfl) (by kernel_rfl) (fun _ _ _ h=>h) hH (Or.inl ⟨by rfl,?_⟩) ?_;rotate_left
     ·(intro wv hSw;(try dsimp only at hSw);go_simp;try with_reducible rfl)
     try simp only [Act.put,jc3,jc4,jc5]
     refine lY (i:=1) (v:=?_) rfl (by kernel_rfl) (by kernel_rfl) (by kernel_rfl) (by kernel_rfl) (by kernel_rfl) (fun _ _ _ h=>h) hH (Or.inl ⟨by rfl,?_⟩) ?_;rotate_left
     ·(intro wv hSw;(try dsimp only at hSw);go_simp;try with_reducible rfl)
     try simp only [Act.put,jc3,jc4,jc5]
     refine lY (i:=2) (v:=?_) rfl (by kernel_rfl) (by kernel_rfl) (by kernel_rfl) (by kernel_rfl) (by kernel_rfl) (fun _ _ _ h=>h) hH (Or.inl ⟨by rfl,?_⟩) ?_;rotate_left
     ·(intro wv hSw;(try dsimp only at hSw);go_simp;try with_reducible rfl)
     try simp only [Act.put,jc3,jc4,jc5]
     refine q01 (i:=3) rfl (by kernel_rfl) (fun KQ hK=>?_);go_simp;refine hK.out _ _ (fun _ _=>⟨past S0.1 _,past S0.2.1 _,past S0.2.2.1 _,past S0.2.2.2.1 _,past S0.2.2.2.2 _⟩) (fun hH2=>?_);clear hK KQ hH;have hH:=hH2 (by decide) (by kernel_rfl);clear hH2;try simp only [Act.put,jc3,jc4,jc5]
     refine q01 (i:=4) rfl (by kernel_rfl) (fun KQ hK=>?_);refine Ig rfl (.tmp 26) (.tmp 29) 34 rfl iN _ 80 Tryz.underlying34 wG jh ji jk rfl (by decide) U3.out (fun _=>False.elim) (Nd.mk ⟨#[]⟩ ⟨#[]⟩ [] []).d [.string ⟨#[]⟩,.string ⟨#[]⟩,.slice none 0 0,.slice none 0 0] (Nd.fK ⟨#[]⟩ ⟨#[]⟩ ⟨Rd.ay _ _ _,Rd.ay _ _ _⟩) rfl fE Pb.out (by omega) (by decide) rfl rfl ?_;intro g5 c5 w5 aN hg5 lZ Jg;have hgS:S+2<=g5/\g5≠q/\(g5<wr.heap.size\/wN.heap.size<=g5):=by
      have hz9:w3.drew.heap.size=w3.heap.size:=rfl;rcases lZ with h | h
      ·have:=pq.out g5 h;have:=ZN.out;omega
      ·have:=ZN.out;omega
     have QI:∀ b,b=S\/b=q->some b≠(Value.slice a3 m3 c3).ownBlock:=fun b hb e=>by
      have:=pq.out b e.symm;have:=ZN.out;omega
     have S5:w5.cell? ⟨S,0,none⟩=some (.slice a3 m3 c3)/\w5.cell? ⟨q,0,none⟩=some (.string nm)/\w5.cell? ⟨q,1,none⟩=some (.string tx)/\w5.cell? ⟨q,2,none⟩=some (.slice aA nA cA)/\w5.cell? ⟨q,3,none⟩=some (.slice aK nK cK):=⟨(World.grownBy.cell_far hg5 ⟨S,0,none⟩ (by simp;omega) (QI S (.inl rfl))).trans (past S0.1 _),(World.grownBy.cell_far hg5 ⟨q,0,none⟩ (by simp;have:=ZN.out;omega) (QI q (.inr rfl))).trans (past S0.2.1 _),(World.grownBy.cell_far hg5 ⟨q,1,none⟩ (by simp;have:=ZN.out;omega) (QI q (.inr rfl))).trans (past S0.2.2.1 _),(World.grownBy.cell_far hg5 ⟨q,2,none⟩ (by simp;have:=ZN.out;omega) (QI q (.inr rfl))).trans (past S0.2.2.2.1 _),(World.grownBy.cell_far hg5 ⟨q,3,none⟩ (by simp;have:=ZN.out;omega) (QI q (.inr rfl))).trans (past S0.2.2.2.2 _)⟩;obtain ⟨y0,y1,y2,y3,yf⟩:=aN.lg Pb.out;have t0:(0:Int)<=(m3:Int):=by omega
     have t1:(m3:Int)<((m3+1:Nat):Int):=by omega
     have t2:(m3:Int)<(m3:Int)+1:=by omega
     have t3:m3<m3+1:=by omega
     have U5:=hid aN;have qK:=hid hg5;have Ue:w3.heap.size+1<=w5.heap.size:=by have:=hg5.size;simp at this;exact this
     have wJ:S≠g5:=by omega
     have hqg:q≠g5:=fun e=>hgS.2.1 e.symm
     have pE:aF S (.slice a3 m3 c3) 34 w5:=(hg5.block S (by simp;omega) (QI S (.inl rfl))).trans ((jd2 w3 _ S XT).trans XR.out);have uG:=pE.free;have z5:=pE.cell;obtain ⟨wZ,JV,gK⟩:=aN.hop2 (p:=S) (by have:=xu.out;have:=lK.out;omega) (show w5.grownBy (w5.setCell ⟨S,0,none⟩ (.slice (some ⟨g5,0,none⟩) (m3+1) c5)) (some S) from ⟨rfl,rfl,rfl,by simp [je1],fun b _ hb=>jd1 w5 ⟨S,0,none⟩ _ b (fun e=>hb (by rw [e]))⟩);obtain ⟨u0,u1,u2,u3,uf⟩:=gK.lg Pb.out;have Wz:=hid pE;clear gK JV pE aN hg5 lZ QI S0;refine hK.out _ _ (fun _ _=>S5) (fun hH2=>?_);clear hK KQ hH;have hH:=hH2 (by decide) (by kernel_rfl);clear hH2;try simp only [Act.put,jc3,jc4,jc5]
     refine xw (i:=5) (j:=7) rfl rfl (by kernel_rfl) (fun KQ hK=>?_) (fun KQ hK=>?_);rotate_left
     ·go_simp;refine hK.out _ _ (fun h=>absurd rfl h) (fun _=>?_);clear hK KQ hH;try simp only [Act.put,jc3,jc4,jc5]
      refine q01 (i:=5) rfl (by kernel_rfl) (fun KQ hK=>?_);go_simp;refine hK.out _ _ (fun _ h=>absurd h (by decide)) (fun _=>?_);clear hK KQ;try simp only [Act.put,jc3,jc4,jc5]
      refine q01 (i:=6) rfl (by kernel_rfl) (fun KQ hK=>?_);go_simp;refine hK.out _ _ (fun _ h=>absurd h (by decide)) (fun _=>?_);clear hK KQ;try simp only [Act.put,jc3,jc4,jc5]
      refine rQ (by kernel_rfl) ?_ _;have hsw:=Jl w5 S g5 (m3*4) (.slice (some ⟨g5,0,none⟩) (m3+1) c5) (.string nm) (.string tx) (.slice aA nA cA) (.slice aK nK cK) wJ;simp only [fO] at hsw;rw [hsw];clear hsw;clear S5 y0 y1 y2 y3 yf u0 u1 u2 u3 uf uG z5 t0 t1 t2 t3;have Gp:=U5.out.Gm Pb.out (.string nm) (.string tx) (.slice aA nA cA) (.slice aK nK cK) (d1:=(Nd.mk nm tx XA XK).d) (Rd.keep (fun b hb hlt=>⟨⟨.inr (by have:=xu.out;have:=lK.out;omega),(fun e=>by subst e;have:=ZN.out;omega),by omega⟩,(qK.out.block b (by simp;omega) (fun e=>by have:=pq.out b e.symm;have:=ZN.out;omega)).trans (jd2 w3 _ b hlt)⟩) _ _ XQ.out);obtain ⟨w6,dh⟩:∃ w6,w6=fO w5 g5 (m3*4) (.string nm) (.string tx) (.slice aA nA cA) (.slice aK nK cK):=⟨_,rfl⟩;have hb6:∀ b,b≠g5->w6.heap[b]?=w5.heap[b]?:=fun b hb=>by rw [dh];exact Jk _ _ _ _ _ _ _ b hb
      have Cm:aF S (.slice a3 m3 c3) 34 w6:=(hb6 S wJ).trans Wz.out;rw [<- dh] at Gp;have uH:=dh;simp only [fO] at uH;rw [<- uH];clear uH;have QJ:w6.heap.size=w5.heap.size:=by rw [dh];simp [fO,je1]
      obtain ⟨w7,hw7⟩:∃ w7,w7=w6.setCell ⟨S,0,none⟩ (.slice (some ⟨g5,0,none⟩) (m3+1) c5):=⟨_,rfl⟩;rw [<- hw7];have Mk:aF S (.slice (some ⟨g5,0,none⟩) (m3+1) c5) 34 w7:=by rw [hw7];exact Cm.set _
      have g7:w6.grownBy w7 (some S):=by rw [hw7];exact ⟨rfl,rfl,rfl,by simp [je1],fun b _ hb=>jd1 w6 ⟨S,0,none⟩ _ b (fun e=>hb (by rw [e]))⟩
      have XU:w7.heap.size=w6.heap.size:=by rw [hw7];simp [je1]
      obtain ⟨Ml,Mq,nM⟩:=Gp.hop2 (p:=S) (by have:=xu.out;have:=lK.out;omega) g7;have Ez:∀ b,b<w3.heap.size->b≠S->b≠g5->(∀ g,(Value.slice a3 m3 c3).ownBlock=some g->b≠g)->w7.heap[b]?=w3.heap[b]?:=fun b h1 h2 h3 h4=>
       (g7.block b (by omega) (fun e=>h2 (Option.some.inj e))).trans ((hb6 b h3).trans ((qK.out.block b (by simp;omega) (fun e=>h4 b e.symm rfl)).trans (jd2 w3 _ b h1)))
      have Pf:aI 43 4 (fun _=>False) w7.heap.size Ml ((eX (N.take (k+1))).1.map Nd.d) (dD++[[.string nm,.string tx,.slice aA nA cA,.slice aK nK cK]]) (.slice (some ⟨g5,0,none⟩) (m3+1) c5) w7:=by rw [zx.out];show aI _ _ _ _ _ (List.map Nd.d (P.1++bJ P.2++[.mk nm tx XA XK])) _ _ _;rw [List.map_append];exact nM.up (by omega) (jc8 _)
      have HF:Hid (qJ S w N (.int .i64 ((k+1:Nat):Int)) w7):=by
       refine ⟨k+1,_,.slice (some ⟨g5,0,none⟩) (m3+1) c5,w7.heap.size,Ml,by rw [Ew.out];omega,rfl,Mq.trans (xu.out.trans lK.out),Pf,Mk,?_,?_⟩
       ·rw [zx.out];exact zB.out.zu (Ez (S+1) (by have:=zB.out.lt;exact this) (by omega) (by omega) (fun g hg=>by have:=(pq.out g hg).1;omega)) (by have:=zB.out.lt;omega)
       ·refine dY.out.trans ((BN.out.mono hSr).trans (HB3.out.trans ⟨?_,?_,?_,by omega,fun b hb=>Ez b (by omega) (by omega) (by omega) (fun g hg=>by have:=(pq.out g hg).1;omega)⟩))
        ·rw [hw7,dh];exact qK.out.os
        ·rw [hw7,dh];exact qK.out.tape
        ·rw [hw7,dh];exact qK.out.output
      clear Gp Pf nM Mq g7 Mk hw7 Cm dh hb6 Ez;go_wp2;go_roundw;case rel=>exact HF.out
      case measure=>simp [intOf];omega
     go_simp;refine hK.out _ _ (fun _ _=>S5) (fun hH2=>?_);clear hK KQ hH;have hH:=hH2 (by decide) (by kernel_rfl);clear hH2;try simp only [Act.put,jc3,jc4,jc5]
     refine xw (i:=6) (j:=7) rfl rfl (by kernel_rfl) (fun KQ hK=>?_) (fun KQ hK=>?_)
     ·go_simp;have S6:je0 ((((w5.setCell ⟨g5,m3*4,none⟩ (.string nm)).setCell ⟨g5,m3*4+1,none⟩ (.string tx)).setCell ⟨g5,m3*4+2,none⟩ (.slice aA nA cA)).setCell ⟨g5,m3*4+3,none⟩ (.slice aK nK cK)) ⟨S,0,none⟩=some (.slice a3 m3 c3)/\je0 ((((w5.setCell ⟨g5,m3*4,none⟩ (.string nm)).setCell ⟨g5,m3*4+1,none⟩ (.string tx)).setCell ⟨g5,m3*4+2,none⟩ (.slice aA nA cA)).setCell ⟨g5,m3*4+3,none⟩ (.slice aK nK cK)) ⟨q,0,none⟩=some (.string nm)/\je0 ((((w5.setCell ⟨g5,m3*4,none⟩ (.string nm)).setCell ⟨g5,m3*4+1,none⟩ (.string tx)).setCell ⟨g5,m3*4+2,none⟩ (.slice aA nA cA)).setCell ⟨g5,m3*4+3,none⟩ (.slice aK nK cK)) ⟨q,1,none⟩=some (.string tx)/\je0 ((((w5.setCell ⟨g5,m3*4,none⟩ (.string nm)).setCell ⟨g5,m3*4+1,none⟩ (.string tx)).setCell ⟨g5,m3*4+2,none⟩ (.slice aA nA cA)).setCell ⟨g5,m3*4+3,none⟩ (.slice aK nK cK)) ⟨q,2,none⟩=some (.slice aA nA cA)/\je0 ((((w5.setCell ⟨g5,m3*4,none⟩ (.string nm)).setCell ⟨g5,m3*4+1,none⟩ (.string tx)).setCell ⟨g5,m3*4+2,none⟩ (.slice aA nA cA)).setCell ⟨g5,m3*4+3,none⟩ (.slice aK nK cK)) ⟨q,3,none⟩=some (.slice aK nK cK):=show je0 (fO w5 g5 (m3*4) (.string nm) (.string tx) (.slice aA nA cA) (.slice aK nK cK)) ⟨S,0,none⟩=some (.slice a3 m3 c3)/\je0 (fO w5 g5 (m3*4) (.string nm) (.string tx) (.slice aA nA cA) (.slice aK nK cK)) ⟨q,0,none⟩=some (.string nm)/\je0 (fO w5 g5 (m3*4) (.string nm) (.string tx) (.slice aA nA cA) (.slice aK nK cK)) ⟨q,1,none⟩=some (.string tx)/\je0 (fO w5 g5 (m3*4) (.string nm) (.string tx) (.slice aA nA cA) (.slice aK nK cK)) ⟨q,2,none⟩=some (.slice aA nA cA)/\je0 (fO w5 g5 (m3*4) (.string nm) (.string tx) (.slice aA nA cA) (.slice aK nK cK)) ⟨q,3,none⟩=some (.slice aK nK cK) from ⟨xW S5.1 wJ,xW S5.2.1 hqg,xW S5.2.2.1 hqg,xW S5.2.2.2.1 hqg,xW S5.2.2.2.2 hqg⟩
      have z6:=S6.1;have zC:aF S (.slice a3 m3 c3) 34 ((((w5.setCell ⟨g5,m3*4,none⟩ (.string nm)).setCell ⟨g5,m3*4+1,none⟩ (.string tx)).setCell ⟨g5,m3*4+2,none⟩ (.slice aA nA cA)).setCell ⟨g5,m3*4+3,none⟩ (.slice aK nK cK)):=(Jk w5 g5 (m3*4) (.string nm) (.string tx) (.slice aA nA cA) (.slice aK nK cK) S wJ).trans Wz.out;have zf:=zC.free;refine hK.out _ _ (fun _ _=>S6) (fun hH2=>?_);clear hK KQ hH;have hH:=hH2 (by decide) (by kernel_rfl);clear hH2;try simp only [Act.put,jc3,jc4,jc5]
      refine q01 (i:=7) rfl (by kernel_rfl) (fun KQ hK=>?_);go_simp;refine hK.out _ _ (fun h=>absurd rfl h) (fun _=>?_);clear hK KQ hH;try simp only [Act.put,jc3,jc4,jc5]
      refine rQ (by kernel_rfl) ?_ _;clear S6 z6 zC zf;clear S5 y0 y1 y2 y3 yf u0 u1 u2 u3 uf uG z5 t0 t1 t2 t3;have Gp:=U5.out.Gm Pb.out (.string nm) (.string tx) (.slice aA nA cA) (.slice aK nK cK) (d1:=(Nd.mk nm tx XA XK).d) (Rd.keep (fun b hb hlt=>⟨⟨.inr (by have:=xu.out;have:=lK.out;omega),(fun e=>by subst e;have:=ZN.out;omega),by omega⟩,(qK.out.block b (by simp;omega) (fun e=>by have:=pq.out b e.symm;have:=ZN.out;omega)).trans (jd2 w3 _ b hlt)⟩) _ _ XQ.out);obtain ⟨w6,dh⟩:∃ w6,w6=fO w5 g5 (m3*4) (.string nm) (.string tx) (.slice aA nA cA) (.slice aK nK cK):=⟨_,rfl⟩;have hb6:∀ b,b≠g5->w6.heap[b]?=w5.heap[b]?:=fun b hb=>by rw [dh];exact Jk _ _ _ _ _ _ _ b hb
      have Cm:aF S (.slice a3 m3 c3) 34 w6:=(hb6 S wJ).trans Wz.out;rw [<- dh] at Gp;have uH:=dh;simp only [fO] at uH;rw [<- uH];clear uH;have QJ:w6.heap.size=w5.heap.size:=by rw [dh];simp [fO,je1]
      obtain ⟨w7,hw7⟩:∃ w7,w7=w6.setCell ⟨S,0,none⟩ (.slice (some ⟨g5,0,none⟩) (m3+1) c5):=⟨_,rfl⟩;rw [<- hw7];have Mk:aF S (.slice (some ⟨g5,0,none⟩) (m3+1) c5) 34 w7:=by rw [hw7];exact Cm.set _
      have g7:w6.grownBy w7 (some S):=by rw [hw7];exact ⟨rfl,rfl,rfl,by simp [je1],fun b _ hb=>jd1 w6 ⟨S,0,none⟩ _ b (fun e=>hb (by rw [e]))⟩
      have XU:w7.heap.size=w6.heap.size:=by rw [hw7];simp [je1]
      obtain ⟨Ml,Mq,nM⟩:=Gp.hop2 (p:=S) (by have:=xu.out;have:=lK.out;omega) g7;have Ez:∀ b,b<w3.heap.size->b≠S->b≠g5->(∀ g,(Value.slice a3 m3 c3).ownBlock=some g->b≠g)->w7.heap[b]?=w3.heap[b]?:=fun b h1 h2 h3 h4=>
       (g7.block b (by omega) (fun e=>h2 (Option.some.inj e))).trans ((hb6 b h3).trans ((qK.out.block b (by simp;omega) (fun e=>h4 b e.symm rfl)).trans (jd2 w3 _ b h1)))
      have Pf:aI 43 4 (fun _=>False) w7.heap.size Ml ((eX (N.take (k+1))).1.map Nd.d) (dD++[[.string nm,.string tx,.slice aA nA cA,.slice aK nK cK]]) (.slice (some ⟨g5,0,none⟩) (m3+1) c5) w7:=by rw [zx.out];show aI _ _ _ _ _ (List.map Nd.d (P.1++bJ P.2++[.mk nm tx XA XK])) _ _ _;rw [List.map_append];exact nM.up (by omega) (jc8 _)
      have HF:Hid (qJ S w N (.int .i64 ((k+1:Nat):Int)) w7):=by
       refine ⟨k+1,_,.slice (some ⟨g5,0,none⟩) (m3+1) c5,w7.heap.size,Ml,by rw [Ew.out];omega,rfl,Mq.trans (xu.out.trans lK.out),Pf,Mk,?_,?_⟩
       ·rw [zx.out];exact zB.out.zu (Ez (S+1) (by have:=zB.out.lt;exact this) (by omega) (by omega) (fun g hg=>by have:=(pq.out g hg).1;omega)) (by have:=zB.out.lt;omega)
       ·refine dY.out.trans ((BN.out.mono hSr).trans (HB3.out.trans ⟨?_,?_,?_,by omega,fun b hb=>Ez b (by omega) (by omega) (by omega) (fun g hg=>by have:=(pq.out g hg).1;omega)⟩))
        ·rw [hw7,dh];exact qK.out.os
        ·rw [hw7,dh];exact qK.out.tape
        ·rw [hw7,dh];exact qK.out.output
      clear Gp Pf nM Mq g7 Mk hw7 Cm dh hb6 Ez;go_wp2;go_roundw;case rel=>exact HF.out
      case measure=>simp [intOf];omega
     ·go_simp;refine hK.out _ _ (fun h=>absurd rfl h) (fun _=>?_);clear hK KQ hH;try simp only [Act.put,jc3,jc4,jc5]
      refine q01 (i:=6) rfl (by kernel_rfl) (fun KQ hK=>?_);go_simp;refine hK.out _ _ (fun _ h=>absurd h (by decide)) (fun _=>?_);clear hK KQ;try simp only [Act.put,jc3,jc4,jc5]
      refine rQ (by kernel_rfl) ?_ _;have hsw:=Jl w5 S g5 (m3*4) (.slice (some ⟨g5,0,none⟩) (m3+1) c5) (.string nm) (.string tx) (.slice aA nA cA) (.slice aK nK cK) wJ;simp only [fO] at hsw;rw [hsw];clear hsw;clear S5 y0 y1 y2 y3 yf u0 u1 u2 u3 uf uG z5 t0 t1 t2 t3;have Gp:=U5.out.Gm Pb.out (.string nm) (.string tx) (.slice aA nA cA) (.slice aK nK cK) (d1:=(Nd.mk nm tx XA XK).d) (Rd.keep (fun b hb hlt=>⟨⟨.inr (by have:=xu.out;have:=lK.out;omega),(fun e=>by subst e;have:=ZN.out;omega),by omega⟩,(qK.out.block b (by simp;omega) (fun e=>by have:=pq.out b e.symm;have:=ZN.out;omega)).trans (jd2 w3 _ b hlt)⟩) _ _ XQ.out);obtain ⟨w6,dh⟩:∃ w6,w6=fO w5 g5 (m3*4) (.string nm) (.string tx) (.slice aA nA cA) (.slice aK nK cK):=⟨_,rfl⟩;have hb6:∀ b,b≠g5->w6.heap[b]?=w5.heap[b]?:=fun b hb=>by rw [dh];exact Jk _ _ _ _ _ _ _ b hb
      have Cm:aF S (.slice a3 m3 c3) 34 w6:=(hb6 S wJ).trans Wz.out;rw [<- dh] at Gp;have uH:=dh;simp only [fO] at uH;rw [<- uH];clear uH;have QJ:w6.heap.size=w5.heap.size:=by rw [dh];simp [fO,je1]
      obtain ⟨w7,hw7⟩:∃ w7,w7=w6.setCell ⟨S,0,none⟩ (.slice (some ⟨g5,0,none⟩) (m3+1) c5):=⟨_,rfl⟩;rw [<- hw7];have Mk:aF S (.slice (some ⟨g5,0,none⟩) (m3+1) c5) 34 w7:=by rw [hw7];exact Cm.set _
      have g7:w6.grownBy w7 (some S):=by rw [hw7];exact ⟨rfl,rfl,rfl,by simp [je1],fun b _ hb=>jd1 w6 ⟨S,0,none⟩ _ b (fun e=>hb (by rw [e]))⟩
      have XU:w7.heap.size=w6.heap.size:=by rw [hw7];simp [je1]
      obtain ⟨Ml,Mq,nM⟩:=Gp.hop2 (p:=S) (by have:=xu.out;have:=lK.out;omega) g7;have Ez:∀ b,b<w3.heap.size->b≠S->b≠g5->(∀ g,(Value.slice a3 m3 c3).ownBlock=some g->b≠g)->w7.heap[b]?=w3.heap[b]?:=fun b h1 h2 h3 h4=>
       (g7.block b (by omega) (fun e=>h2 (Option.some.inj e))).trans ((hb6 b h3).trans ((qK.out.block b (by simp;omega) (fun e=>h4 b e.symm rfl)).trans (jd2 w3 _ b h1)))
      have Pf:aI 43 4 (fun _=>False) w7.heap.size Ml ((eX (N.take (k+1))).1.map Nd.d) (dD++[[.string nm,.string tx,.slice aA nA cA,.slice aK nK cK]]) (.slice (some ⟨g5,0,none⟩) (m3+1) c5) w7:=by rw [zx.out];show aI _ _ _ _ _ (List.map Nd.d (P.1++bJ P.2++[.mk nm tx XA XK])) _ _ _;rw [List.map_append];exact nM.up (by omega) (jc8 _)
      have HF:Hid (qJ S w N (.int .i64 ((k+1:Nat):Int)) w7):=by
       refine ⟨k+1,_,.slice (some ⟨g5,0,none⟩) (m3+1) c5,w7.heap.size,Ml,by rw [Ew.out];omega,rfl,Mq.trans (xu.out.trans lK.out),Pf,Mk,?_,?_⟩
       ·rw [zx.out];exact zB.out.zu (Ez (S+1) (by have:=zB.out.lt;exact this) (by omega) (by omega) (fun g hg=>by have:=(pq.out g hg).1;omega)) (by have:=zB.out.lt;omega)
       ·refine dY.out.trans ((BN.out.mono hSr).trans (HB3.out.trans ⟨?_,?_,?_,by omega,fun b hb=>Ez b (by omega) (by omega) (by omega) (fun g hg=>by have:=(pq.out g hg).1;omega)⟩))
        ·rw [hw7,dh];exact qK.out.os
        ·rw [hw7,dh];exact qK.out.tape
        ·rw [hw7,dh];exact qK.out.output
      clear Gp Pf nM Mq g7 Mk hw7 Cm dh hb6 Ez;go_wp2;go_roundw;case rel=>exact HF.out
      case measure=>simp [intOf];omega
   ·have hkl:k=l.length:=by omega
    subst hkl;have hPN:P=eX N:=by rw [HP.out,List.take_of_length_le (by rw [Ew.out];exact jc8 _)]
    have FC:=xX S U P.2.data.toList P.1 rows (.slice av m cv) wr wr wB (by have:=lK.out;omega) aY.out jJ.out iM.out (Below.refl _ _) (by rw [SK.out];omega);rw [zy,hPN,<- bS.out] at FC;have FL:=hid FC;clear FC;go_wp2_with fail
    (with_reducible refine FL.out.mono ?_)
    rintro e w3 ⟨rfl,dD,v3,wB3,QH,hrow3,Ih,MV,sO,hkp3,hb3⟩;have x0:=Ih.cell;have HF:Hid (bR w (fA l) (.returned v3) w3):=by
     refine ⟨dD,v3,rfl,hrow3.qL ?_ ?_⟩
     ·have:=Gn.out;have:=lK.out;omega
     ·rw [<- Gn.out];exact hbel.trans hb3
    clear hrow3 MV hb3 sO hkp3 FL;go_wp2;go_ret;exact HF.out
open Go.RowKit
open Go.RowKit
theorem aO.init {P:Nat->Prop} {w:World}:∀ (ds:List D) (rows:List (List jfk)) (d0:D) (r0:List jfk),aO P w (ds++[d0]) (rows++[r0])->rows.length=ds.length->aO P w ds rows/\Rd P w d0 r0
 | [],rows,d0,r0,hr,hl=>by
  rw [List.eq_nil_of_length_eq_zero hl] at hr ⊢;obtain ⟨r,rs,e,h1,h2⟩:=hr.aG;have e1:r=r0:=by simp at e;exact e.1.symm
  subst e1;exact ⟨aO.none,h1⟩
 | x::ds,[],d0,r0,hr,hl=>by simp at hl
 | x::ds,r::rows,d0,r0,hr,hl=>by
  obtain ⟨r',rs,e,h1,h2⟩:=hr.aG;have e':r'=r/\rs=rows++[r0]:=by simp at e;exact ⟨e.1.symm,e.2.symm⟩
  obtain ⟨rfl,rfl⟩:=e';obtain ⟨h3,h4⟩:=aO.init ds rows d0 r0 h2 (by simpa using hl);exact ⟨aO.cons h1 h3,h4⟩
section
variable {T:TypeId} {U:Nat} {ok:Nat->Prop} {w0 w:World} {ds:List D} {rows:List (List jfk)} {v:jfk}
theorem aI.jQ {d:D} (h:aI T 4 ok U w0 (ds++[d]) rows v w):∃ rows' a0 a1 a2 a3,rows=rows'++[[a0,a1,a2,a3]]/\Rd (fun b=>(ok b\/w0.heap.size<=b)/\v.ownBlock≠some b/\b<U) w d [a0,a1,a2,a3]:=by
 have hl:=h.red.len;rw [jcq,List.length_singleton] at hl;have hne:rows≠[]:=fun e=>by rw [e] at hl;simp at hl
 obtain ⟨rows',r,rfl⟩:∃ rows' r,rows=rows'++[r]:=⟨_,_,(List.dropLast_concat_getLast hne).symm⟩;have hr:=h.len r (by simp)
 match r,hr with
 | [a0,a1,a2,a3],_=>exact ⟨rows',a0,a1,a2,a3,rfl,(aO.init ds rows' d _ h.red (by simp at hl;exact hl)).2⟩
end
end Go.Proofs.YtclikfjalmcoaaaGreatDoor

