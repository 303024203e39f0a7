/- Contract of html.line: the nodes of inlines. Contracts of publisherref34.some, element, texts, attrs, joined. -/
import Derived.Test.YtclikfjalmcoaaaGreatDoorKHsm
import Derived.Test.YtclikfjalmcoaaaGreatDoorKHtF
set_option maxHeartbeats 8000000
set_option maxRecDepth 100000
open Go.Lib (hid)
namespace Go.Proofs.YtclikfjalmcoaaaGreatDoor
open List renaming setIfInBounds_toArray->jgq,set_cons_zero->jgx,set_cons_succ->jgz,getElem?_eq_getElem->jh0,length_append->jh6,length_map->jh7,mem_of_getElem?->jhx,map_append->ji2,take_of_length_le->ji4
open Go.RowKit.Below renaming refl->jh1,heap_setCell->jhj,heap_alloc->jhk
open Nat renaming le_refl->jh2
open Go.World renaming cell?->ji9,setCell->jij
open Go renaming World->jk3,Value->jk5
open Go.RowKit
set_option linter.unusedVariables false
set_option linter.unusedSimpArgs false
theorem Tc (x:aj) (h:x.small):x.nd.tx.size<=300:=by
 obtain ⟨k,t,d,ti,a,ar,ci,ks⟩:=x;rw [aj.small] at h;have h1:=h.1;have e0:(⟨#[]⟩:ByteArray).size=0:=rfl;have e1:GR.size=1:=rfl;rw [aj.nd];have key:∀ (c:Prop) [Decidable c] (a b:Nd),a.tx.size<=300->b.tx.size<=300->(if c then a else b).tx.size<=300:=by
  intro c _ a b h1 h2;split
  ·exact h1
  ·exact h2
 have el:∀ (n:ByteArray) (a:List Pr) (ks:List Nd),(aN n a ks).tx.size<=300:=fun _ _ _=>by show (⟨#[]⟩:ByteArray).size<=300;omega
 refine key _ _ _ (by show GR.size<=300;omega) ?_;refine key _ _ _ (el _ _ _) (key _ _ _ (el _ _ _) (key _ _ _ (el _ _ _) (key _ _ _ (el _ _ _) (key _ _ _ (el _ _ _) (key _ _ _ (el _ _ _) (key _ _ _ (el _ _ _) (key _ _ _ (el _ _ _) (key _ _ _ (el _ _ _) (key _ _ _ (el _ _ _) (key _ _ _ (el _ _ _) h1))))))))))
theorem aj.jG:∀ (l:List aj),aj.aC l->∀ x∈l,x.small
 | [],_,x,hx=>by cases hx
 | y::l,h,x,hx=>by
  rw [aj.aC] at h;rcases List.mem_cons.1 hx with rfl | hx
  ·exact h.1
  ·exact aj.jG l h.2 x hx
theorem Es:∀ (l:List Nd) (p:List Nd × ByteArray),(l.foldl eT p).1.length<=p.1.length+2*l.length
 | [],p=>by simp
 | x::l,p=>by
  have h:=Es l (eT p x);have h2:(eT p x).1.length<=p.1.length+2:=by
   unfold eT;split
   ·show p.1.length<=_;omega
   ·show (p.1++bI p.2++[x]).length<=_;rw [jh6,jh6];have:(bI p.2).length<=1:=by unfold bI;split<;>simp
    simp;omega
  rw [List.foldl_cons,List.length_cons];omega
theorem JD:∀ (l:List Nd) (p:List Nd × ByteArray),(∀ x∈l,x.tx.size<=300)->(l.foldl eT p).2.size<=p.2.size+300*l.length
 | [],p,_=>by simp
 | x::l,p,hx=>by
  have h:=JD l (eT p x) (fun y hy=>hx y (List.mem_cons_of_mem _ hy));have h1:=hx x (List.mem_cons_self ..);have h2:(eT p x).2.size<=p.2.size+300:=by
   unfold eT;split
   ·show (p.2++x.tx).size<=_;rw [ByteArray.size_append];omega
   ·show (⟨#[]⟩:ByteArray).size<=_;have:(⟨#[]⟩:ByteArray).size=0:=rfl;omega
  rw [List.foldl_cons,List.length_cons];omega
theorem GU (l:List Nd) (k:Nat) (x:Nd) (h:l[k]?=some x):fT (l.take (k+1))=eT (fT (l.take k)) x:=by rw [List.take_add_one,h];exact GV _ _
theorem Cc (a b:ByteArray):Lib.strCells (a++b)=Lib.strCells a++Lib.strCells b:=by unfold Lib.strCells;rw [ByteArray.data_append];simp
def gT (w:jk3) (g o:Nat) (c0 c1 c2 c3:jk5):jk3:=(((w.setCell ⟨g,o,none⟩ c0).setCell ⟨g,o+1,none⟩ c1).setCell ⟨g,o+2,none⟩ c2).setCell ⟨g,o+3,none⟩ c3
theorem Mq (w:jk3) (g o:Nat) (c0 c1 c2 c3:jk5) (b:Nat) (h:b≠g):(gT w g o c0 c1 c2 c3).heap[b]?=w.heap[b]?:=by unfold gT;rw [jhj _ ⟨g,o+3,none⟩ _ b h,jhj _ ⟨g,o+2,none⟩ _ b h,jhj _ ⟨g,o+1,none⟩ _ b h,jhj _ ⟨g,o,none⟩ _ b h]
theorem jY (w:jk3) (b b' o o':Nat) (u v:jk5) (h:b≠b'):(w.setCell ⟨b,o,none⟩ u).setCell ⟨b',o',none⟩ v=(w.setCell ⟨b',o',none⟩ v).setCell ⟨b,o,none⟩ u:=by
 unfold jij;simp only [World.mk.injEq,and_true];apply Array.ext_getElem?;intro i;simp only [Array.getElem?_modify];by_cases h1:b=i
 ·subst h1;have hb:¬ b'=b:=fun e=>h e.symm
  simp [hb]
 ·simp [h1]
theorem Mr (w:jk3) (S g o:Nat) (V c0 c1 c2 c3:jk5) (h:S≠g):gT (w.setCell ⟨S,0,none⟩ V) g o c0 c1 c2 c3=(gT w g o c0 c1 c2 c3).setCell ⟨S,0,none⟩ V:=by unfold gT;rw [jY w S g,jY _ S g,jY _ S g,jY _ S g]<;>exact h
theorem Ah {w:jk3} {g o:Nat} {c0 c1 c2 c3:jk5} {b j:Nat} {v:jk5} (h:w.cell? ⟨b,j,none⟩=some v) (hb:b≠g):(gT w g o c0 c1 c2 c3).cell? ⟨b,j,none⟩=some v:=by rw [gy (Mq w g o c0 c1 c2 c3 b hb)];exact h
section
variable {T:TypeId} {U:Nat} {ok:Nat->Prop} {w0 w:jk3} {ds:List D} {rows:List (List jk5)} {v:jk5}
theorem aI.JE {g n c:Nat} {d0 d1:D} {a0 a1 a2 a3:jk5} (h:aI T 4 ok U w0 (ds++[d0]) (rows++[[a0,a1,a2,a3]]) (.slice (some ⟨g,0,none⟩) (n+1) c) w) (hn:ds.length=n) (c0 c1 c2 c3:jk5) (hd:Rd (fun b=>(ok b\/w0.heap.size<=b)/\g≠b/\b<U) w d1 [c0,c1,c2,c3]):aI T 4 ok U w0 (ds++[d1]) (rows++[[c0,c1,c2,c3]]) (.slice (some ⟨g,0,none⟩) (n+1) c) (gT w g (n*4) c0 c1 c2 c3):=by
 have hl:rows.length=n:=by have:=h.red.len;simp at this;omega
 have hfl:rows.flatten.length=n*4:=by rw [iJ 4 rows (fun r hr=>h.len r (by simp [hr])),hl]
 have hown:=h.own;have e1:(rows++[[a0,a1,a2,a3]]).flatten=rows.flatten++[a0,a1,a2,a3]:=by simp
 rw [e1,jh6,List.length_singleton,hn] at hown;have st:∀ (W:jk3) (zs:List jk5),W.ownsRow w0.heap.size T 4 (.slice (some ⟨g,0,none⟩) (n+1) c) (n+1) (rows.flatten++zs)->∀ (j:Nat) (u:jk5),(W.setCell ⟨g,n*4+j,none⟩ u).ownsRow w0.heap.size T 4 (.slice (some ⟨g,0,none⟩) (n+1) c) (n+1) (rows.flatten++zs.set j u):=by intro W zs hW j u;have:=(hW.stored (n*4+j) u).1;rw [List.set_append_right _ _ (by omega),hfl,Nat.add_sub_cancel_left] at this;exact this
 have o4:=st _ _ (st _ _ (st _ _ (st _ _ hown 0 c0) 1 c1) 2 c2) 3 c3;have hb:∀ b,b≠g->(gT w g (n*4) c0 c1 c2 c3).heap[b]?=w.heap[b]?:=fun b hb=>Mq w g _ _ _ _ _ b hb
 have hz:(gT w g (n*4) c0 c1 c2 c3).heap.size=w.heap.size:=by simp [gT,jij]
 have hg0:w0.heap.size<=g:=(h.own.lt g rfl).1;refine ⟨?_,?_,?_,?_,h.oU,h.Er,by rw [hz];exact h.GK⟩
 ·rw [show (rows++[[c0,c1,c2,c3]]).flatten=rows.flatten++[c0,c1,c2,c3] by simp,jh6,List.length_singleton,hn];exact o4
 ·obtain ⟨rA,rB,e2,hA,hB⟩:∃ rA rB,rows++[[a0,a1,a2,a3]]=rA++[rB]/\aP (fun b=>(ok b\/w0.heap.size<=b)/\(Value.slice (some ⟨g,0,none⟩) (n+1) c).ownBlock≠some b/\b<U) w ds rA/\True:=by
   refine ⟨rows,_,rfl,?_,trivial⟩;have h0:=h.red;clear st o4 hown;generalize hP:(fun b=>(ok b\/w0.heap.size<=b)/\(Value.slice (some ⟨g,0,none⟩) (n+1) c).ownBlock≠some b/\b<U)=P at h0;have gen:∀ (ds:List D) (rows:List (List jk5)) (d0:D) (r0:List jk5),aP P w (ds++[d0]) (rows++[r0])->rows.length=ds.length->aP P w ds rows:=by
    intro ds;induction ds with
    | nil=>intro rows d0 r0 _ hl;rw [List.eq_nil_of_length_eq_zero hl];exact aP.none
    | cons x ds ih=>
     intro rows d0 r0 hr hl;cases rows with
     | nil=>simp at hl
     | cons r rows=>
      obtain ⟨r',rs,e,h1,h2⟩:=hr.aJ;have e':r'=r/\rs=rows++[r0]:=by simp at e;exact ⟨e.1.symm,e.2.symm⟩
      obtain ⟨rfl,rfl⟩:=e';exact aP.cons h1 (ih rows d0 r0 h2 (by simpa using hl))
   exact gen ds rows d0 _ h0 (by omega)
  have e3:rA=rows:=by have:=congrArg List.dropLast e2;simpa using this.symm
  subst e3;refine aP.app (aP.keep (fun b hb' _=>⟨hb',hb b (fun e=>by subst e;exact hb'.2.1 rfl)⟩) _ _ hA) (aP.one (Rd.keep (fun b hb' _=>⟨⟨hb'.1,fun e=>hb'.2.1 (by simpa [Value.ownBlock] using e),hb'.2.2⟩,hb b (fun e=>hb'.2.1 e.symm)⟩) _ _ hd))
 ·intro r hr;rcases List.mem_append.1 hr with hr | hr
  ·exact h.len r (by simp [hr])
  ·simp at hr;subst hr;rfl
 ·have hbel:=h.aL;exact (((hbel.setCell (p:=⟨g,n*4,none⟩) hg0 c0).setCell (p:=⟨g,n*4+1,none⟩) hg0 c1).setCell (p:=⟨g,n*4+2,none⟩) hg0 c2).setCell (p:=⟨g,n*4+3,none⟩) hg0 c3
theorem aI.jZ {g n c:Nat} {d0:D} {a0 a1 a2 a3:jk5} (h:aI T 4 ok U w0 (ds++[d0]) (rows++[[a0,a1,a2,a3]]) (.slice (some ⟨g,0,none⟩) (n+1) c) w) (hn:ds.length=n) : w.cell? ⟨g,n*4,none⟩=some a0/\w.cell? ⟨g,n*4+1,none⟩=some a1/\w.cell? ⟨g,n*4+2,none⟩=some a2/\w.cell? ⟨g,n*4+3,none⟩=some a3/\∀ j,w.frozen? ⟨g,j,none⟩=false:=by
 have hl:rows.length=n:=by have:=h.red.len;simp at this;omega
 have hfl:rows.flatten.length=n*4:=by rw [iJ 4 rows (fun r hr=>h.len r (by simp [hr])),hl]
 have hc:∀ i u,[a0,a1,a2,a3][i]?=some u->w.cell? ⟨g,n*4+i,none⟩=some u:=by
  intro i u hu;have:=h.own.cells (g:=g) rfl (n*4+i) u (by
   rw [show (rows++[[a0,a1,a2,a3]]).flatten=rows.flatten++[a0,a1,a2,a3] by simp,List.getElem?_append_right (by omega),hfl,Nat.add_sub_cancel_left];exact hu)
  have e:((⟨g,0,none⟩:Addr).add (n*4+i))=⟨g,n*4+i,none⟩:=by unfold Addr.add;split<;>simp_all
  rwa [e] at this
 refine ⟨hc 0 _ rfl,hc 1 _ rfl,hc 2 _ rfl,hc 3 _ rfl,fun j=>?_⟩;rcases h.own.2 with ⟨h1,-⟩ | ⟨g',cap,cur,h1,-,h2,-⟩
 ·cases h1
 ·injection h1 with h1
  injection h1 with h1
  injection h1 with h1
  subst h1;simp [World.frozen?,h2]
theorem KM {k n:Nat} {ops:Array Oper} {o:Oper} {a:Act} {K:Act->jk3->Prop} {Q:Exit->Act->jk3->Prop} {E:Prop} (hgd:o.guard=none) (s x:Operand) (t:TypeId) (ho:o.op=.call { callee:=.builtin .append,args:=#[s,x],argTypes:=#[t,t] }) (i:TypeInfo) (z:jk5) (bytes:Nat) (ht:Tryz.prog.underlying t=some (.slice T)) (hi:Tryz.prog.info? T=some i) (hz:i.zero=some z) (hsize:i.size=k) (hby:i.bytes=bytes) (hzs:z.cells.size=k) (hsz:0<k) (h:aI T k ok U w0 ds rows v w) (hB:∀ b,ok b->b<w0.heap.size) (d:D) (r:List jk5) (hx:Rd (fun b=>ok b\/U<=b) w d r) (hr:r.length=k) (h1:∀ u∈r,u.oneCell'=true) (hdn:ds.length=n) (hn:n<=10000000) (kS:bytes<=1000) (hs:a.eval s=v) (hxe:a.eval x=.slice (some ⟨w.heap.size,0,none⟩) 1 1) (hK:∀ g c' w',aI T k ok w'.heap.size w0 (ds++[d]) (rows++[r]) (.slice (some ⟨g,0,none⟩) (n+1) c') w'->(w.alloc (.cells r.toArray T)).grownBy w' v.ownBlock->(v.ownBlock=some g\/w.heap.size<g)->n+1<=c'->K (a.put o.dst (.slice (some ⟨g,0,none⟩) (n+1) c')) w') : if Region.wanted o (yielded ops a.tmps)=true then Oper.wp Tryz.prog o a (w.alloc (.cells r.toArray T)) K Q else E:=by
 subst hdn;have hmul:(ds.length+1)*bytes<=140737488355328:=Nat.le_trans (Nat.mul_le_mul (show ds.length+1<=10000001 by omega) kS) (by omega);refine step_append_lies _ hgd s x t ho w0.heap.size T i z k bytes ht hi hz hsize hby hzs hsz v ds.length rows.flatten hs (h.own.alloc _) ⟨w.heap.size,0,none⟩ 1 1 r hxe (by omega) (GN w r T) h1 (by omega) (by unfold maxLen;omega) hmul (by have:=h.aL.size;simp;omega) (w.heap.size+1) (by simp) ?_;intro g cap w' hown hg hat _;have Qu:v.ownBlock=some g\/w.heap.size<g:=hat.elim (fun e=>.inl (by rw [e])) (fun e=>.inr (by omega));have hcp:ds.length+1<=cap:=by obtain ⟨g',cap',he,hle⟩:=fD hown (by omega);injection he with _ _ he;omega
 refine hK _ _ w' ?_ hg Qu hcp;refine h.put hB (bq:=[r]) (es:=[d]) (aP.one (Rd.keep (fun b hb hlt=>⟨hb,jhk w _ b hlt⟩) _ _ hx)) (by simp [hr]) (World.grownBy_alloc w _ none) (by simpa using hown) hg (hat.elim (fun e=>.inl (by rw [e];rfl)) (fun e=>.inr (by rw [e];simp [Value.ownBlock])))
end
def sQ (S:Nat) (w:jk3) (N:List Nd) (vi:jk5) (wr:jk3):Prop:=
 ∃ (k:Nat) (rows:List (List jk5)) (v:jk5) (U:Nat) (wB:jk3),k<=N.length/\vi=.int .i64 k/\wB.heap.size=S+2/\aI 43 4 (fun _=>False) U wB ((fT (N.take k)).1.map Nd.d) rows v wr /\
  aG S v 34 wr/\Ce (S+1) U (Lib.strCells (fT (N.take k)).2) wr/\Below S w wr
theorem GX {p:Nat} {w:jk3} {c0 c1 c2 c3 c4 c5 c6 c7 c8 c9:jk5} (h:PB p [c0,c1,c2,c3,c4,c5,c6,c7,c8,c9] w) : w.cell? ⟨p,0,none⟩=some c0/\w.cell? ⟨p,1,none⟩=some c1/\w.cell? ⟨p,2,none⟩=some c2/\w.cell? ⟨p,3,none⟩=some c3/\w.cell? ⟨p,4,none⟩=some c4/\w.cell? ⟨p,5,none⟩=some c5 /\ w.cell? ⟨p,6,none⟩=some c6/\w.cell? ⟨p,7,none⟩=some c7/\w.cell? ⟨p,8,none⟩=some c8/\w.cell? ⟨p,9,none⟩=some c9:=
 ⟨h.cell 0 _ rfl,h.cell 1 _ rfl,h.cell 2 _ rfl,h.cell 3 _ rfl,h.cell 4 _ rfl,h.cell 5 _ rfl,h.cell 6 _ rfl,h.cell 7 _ rfl,h.cell 8 _ rfl,h.cell 9 _ rfl⟩
theorem dQ.Td {S:Nat} {w w':jk3} {at_:At} {ar:List ByteArray} {ci:List Ci} {ks:List aj} {vc vp va vi vk:jk5} (h:dQ (·<S) w at_ ar ci ks vc vp va vi vk) (hb:Below S w w') (hS:S<=w'.heap.size):dQ (·<w'.heap.size) w' at_ ar ci ks vc vp va vi vk:=
 have hs:wM (·<S) (·<w'.heap.size) w w':=fun b (h1:b<S) _=>⟨by omega,hb.block b h1⟩
 ⟨⟨Rd.keep hs _ _ h.at_.cls,Rd.keep hs _ _ h.at_.aF⟩,Rd.keep hs _ _ h.args,Rd.keep hs _ _ h.bg,Rd.keep hs _ _ h.kids⟩
theorem Ms (s:ByteArray):s.toList.isEmpty=aT s:=by rw [Lib.toList_data,Bool.eq_iff_iff,List.isEmpty_iff,aT,decide_eq_true_iff]
theorem M6 {s:ByteArray} (h:aT s=false):0<s.size:=by
 unfold aT at h;rw [decide_eq_false_iff_not] at h;have:s.data.toList.length≠0:=fun e=>h (List.eq_nil_of_length_eq_zero e)
 have e2:s.data.toList.length=s.size:=by simp
 omega
theorem Ce.Cg {b U U':Nat} {w w':jk3} (h:Ce b U [] w) (hs:w'.heap[b]?=w.heap[b]?) (hU:b<U'):Ce b U' [] w':=
 h.imp (fun ⟨_,v,h2,_,h4⟩=>⟨hU,v,hs.trans h2,by rw [h4 rfl];exact World.ownsRowF_nil _ _ _ _,h4⟩) (fun ⟨_,v,h2,_,h4⟩=>⟨hU,v,hs.trans h2,by rw [h4 rfl];exact World.ownsRowF_nil _ _ _ _,h4⟩)
theorem jw (n:Nat):∀ (l:List aj) (v:jk5) (w:jk3),aj.aZ l<=n->n<=1000000->Rd (·<w.heap.size) w (bC l) [v]->aj.aC l->aj.GY l -> Calls Tryz.prog 50 #[v] w (bM w (dD l)):=by
 induction n using Nat.strongRecOn with
 | _ n ih=>
  intro l v w hn hnm hrd hsm htf;obtain ⟨iN,qG,fZ,gq,gu⟩:=info_parts lW;obtain ⟨a,cap,hv,hs⟩:=Rd.aB hrd;obtain rfl:v=.slice a l.length cap:=by simpa using hv
  have hcap:l.length<=cap:=by simpa using hs.le
  have hll:=aj.gZ l;have hmx:=hs.max;unfold maxLen at hmx;obtain ⟨N,hN⟩:∃ N,N=aj.GZ l:=⟨_,rfl⟩;have Ya:N.length=l.length:=by rw [hN,kg,jh7]
  have Yb:∀ x∈N,x.tx.size<=300:=by intro x hx;rw [hN,kg] at hx;obtain ⟨y,hy,rfl⟩:=List.mem_map.1 hx;exact Tc y (aj.jG l hsm y hy)
  have hNf:∀ x∈N,x.full:=by rw [hN];exact Et l htf
  have Yc:dD l=(fT N).1++bI (fT N).2:=by rw [hN];exact M7 l htf
  obtain ⟨S,hS⟩:∃ S,S=w.heap.size:=⟨_,rfl⟩;obtain ⟨W0,hW0⟩:∃ W,W=(w.alloc (.cells #[.slice none 0 0] 34)).alloc (.cells #[.pointer none,.slice none 0 0] 110):=⟨_,rfl⟩;have z0:W0.heap.size=S+2:=by rw [hW0,hS];simp
  have k0:aG S (.slice none 0 0) 34 W0:=by rw [hW0,hS];exact (aG.new w _ _).alloc _
  have k1:W0.heap[S+1]?=some (.cells #[.pointer none,.slice none 0 0] 110 (0,0)):=by
   rw [hW0,hS];have:=heap_alloc_new (w.alloc (.cells #[.slice none 0 0] 34)) (.cells #[.pointer none,.slice none 0 0] 110)
   rwa [World.size_alloc] at this
  have b0:Below S w W0:=by rw [hW0,hS];exact ((jh1 _ _).alloc (jh2 _) _).alloc (by simp) _
  have R0:Hid (sQ S w N (.int .i64 0) W0):=⟨0,[],_,S+2,W0,Nat.zero_le _,rfl,z0,by rw [<- z0];exact aI.nil _ _ _ _,k0,Ce.new k1 (by omega),b0⟩;have HS:=hid hs;have IH:=hid ih;have eG:=hid hsm;have HTF:=hid htf;have HN:=hid hN;have Eu:=hid Ya;have HNT:=hid Yb;have HNF:=hid hNf;have dn:=hid Yc;have M8:=hid hS;have HW0:=hid hW0;clear hs hv hrd ih hsm htf hN Ya Yb hNf Yc hS hW0 z0 k0 k1 b0;go_enter Tryz.func50,Tryz.ntmps50;go_upto_region 3 with (fail)
  rw [<- M8.out,<- HW0.out];go_wp2
  go_loopw [12] (fun vi wr=>sQ S w N vi wr) (fun i _=>l.length-(intOf i).toNat)
  case atStart=>exact R0.out
  case round=>
   clear R0 HW0;obtain ⟨k,rows,v,U,wB,hk,rfl,Te,hrow,hbx,hbd,hbel⟩:=hrel;rw [Eu.out] at hk;obtain ⟨P,hP⟩:∃ P,P=fT (N.take k):=⟨_,rfl⟩;rw [<- hP] at hrow hbd;obtain ⟨m,hm⟩:∃ m,m=(P.1.map Nd.d).length:=⟨_,rfl⟩;have hm2:m<=2*k:=by
    have h:=Es (N.take k) ([],⟨#[]⟩);have h2:(N.take k).length<=k:=List.length_take_le _ _;have h3:P.1=((N.take k).foldl eT ([],⟨#[]⟩)).1:=by rw [hP];rfl
    rw [<- h3] at h;rw [hm,jh7];simp at h;omega
   have hpt:P.2.size<=300*k:=by
    have h:=JD (N.take k) ([],⟨#[]⟩) (fun x hx=>HNT.out x (List.mem_of_mem_take hx));have h2:(N.take k).length<=k:=List.length_take_le _ _;have h3:P.2=((N.take k).foldl eT ([],⟨#[]⟩)).2:=by rw [hP];rfl
    rw [<- h3] at h;have h4:(([]:List Nd),(⟨#[]⟩:ByteArray)).2.size=0:=rfl;omega
   obtain ⟨av,cv,rfl,-,-⟩:=hrow.cap hm.symm;have HM:=hid hm.symm;have HP:=hid hP;have aV:=hid hrow;have kK:=hid hbx;have jD:=hid hbd;have mX:=hid Te;have hUr:=hrow.GK;have hSU:S+2<=U:=by have:=hrow.Er;omega
   have Qv:Hid (P.1.length=m):=by show _=_;rw [hm,jh7]
   clear hrow hbx hbd hm hP Te;by_cases hlt:k<l.length
   ·obtain ⟨x,hx⟩:∃ x,l[k]?=some x:=⟨_,jh0 hlt⟩;have U9:N[k]?=some x.nd:=by rw [HN.out,kg,List.getElem?_map,hx];rfl
    have hst:=GU N k x.nd U9;rw [<- HP.out] at hst;have hfull:=HNF.out x.nd (jhx U9);have htx:=HNT.out x.nd (jhx U9);have hxs:=aj.jG l eG.out x (jhx hx);have hxt:=Ch l HTF.out x (jhx hx);have hsz:=aj.bE l k _ hx;obtain ⟨X,hX⟩:∃ X,X=x.nd:=⟨_,rfl⟩;rw [<- hX] at hst hfull htx;obtain ⟨kd,t,d,ti,at_,ar,ci,ks⟩:=x;obtain ⟨g,off,vc,vp,va,vi,vk,rfl,hok,hbl,hc,hR⟩:=Jp HS.out hx;obtain ⟨c0,c1,c2,c3,c4,c5,c6,c7,c8,c9⟩:=hc.below (show Below w.heap.size w wr by rw [<- M8.out];exact hbel);rw [aj.sz] at hsz;obtain ⟨ac,nc,cc,rfl⟩:=Rd.ah hR.at_.cls
    obtain ⟨ap,np,cp,rfl⟩:=Rd.ah hR.at_.aF
    obtain ⟨aa,na,ca,rfl⟩:=Rd.ah hR.args;obtain ⟨ai,ni,fI,rfl⟩:=Rd.ah hR.bg;obtain ⟨ak,nk,ck,rfl⟩:=Rd.ah hR.kids;have HR:Hid (dQ (·<S) w at_ ar ci ks (.slice ac nc cc) (.slice ap np cp) (.slice aa na ca) (.slice ai ni fI) (.slice ak nk ck)):=by rw [M8.out];exact hR
    have HST:=hid hst;have HX:=hid hX;have M9:=hid hfull;have HXS:=hid hxs;have HXT:=hid hxt;have eY:=hid hbel;have hSr:S<=wr.heap.size:=by have:=hbel.size;have:=M8.out;omega
    clear hc hok hbl hR hst hX hfull hxs hxt U9 hx hbel;go_upto_region 7 with (fail)
    obtain ⟨p,hp⟩:∃ p,p=wr.heap.size:=⟨_,rfl⟩;obtain ⟨wA,gN⟩:∃ wA,wA=wr.alloc (.cells #[.int .i64 kd,.string t,.string d,.string ti,.string at_.id,.slice ac nc cc,.slice ap np cp,.slice aa na ca,.slice ai ni fI,.slice ak nk ck] 51):=⟨_,rfl⟩;have PA:PB p [.int .i64 kd,.string t,.string d,.string ti,.string at_.id,.slice ac nc cc,.slice ap np cp,.slice aa na ca,.slice ai ni fI,.slice ak nk ck] wA:=by rw [gN,hp];exact heap_alloc_new wr _
    have bA:Below wr.heap.size wr wA:=by rw [gN];exact (jh1 _ _).alloc (jh2 _) _
    rw [<- gN,<- hp];obtain ⟨e0,e1,e2,e3,e4,e5,e6,e7,e8,e9⟩:=GX PA;have zA:=bA.size;have BA:=hid (eY.out.trans (bA.mono hSr));have HRA:=HR.out.Td BA.out (by omega);have LC:jH wA ks (.slice ak nk ck):=fun W hW=>by
     have hsk:=HXS.out;rw [aj.small] at hsk;have htk:=HXT.out;rw [aj.tf] at htk;exact IH.out (aj.aZ ks) (by omega) ks _ W (jh2 _) (by omega) (HRA.kids.up hW) hsk.2.2.2.2.2.2.2.2 htk.2
    have IC:=G5 kd t d ti at_ ar ci ks _ _ _ _ _ wA HRA HXS.out LC (by omega)
    rw [<- HX.out] at IC;have IL:=hid IC;have ql:=hid bA;clear gN hp c0 c1 c2 c3 c4 c5 c6 c7 c8 c9 HRA LC IC PA bA;go_wp2_with fail
    (with_reducible refine IL.out.mono ?_)
    rintro e w1 ⟨vA,vK,rfl,PX,b1⟩;obtain ⟨aA,nA,cA,rfl⟩:=Rd.ah PX.at_
    obtain ⟨aK,nK,cK,rfl⟩:=Rd.ah PX.ks;have HND:=hid PX;have B1:=hid b1;have z1:=b1.size;clear e0 e1 e2 e3 e4 e5 e6 e7 e8 e9 PX b1 IL;obtain ⟨nm,tx,XA,XK⟩:=X;dsimp only [Nd.nm,Nd.tx,Nd.at_,Nd.ks] at htx HND;dsimp only [Nd.nm,Nd.tx];go_upto_region 8 with (fail)
    obtain ⟨q,hq⟩:∃ q,q=w1.heap.size:=⟨_,rfl⟩;obtain ⟨wN,Yd⟩:∃ wN,wN=w1.alloc (.cells #[.string nm,.string tx,.slice aA nA cA,.slice aK nK cK] 43):=⟨_,rfl⟩;have KN:CB 43 q [.string nm,.string tx,.slice aA nA cA,.slice aK nK cK] wN:=by rw [Yd,hq];exact CB.new _ _ w1
    have bN:Below w1.heap.size w1 wN:=by rw [Yd];exact (jh1 _ _).alloc (jh2 _) _
    have zN:wN.heap.size=q+1:=by rw [Yd,hq];simp
    have hqr:wA.heap.size<=q:=by rw [hq];exact z1
    have HQ:=hid hq;rw [<- Yd,<- hq];have BN:=hid (aM ql.out (aM B1.out bN));have HN1:=hid bN;have f0:=KN.cell 0 _ rfl;have f1:=KN.cell 1 _ rfl;have HKN:=hid KN;have ZN:=hid zN;have hzr:=BN.out.size;clear Yd hq KN bN zN;by_cases hem:aT nm=true
    ·have q1:nm.toList.isEmpty=true:=by rw [Ms];exact hem
     have q2:nm.toList=[]:=by rw [List.isEmpty_iff] at q1;exact q1
     have htp:0<tx.size:=M6 (M9.out hem).2;have Cj:Hid (fT (N.take (k+1))=(P.1,P.2++tx)):=by show _=_;rw [HST.out];unfold eT;rw [if_pos (show aT (Nd.mk nm tx XA XK).nm=true from hem)];rfl
     have WS:=hid (zB (S+1) U (Lib.strCells P.2) tx wN (jD.out.below BN.out) (by rw [Lib.strCells_length];omega) (by omega) htp);clear hem HST M9;go_wp2_with fail
     (with_reducible refine WS.out.mono ?_)
     rintro e w2 ⟨rfl,Ye,hb2⟩;have hR2:=aV.out.reU (w':=w2) (by have:=hb2.size;omega) (fun b h1 h2=>(hb2.blk b h2 (by have:=mX.out;omega)).trans (BN.out.block b (by omega)));obtain ⟨wB2,Yf,hrow2⟩:=hR2;have HF:Hid (sQ S w N (.int .i64 ((k+1:Nat):Int)) w2):=by
      refine ⟨k+1,rows,.slice av m cv,U,wB2,by rw [Eu.out];omega,rfl,Yf.trans mX.out,?_,?_,?_,?_⟩
      ·rw [Cj.out];exact hrow2
      ·exact (hb2.blk S (by omega) (by omega)).trans ((BN.out.block S (by omega)).trans kK.out)
      ·rw [Cj.out,Cc];exact Ye
      ·exact eY.out.trans ((BN.out.mono hSr).trans (hb2.below (by omega) (by omega)))
     clear Ye hb2 Yf hrow2 WS f0 f1 q1 q2;go_wp2;go_roundw;case rel=>exact HF.out
     case measure=>simp [intOf];omega
    ·have q1:nm.toList.isEmpty=false:=by rw [Ms];simpa using hem
     have Cj:Hid (fT (N.take (k+1))=(P.1++bI P.2++[.mk nm tx XA XK],⟨#[]⟩)):=by show _=_;rw [HST.out];unfold eT;rw [if_neg (show ¬ aT (Nd.mk nm tx XA XK).nm=true from hem)]
     have FC:=Aj S U P.2.data.toList P.1 rows (.slice av m cv) wr wN wB (by have:=mX.out;omega) aV.out kK.out jD.out BN.out (by rw [Qv.out];omega);rw [Ck] at FC;have FL:=hid FC;clear hem HST M9 FC;go_wp2_with fail
     (with_reducible refine FL.out.mono ?_)
     rintro e w3 ⟨rfl,bY,v3,wB3,Va,hrow3,KO,Qw,uV,hkp3,hb3⟩;obtain ⟨m3,G6⟩:∃ m,m=(List.map Nd.d (P.1++bI P.2)).length:=⟨_,rfl⟩;have Yg:m3<=m+1:=by
      rw [G6,jh7,jh6,Qv.out];have:(bI P.2).length<=1:=by unfold bI;split<;>simp
      omega
     obtain ⟨a3,c3,rfl,hc3,jaj⟩:=hrow3.cap G6.symm;unfold maxLen at jaj;have Mt:=hid G6.symm;have U3:=hid hrow3.drew;have W9:CB 43 q [.string nm,.string tx,.slice aA nA cA,.slice aK nK cK] w3:=(hkp3 q (by omega) (by have:=ZN.out;omega)).trans HKN.out;have NR3:Hid (Rd (fun b=>wA.heap.size<=b/\b<q) w3 (Nd.mk nm tx XA XK).d [.string nm,.string tx,.slice aA nA cA,.slice aK nK cK]):=
      Nd.fJ nm tx (HND.out.keep (fun b (h1:wA.heap.size<=b) h2=>⟨⟨h1,by rw [HQ.out];exact h2⟩,(hkp3 b (by omega) (by have:=ZN.out;have:=HQ.out;omega)).trans (HN1.out.block b h2)⟩))
     have S0:w3.drew.cell? ⟨S,0,none⟩=some (.slice a3 m3 c3)/\w3.drew.cell? ⟨q,0,none⟩=some (.string nm)/\w3.drew.cell? ⟨q,1,none⟩=some (.string tx)/\w3.drew.cell? ⟨q,2,none⟩=some (.slice aA nA cA)/\w3.drew.cell? ⟨q,3,none⟩=some (.slice aK nK cK):=⟨KO.cell,W9.cell 0 _ rfl,W9.cell 1 _ rfl,W9.cell 2 _ rfl,W9.cell 3 _ rfl⟩;have hov:∀ g,(Value.slice a3 m3 c3).ownBlock=some g->S+2<=g/\(g<wr.heap.size\/wN.heap.size<=g):=fun g hg=>⟨by have:=(hrow3.own.lt g hg).1;have:=mX.out;omega,uV g hg⟩
     have qW:=hid hov;have jak:=hid KO;have Cm:=hid Qw;have HB3:=hid hb3;have zC:=hid Va;have HKQ:=hid W9;have hz3:=hb3.size;have jaq:S<w3.heap.size:=KO.lt;clear G6 hrow3 KO Qw hb3 Va uV hkp3 W9 hov FL f0 f1 q1;go_upto_region 11 with (fail)
     refine iO 7 (fun w'=>w'.cell? ⟨S,0,none⟩=some (.slice a3 m3 c3)/\w'.cell? ⟨q,0,none⟩=some (.string nm)/\w'.cell? ⟨q,1,none⟩=some (.string tx)/\w'.cell? ⟨q,2,none⟩=some (.slice aA nA cA)/\w'.cell? ⟨q,3,none⟩=some (.slice aK nK cK)) (by kernel_rfl) S0 ?_;intro hH;refine nM (i:=0) (v:=?_) rfl (by kernel_rfl) (by kernel_rfl) (by kernel_rfl) (by kernel_rfl) (by kernel_rfl) (fun _ _ _ h=>h) hH (Or.inl ⟨by rfl,?_⟩) ?_;rotate_left
     ·(intro wv hSw;(try dsimp only at hSw);go_simp;try with_reducible rfl)
     try simp only [Act.put,jgq,jgx,jgz]
     refine nM (i:=1) (v:=?_) rfl (by kernel_rfl) (by kernel_rfl) (by kernel_rfl) (by kernel_rfl) (by kernel_rfl) (fun _ _ _ h=>h) hH (Or.inl ⟨by rfl,?_⟩) ?_;rotate_left
     ·(intro wv hSw;(try dsimp only at hSw);go_simp;try with_reducible rfl)
     try simp only [Act.put,jgq,jgx,jgz]
     refine nM (i:=2) (v:=?_) rfl (by kernel_rfl) (by kernel_rfl) (by kernel_rfl) (by kernel_rfl) (by kernel_rfl) (fun _ _ _ h=>h) hH (Or.inl ⟨by rfl,?_⟩) ?_;rotate_left
     ·(intro wv hSw;(try dsimp only at hSw);go_simp;try with_reducible rfl)
     try simp only [Act.put,jgq,jgx,jgz]
     refine q01 (i:=3) rfl (by kernel_rfl) (fun KQ hK=>?_);go_simp;refine hK.out _ _ (fun _ _=>⟨past S0.1 _,past S0.2.1 _,past S0.2.2.1 _,past S0.2.2.2.1 _,past S0.2.2.2.2 _⟩) (fun hH2=>?_);clear hK KQ hH;have hH:=hH2 (by decide) (by kernel_rfl);clear hH2;try simp only [Act.put,jgq,jgx,jgz]
     refine q01 (i:=4) rfl (by kernel_rfl) (fun KQ hK=>?_);refine KM rfl (.tmp 26) (.tmp 29) 34 rfl iN _ 80 Tryz.underlying34 qG fZ gq gu rfl (by decide) U3.out (fun _=>False.elim) (Nd.mk ⟨#[]⟩ ⟨#[]⟩ [] []).d [.string ⟨#[]⟩,.string ⟨#[]⟩,.slice none 0 0,.slice none 0 0] (Nd.fJ ⟨#[]⟩ ⟨#[]⟩ ⟨Rd.ay _ _ _,Rd.ay _ _ _⟩) rfl Ev Mt.out (by omega) (by decide) rfl rfl ?_;intro g5 c5 w5 aH hg5 nN Mi;have hgS:S+2<=g5/\g5≠q/\(g5<wr.heap.size\/wN.heap.size<=g5):=by
      have hz9:w3.drew.heap.size=w3.heap.size:=rfl;rcases nN with h | h
      ·have:=qW.out g5 h;have:=ZN.out;omega
      ·have:=ZN.out;omega
     have Vb:∀ b,b=S\/b=q->some b≠(Value.slice a3 m3 c3).ownBlock:=fun b hb e=>by
      have:=qW.out b e.symm;have:=ZN.out;omega
     have S5:w5.cell? ⟨S,0,none⟩=some (.slice a3 m3 c3)/\w5.cell? ⟨q,0,none⟩=some (.string nm)/\w5.cell? ⟨q,1,none⟩=some (.string tx)/\w5.cell? ⟨q,2,none⟩=some (.slice aA nA cA)/\w5.cell? ⟨q,3,none⟩=some (.slice aK nK cK):=⟨(World.grownBy.cell_far hg5 ⟨S,0,none⟩ (by simp;omega) (Vb S (.inl rfl))).trans (past S0.1 _),(World.grownBy.cell_far hg5 ⟨q,0,none⟩ (by simp;have:=ZN.out;omega) (Vb q (.inr rfl))).trans (past S0.2.1 _),(World.grownBy.cell_far hg5 ⟨q,1,none⟩ (by simp;have:=ZN.out;omega) (Vb q (.inr rfl))).trans (past S0.2.2.1 _),(World.grownBy.cell_far hg5 ⟨q,2,none⟩ (by simp;have:=ZN.out;omega) (Vb q (.inr rfl))).trans (past S0.2.2.2.1 _),(World.grownBy.cell_far hg5 ⟨q,3,none⟩ (by simp;have:=ZN.out;omega) (Vb q (.inr rfl))).trans (past S0.2.2.2.2 _)⟩;obtain ⟨y0,y1,y2,y3,yf⟩:=aH.jZ Mt.out;have t0:(0:Int)<=(m3:Int):=by omega
     have t1:(m3:Int)<((m3+1:Nat):Int):=by omega
     have t2:(m3:Int)<(m3:Int)+1:=by omega
     have t3:m3<m3+1:=by omega
     have U5:=hid aH;have sS:=hid hg5;have Yh:w3.heap.size+1<=w5.heap.size:=by have:=hg5.size;simp at this;exact this
     have y8:S≠g5:=by omega
     have hqg:q≠g5:=fun e=>hgS.2.1 e.symm
     have qX:aG S (.slice a3 m3 c3) 34 w5:=(hg5.block S (by simp;omega) (Vb S (.inl rfl))).trans ((jhk w3 _ S jaq).trans jak.out);have wR:=qX.free;have z5:=qX.cell;obtain ⟨wZ,Na,iQ⟩:=aH.hop2 (p:=S) (by have:=zC.out;have:=mX.out;omega) (show w5.grownBy (w5.setCell ⟨S,0,none⟩ (.slice (some ⟨g5,0,none⟩) (m3+1) c5)) (some S) from ⟨rfl,rfl,rfl,by simp [jij],fun b _ hb=>jhj w5 ⟨S,0,none⟩ _ b (fun e=>hb (by rw [e]))⟩);obtain ⟨u0,u1,u2,u3,uf⟩:=iQ.jZ Mt.out;have BX5:=hid qX;clear iQ Na qX aH hg5 nN Vb S0;refine hK.out _ _ (fun _ _=>S5) (fun hH2=>?_);clear hK KQ hH;have hH:=hH2 (by decide) (by kernel_rfl);clear hH2;try simp only [Act.put,jgq,jgx,jgz]
     refine zD (i:=5) (j:=7) rfl rfl (by kernel_rfl) (fun KQ hK=>?_) (fun KQ hK=>?_);rotate_left
     ·go_simp;refine hK.out _ _ (fun h=>absurd rfl h) (fun _=>?_);clear hK KQ hH;try simp only [Act.put,jgq,jgx,jgz]
      refine q01 (i:=5) rfl (by kernel_rfl) (fun KQ hK=>?_);go_simp;refine hK.out _ _ (fun _ h=>absurd h (by decide)) (fun _=>?_);clear hK KQ;try simp only [Act.put,jgq,jgx,jgz]
      refine q01 (i:=6) rfl (by kernel_rfl) (fun KQ hK=>?_);go_simp;refine hK.out _ _ (fun _ h=>absurd h (by decide)) (fun _=>?_);clear hK KQ;try simp only [Act.put,jgq,jgx,jgz]
      refine uj (by kernel_rfl) ?_ _;have hsw:=Mr w5 S g5 (m3*4) (.slice (some ⟨g5,0,none⟩) (m3+1) c5) (.string nm) (.string tx) (.slice aA nA cA) (.slice aK nK cK) y8;simp only [gT] at hsw;rw [hsw];clear hsw;clear S5 y0 y1 y2 y3 yf u0 u1 u2 u3 uf wR z5 t0 t1 t2 t3;have JF:=U5.out.JE Mt.out (.string nm) (.string tx) (.slice aA nA cA) (.slice aK nK cK) (d1:=(Nd.mk nm tx XA XK).d) (Rd.keep (fun b hb hlt=>⟨⟨.inr (by have:=zC.out;have:=mX.out;omega),(fun e=>by subst e;have:=ZN.out;omega),by omega⟩,(sS.out.block b (by simp;omega) (fun e=>by have:=qW.out b e.symm;have:=ZN.out;omega)).trans (jhk w3 _ b hlt)⟩) _ _ NR3.out);obtain ⟨w6,dK⟩:∃ w6,w6=gT w5 g5 (m3*4) (.string nm) (.string tx) (.slice aA nA cA) (.slice aK nK cK):=⟨_,rfl⟩;have hb6:∀ b,b≠g5->w6.heap[b]?=w5.heap[b]?:=fun b hb=>by rw [dK];exact Mq _ _ _ _ _ _ _ b hb
      have Ew:aG S (.slice a3 m3 c3) 34 w6:=(hb6 S y8).trans BX5.out;rw [<- dK] at JF;have wS:=dK;simp only [gT] at wS;rw [<- wS];clear wS;have Vd:w6.heap.size=w5.heap.size:=by rw [dK];simp [gT,jij]
      obtain ⟨w7,hw7⟩:∃ w7,w7=w6.setCell ⟨S,0,none⟩ (.slice (some ⟨g5,0,none⟩) (m3+1) c5):=⟨_,rfl⟩;rw [<- hw7];have PY:aG S (.slice (some ⟨g5,0,none⟩) (m3+1) c5) 34 w7:=by rw [hw7];exact Ew.set _
      have g7:w6.grownBy w7 (some S):=by rw [hw7];exact ⟨rfl,rfl,rfl,by simp [jij],fun b _ hb=>jhj w6 ⟨S,0,none⟩ _ b (fun e=>hb (by rw [e]))⟩
      have hz7:w7.heap.size=w6.heap.size:=by rw [hw7];simp [jij]
      obtain ⟨PZ,P5,pK⟩:=JF.hop2 (p:=S) (by have:=zC.out;have:=mX.out;omega) g7;have DF:∀ b,b<w3.heap.size->b≠S->b≠g5->(∀ g,(Value.slice a3 m3 c3).ownBlock=some g->b≠g)->w7.heap[b]?=w3.heap[b]?:=fun b h1 h2 h3 h4=>
       (g7.block b (by omega) (fun e=>h2 (Option.some.inj e))).trans ((hb6 b h3).trans ((sS.out.block b (by simp;omega) (fun e=>h4 b e.symm rfl)).trans (jhk w3 _ b h1)))
      have Tf:aI 43 4 (fun _=>False) w7.heap.size PZ ((fT (N.take (k+1))).1.map Nd.d) (bY++[[.string nm,.string tx,.slice aA nA cA,.slice aK nK cK]]) (.slice (some ⟨g5,0,none⟩) (m3+1) c5) w7:=by rw [Cj.out];show aI _ _ _ _ _ (List.map Nd.d (P.1++bI P.2++[.mk nm tx XA XK])) _ _ _;rw [ji2];exact pK.up (by omega) (jh2 _)
      have HF:Hid (sQ S w N (.int .i64 ((k+1:Nat):Int)) w7):=by
       refine ⟨k+1,_,.slice (some ⟨g5,0,none⟩) (m3+1) c5,w7.heap.size,PZ,by rw [Eu.out];omega,rfl,P5.trans (zC.out.trans mX.out),Tf,PY,?_,?_⟩
       ·rw [Cj.out];exact Cm.out.Cg (DF (S+1) (by have:=Cm.out.lt;exact this) (by omega) (by omega) (fun g hg=>by have:=(qW.out g hg).1;omega)) (by have:=Cm.out.lt;omega)
       ·refine eY.out.trans ((BN.out.mono hSr).trans (HB3.out.trans ⟨?_,?_,?_,by omega,fun b hb=>DF b (by omega) (by omega) (by omega) (fun g hg=>by have:=(qW.out g hg).1;omega)⟩))
        ·rw [hw7,dK];exact sS.out.os
        ·rw [hw7,dK];exact sS.out.tape
        ·rw [hw7,dK];exact sS.out.output
      clear JF Tf pK P5 g7 PY hw7 Ew dK hb6 DF;go_wp2;go_roundw;case rel=>exact HF.out
      case measure=>simp [intOf];omega
     go_simp;refine hK.out _ _ (fun _ _=>S5) (fun hH2=>?_);clear hK KQ hH;have hH:=hH2 (by decide) (by kernel_rfl);clear hH2;try simp only [Act.put,jgq,jgx,jgz]
     refine zD (i:=6) (j:=7) rfl rfl (by kernel_rfl) (fun KQ hK=>?_) (fun KQ hK=>?_)
     ·go_simp;have S6:ji9 ((((w5.setCell ⟨g5,m3*4,none⟩ (.string nm)).setCell ⟨g5,m3*4+1,none⟩ (.string tx)).setCell ⟨g5,m3*4+2,none⟩ (.slice aA nA cA)).setCell ⟨g5,m3*4+3,none⟩ (.slice aK nK cK)) ⟨S,0,none⟩=some (.slice a3 m3 c3)/\ji9 ((((w5.setCell ⟨g5,m3*4,none⟩ (.string nm)).setCell ⟨g5,m3*4+1,none⟩ (.string tx)).setCell ⟨g5,m3*4+2,none⟩ (.slice aA nA cA)).setCell ⟨g5,m3*4+3,none⟩ (.slice aK nK cK)) ⟨q,0,none⟩=some (.string nm)/\ji9 ((((w5.setCell ⟨g5,m3*4,none⟩ (.string nm)).setCell ⟨g5,m3*4+1,none⟩ (.string tx)).setCell ⟨g5,m3*4+2,none⟩ (.slice aA nA cA)).setCell ⟨g5,m3*4+3,none⟩ (.slice aK nK cK)) ⟨q,1,none⟩=some (.string tx)/\ji9 ((((w5.setCell ⟨g5,m3*4,none⟩ (.string nm)).setCell ⟨g5,m3*4+1,none⟩ (.string tx)).setCell ⟨g5,m3*4+2,none⟩ (.slice aA nA cA)).setCell ⟨g5,m3*4+3,none⟩ (.slice aK nK cK)) ⟨q,2,none⟩=some (.slice aA nA cA)/\ji9 ((((w5.setCell ⟨g5,m3*4,none⟩ (.string nm)).setCell ⟨g5,m3*4+1,none⟩ (.string tx)).setCell ⟨g5,m3*4+2,none⟩ (.slice aA nA cA)).setCell ⟨g5,m3*4+3,none⟩ (.slice aK nK cK)) ⟨q,3,none⟩=some (.slice aK nK cK):=show ji9 (gT w5 g5 (m3*4) (.string nm) (.string tx) (.slice aA nA cA) (.slice aK nK cK)) ⟨S,0,none⟩=some (.slice a3 m3 c3)/\ji9 (gT w5 g5 (m3*4) (.string nm) (.string tx) (.slice aA nA cA) (.slice aK nK cK)) ⟨q,0,none⟩=some (.string nm)/\ji9 (gT w5 g5 (m3*4) (.string nm) (.string tx) (.slice aA nA cA) (.slice aK nK cK)) ⟨q,1,none⟩=some (.string tx)/\ji9 (gT w5 g5 (m3*4) (.string nm) (.string tx) (.slice aA nA cA) (.slice aK nK cK)) ⟨q,2,none⟩=some (.slice aA nA cA)/\ji9 (gT w5 g5 (m3*4) (.string nm) (.string tx) (.slice aA nA cA) (.slice aK nK cK)) ⟨q,3,none⟩=some (.slice aK nK cK) from ⟨Ah S5.1 y8,Ah S5.2.1 hqg,Ah S5.2.2.1 hqg,Ah S5.2.2.2.1 hqg,Ah S5.2.2.2.2 hqg⟩
      have z6:=S6.1;have Cn:aG S (.slice a3 m3 c3) 34 ((((w5.setCell ⟨g5,m3*4,none⟩ (.string nm)).setCell ⟨g5,m3*4+1,none⟩ (.string tx)).setCell ⟨g5,m3*4+2,none⟩ (.slice aA nA cA)).setCell ⟨g5,m3*4+3,none⟩ (.slice aK nK cK)):=(Mq w5 g5 (m3*4) (.string nm) (.string tx) (.slice aA nA cA) (.slice aK nK cK) S y8).trans BX5.out;have zf:=Cn.free;refine hK.out _ _ (fun _ _=>S6) (fun hH2=>?_);clear hK KQ hH;have hH:=hH2 (by decide) (by kernel_rfl);clear hH2;try simp only [Act.put,jgq,jgx,jgz]
      refine q01 (i:=7) rfl (by kernel_rfl) (fun KQ hK=>?_);go_simp;refine hK.out _ _ (fun h=>absurd rfl h) (fun _=>?_);clear hK KQ hH;try simp only [Act.put,jgq,jgx,jgz]
      refine uj (by kernel_rfl) ?_ _;clear S6 z6 Cn zf;clear S5 y0 y1 y2 y3 yf u0 u1 u2 u3 uf wR z5 t0 t1 t2 t3;have JF:=U5.out.JE Mt.out (.string nm) (.string tx) (.slice aA nA cA) (.slice aK nK cK) (d1:=(Nd.mk nm tx XA XK).d) (Rd.keep (fun b hb hlt=>⟨⟨.inr (by have:=zC.out;have:=mX.out;omega),(fun e=>by subst e;have:=ZN.out;omega),by omega⟩,(sS.out.block b (by simp;omega) (fun e=>by have:=qW.out b e.symm;have:=ZN.out;omega)).trans (jhk w3 _ b hlt)⟩) _ _ NR3.out);obtain ⟨w6,dK⟩:∃ w6,w6=gT w5 g5 (m3*4) (.string nm) (.string tx) (.slice aA nA cA) (.slice aK nK cK):=⟨_,rfl⟩;have hb6:∀ b,b≠g5->w6.heap[b]?=w5.heap[b]?:=fun b hb=>by rw [dK];exact Mq _ _ _ _ _ _ _ b hb
      have Ew:aG S (.slice a3 m3 c3) 34 w6:=(hb6 S y8).trans BX5.out;rw [<- dK] at JF;have wS:=dK;simp only [gT] at wS;rw [<- wS];clear wS;have Vd:w6.heap.size=w5.heap.size:=by rw [dK];simp [gT,jij]
      obtain ⟨w7,hw7⟩:∃ w7,w7=w6.setCell ⟨S,0,none⟩ (.slice (some ⟨g5,0,none⟩) (m3+1) c5):=⟨_,rfl⟩;rw [<- hw7];have PY:aG S (.slice (some ⟨g5,0,none⟩) (m3+1) c5) 34 w7:=by rw [hw7];exact Ew.set _
      have g7:w6.grownBy w7 (some S):=by rw [hw7];exact ⟨rfl,rfl,rfl,by simp [jij],fun b _ hb=>jhj w6 ⟨S,0,none⟩ _ b (fun e=>hb (by rw [e]))⟩
      have hz7:w7.heap.size=w6.heap.size:=by rw [hw7];simp [jij]
      obtain ⟨PZ,P5,pK⟩:=JF.hop2 (p:=S) (by have:=zC.out;have:=mX.out;omega) g7;have DF:∀ b,b<w3.heap.size->b≠S->b≠g5->(∀ g,(Value.slice a3 m3 c3).ownBlock=some g->b≠g)->w7.heap[b]?=w3.heap[b]?:=fun b h1 h2 h3 h4=>
       (g7.block b (by omega) (fun e=>h2 (Option.some.inj e))).trans ((hb6 b h3).trans ((sS.out.block b (by simp;omega) (fun e=>h4 b e.symm rfl)).trans (jhk w3 _ b h1)))
      have Tf:aI 43 4 (fun _=>False) w7.heap.size PZ ((fT (N.take (k+1))).1.map Nd.d) (bY++[[.string nm,.string tx,.slice aA nA cA,.slice aK nK cK]]) (.slice (some ⟨g5,0,none⟩) (m3+1) c5) w7:=by rw [Cj.out];show aI _ _ _ _ _ (List.map Nd.d (P.1++bI P.2++[.mk nm tx XA XK])) _ _ _;rw [ji2];exact pK.up (by omega) (jh2 _)
      have HF:Hid (sQ S w N (.int .i64 ((k+1:Nat):Int)) w7):=by
       refine ⟨k+1,_,.slice (some ⟨g5,0,none⟩) (m3+1) c5,w7.heap.size,PZ,by rw [Eu.out];omega,rfl,P5.trans (zC.out.trans mX.out),Tf,PY,?_,?_⟩
       ·rw [Cj.out];exact Cm.out.Cg (DF (S+1) (by have:=Cm.out.lt;exact this) (by omega) (by omega) (fun g hg=>by have:=(qW.out g hg).1;omega)) (by have:=Cm.out.lt;omega)
       ·refine eY.out.trans ((BN.out.mono hSr).trans (HB3.out.trans ⟨?_,?_,?_,by omega,fun b hb=>DF b (by omega) (by omega) (by omega) (fun g hg=>by have:=(qW.out g hg).1;omega)⟩))
        ·rw [hw7,dK];exact sS.out.os
        ·rw [hw7,dK];exact sS.out.tape
        ·rw [hw7,dK];exact sS.out.output
      clear JF Tf pK P5 g7 PY hw7 Ew dK hb6 DF;go_wp2;go_roundw;case rel=>exact HF.out
      case measure=>simp [intOf];omega
     ·go_simp;refine hK.out _ _ (fun h=>absurd rfl h) (fun _=>?_);clear hK KQ hH;try simp only [Act.put,jgq,jgx,jgz]
      refine q01 (i:=6) rfl (by kernel_rfl) (fun KQ hK=>?_);go_simp;refine hK.out _ _ (fun _ h=>absurd h (by decide)) (fun _=>?_);clear hK KQ;try simp only [Act.put,jgq,jgx,jgz]
      refine uj (by kernel_rfl) ?_ _;have hsw:=Mr w5 S g5 (m3*4) (.slice (some ⟨g5,0,none⟩) (m3+1) c5) (.string nm) (.string tx) (.slice aA nA cA) (.slice aK nK cK) y8;simp only [gT] at hsw;rw [hsw];clear hsw;clear S5 y0 y1 y2 y3 yf u0 u1 u2 u3 uf wR z5 t0 t1 t2 t3;have JF:=U5.out.JE Mt.out (.string nm) (.string tx) (.slice aA nA cA) (.slice aK nK cK) (d1:=(Nd.mk nm tx XA XK).d) (Rd.keep (fun b hb hlt=>⟨⟨.inr (by have:=zC.out;have:=mX.out;omega),(fun e=>by subst e;have:=ZN.out;omega),by omega⟩,(sS.out.block b (by simp;omega) (fun e=>by have:=qW.out b e.symm;have:=ZN.out;omega)).trans (jhk w3 _ b hlt)⟩) _ _ NR3.out);obtain ⟨w6,dK⟩:∃ w6,w6=gT w5 g5 (m3*4) (.string nm) (.string tx) (.slice aA nA cA) (.slice aK nK cK):=⟨_,rfl⟩;have hb6:∀ b,b≠g5->w6.heap[b]?=w5.heap[b]?:=fun b hb=>by rw [dK];exact Mq _ _ _ _ _ _ _ b hb
      have Ew:aG S (.slice a3 m3 c3) 34 w6:=(hb6 S y8).trans BX5.out;rw [<- dK] at JF;have wS:=dK;simp only [gT] at wS;rw [<- wS];clear wS;have Vd:w6.heap.size=w5.heap.size:=by rw [dK];simp [gT,jij]
      obtain ⟨w7,hw7⟩:∃ w7,w7=w6.setCell ⟨S,0,none⟩ (.slice (some ⟨g5,0,none⟩) (m3+1) c5):=⟨_,rfl⟩;rw [<- hw7];have PY:aG S (.slice (some ⟨g5,0,none⟩) (m3+1) c5) 34 w7:=by rw [hw7];exact Ew.set _
      have g7:w6.grownBy w7 (some S):=by rw [hw7];exact ⟨rfl,rfl,rfl,by simp [jij],fun b _ hb=>jhj w6 ⟨S,0,none⟩ _ b (fun e=>hb (by rw [e]))⟩
      have hz7:w7.heap.size=w6.heap.size:=by rw [hw7];simp [jij]
      obtain ⟨PZ,P5,pK⟩:=JF.hop2 (p:=S) (by have:=zC.out;have:=mX.out;omega) g7;have DF:∀ b,b<w3.heap.size->b≠S->b≠g5->(∀ g,(Value.slice a3 m3 c3).ownBlock=some g->b≠g)->w7.heap[b]?=w3.heap[b]?:=fun b h1 h2 h3 h4=>
       (g7.block b (by omega) (fun e=>h2 (Option.some.inj e))).trans ((hb6 b h3).trans ((sS.out.block b (by simp;omega) (fun e=>h4 b e.symm rfl)).trans (jhk w3 _ b h1)))
      have Tf:aI 43 4 (fun _=>False) w7.heap.size PZ ((fT (N.take (k+1))).1.map Nd.d) (bY++[[.string nm,.string tx,.slice aA nA cA,.slice aK nK cK]]) (.slice (some ⟨g5,0,none⟩) (m3+1) c5) w7:=by rw [Cj.out];show aI _ _ _ _ _ (List.map Nd.d (P.1++bI P.2++[.mk nm tx XA XK])) _ _ _;rw [ji2];exact pK.up (by omega) (jh2 _)
      have HF:Hid (sQ S w N (.int .i64 ((k+1:Nat):Int)) w7):=by
       refine ⟨k+1,_,.slice (some ⟨g5,0,none⟩) (m3+1) c5,w7.heap.size,PZ,by rw [Eu.out];omega,rfl,P5.trans (zC.out.trans mX.out),Tf,PY,?_,?_⟩
       ·rw [Cj.out];exact Cm.out.Cg (DF (S+1) (by have:=Cm.out.lt;exact this) (by omega) (by omega) (fun g hg=>by have:=(qW.out g hg).1;omega)) (by have:=Cm.out.lt;omega)
       ·refine eY.out.trans ((BN.out.mono hSr).trans (HB3.out.trans ⟨?_,?_,?_,by omega,fun b hb=>DF b (by omega) (by omega) (by omega) (fun g hg=>by have:=(qW.out g hg).1;omega)⟩))
        ·rw [hw7,dK];exact sS.out.os
        ·rw [hw7,dK];exact sS.out.tape
        ·rw [hw7,dK];exact sS.out.output
      clear JF Tf pK P5 g7 PY hw7 Ew dK hb6 DF;go_wp2;go_roundw;case rel=>exact HF.out
      case measure=>simp [intOf];omega
   ·have hkl:k=l.length:=by omega
    subst hkl;have hPN:P=fT N:=by rw [HP.out,ji4 (by rw [Eu.out];exact jh2 _)]
    have FC:=Aj S U P.2.data.toList P.1 rows (.slice av m cv) wr wr wB (by have:=mX.out;omega) aV.out kK.out jD.out (jh1 _ _) (by rw [Qv.out];omega);rw [Ck,hPN,<- dn.out] at FC;have FL:=hid FC;clear FC;go_wp2_with fail
    (with_reducible refine FL.out.mono ?_)
    rintro e w3 ⟨rfl,bY,v3,wB3,Va,hrow3,KO,Qw,uV,hkp3,hb3⟩;have x0:=KO.cell;have HF:Hid (bM w (dD l) (.returned v3) w3):=by
     refine ⟨bY,v3,rfl,hrow3.nO ?_ ?_⟩
     ·have:=M8.out;have:=mX.out;omega
     ·rw [<- M8.out];exact hbel.trans hb3
    clear hrow3 Qw hb3 uV hkp3 FL;go_wp2;go_ret;exact HF.out
open Go.RowKit
theorem KR (n:ByteArray) (a1 a2:Option Addr) (n1 n2 c1 c2:Nat) (w:jk3) : Calls Tryz.prog 63 #[.string n,.slice a1 n1 c1,.slice a2 n2 c2] w fun e w'=>e=.returned (.agg #[.string n,.string ⟨#[]⟩,.slice a1 n1 c1,.slice a2 n2 c2])/\Below w.heap.size w w':=by go_enter Tryz.func63,Tryz.ntmps63;go_wp2;exact bodyPost_ret (v:=.agg #[.string n,.string ⟨#[]⟩,.slice a1 n1 c1,.slice a2 n2 c2]) (by simp [results,Tryz.results63,go_sem]) rfl ⟨rfl,(jh1 _ _).alloc (jh2 _) _⟩
theorem iq (s:ByteArray) (w:jk3):Calls Tryz.prog 117 #[.string s] w (bM w (bI s)):=by
 by_cases hs:aT s=true
 ·have q1:s.toList.isEmpty=true:=by rw [Ms];exact hs
  have E:Hid (bI s=[]):=by show _=_;unfold bI;rw [if_pos hs]
  clear hs;go_enter Tryz.func117,Tryz.ntmps117;go_wp2;go_ret;rw [E.out];exact bM.nil w w (jh1 _ _)
 ·have q1:s.toList.isEmpty=false:=by rw [Ms];simpa using hs
  have E:Hid (bI s=[zF s]):=by show _=_;unfold bI;rw [if_neg hs]
  clear hs;go_enter Tryz.func117,Tryz.ntmps117;go_wp2;go_ret;rw [E.out];exact ⟨_,_,rfl,aI.one (r:=[.string ⟨#[]⟩,.string s,.slice none 0 0,.slice none 0 0]) rfl (Nd.fJ ⟨#[]⟩ s ⟨Rd.ay _ _ _,Rd.ay _ _ _⟩)⟩
theorem jy (k s:ByteArray) (w:jk3):Calls Tryz.prog 64 #[.string k,.string s] w (aR w (dF k s)):=by
 by_cases hs:aT s=true
 ·have q1:s.toList.isEmpty=true:=by rw [Ms];exact hs
  have E:Hid (dF k s=[]):=by show _=_;unfold dF;rw [if_pos hs]
  clear hs;go_enter Tryz.func64,Tryz.ntmps64;go_wp2;go_ret;rw [E.out];exact aR.nil w w (jh1 _ _)
 ·have q1:s.toList.isEmpty=false:=by rw [Ms];simpa using hs
  have E:Hid (dF k s=[⟨k,s⟩]):=by show _=_;unfold dF;rw [if_neg hs]
  clear hs;go_enter Tryz.func64,Tryz.ntmps64;go_wp2;go_ret;rw [E.out];exact ⟨_,_,rfl,aI.one (r:=[.string k,.string s]) rfl (Pr.fJ _ _ ⟨k,s⟩)⟩
theorem Ak (m:ByteArray) (l:List ByteArray) (k:Nat) (x:ByteArray) (h:l[k]?=some x):kU m (l.take (k+1))=(if aT (kU m (l.take k))=true then kU m (l.take k) else kU m (l.take k)++GR)++x:=by unfold kU;rw [List.take_add_one,h,List.foldl_append];rfl
theorem Ey (m:ByteArray):∀ (l:List ByteArray) (n:Nat),(∀ x∈l,x.size<=n)->∀ k,(kU m (l.take k)).size<=m.size+k*(n+1)
 | l,n,h,0=>by simp [kU]
 | l,n,h,k+1=>by
  have ih:=Ey m l n h k;by_cases hk:k<l.length
  ·rw [Ak m l k l[k] (jh0 hk)];have hx:=h l[k] (List.getElem_mem hk);have e:GR.size=1:=rfl;split
   ·rw [ByteArray.size_append,Nat.add_mul];omega
   ·rw [ByteArray.size_append,ByteArray.size_append,Nat.add_mul];omega
  ·rw [ji4 (by omega)];rw [ji4 (by omega)] at ih;rw [Nat.add_mul];omega
def Tg (m:ByteArray) (l:List ByteArray) (vc vi:jk5):Prop:=∃ k:Nat,k<=l.length/\vi=.int .i64 k/\vc=.string (kU m (l.take k))
theorem wT (a:At) (m:ByteArray) (vc vp:jk5) (w:jk3) (hR:AtR (·<w.heap.size) w a vc vp) (hl:a.cls.length<=100) (hc:∀ c∈a.cls,c.size<=1000) (hm:m.size<=1000) (hne:∀ c∈a.cls,aT c=false) : Calls Tryz.prog 155 #[.agg #[.string a.id,vc,vp],.string m] w (aR w (q0z a (if aT m=true then [] else [m]))):=by
 obtain ⟨iP,hiP,pq,pE,pF⟩:=info_parts lV;obtain ⟨A,cap,hv,hs⟩:=Rd.aB hR.cls;obtain ⟨n,hn⟩:∃ n,n=a.cls.length:=⟨_,rfl⟩;obtain rfl:vc=.slice A n cap:=by rw [hn];simpa using hv
 have hcap:n<=cap:=by have:=hs.le;rw [jh7] at this;omega
 have hmx:=hs.max;unfold maxLen at hmx;obtain ⟨ap,np,cp,rfl⟩:=Rd.ah hR.aF;have hn1:n<=100:=by omega
 have HB:=hid (Ey m a.cls 1000 hc);obtain ⟨mo,hmo⟩:∃ mo,mo=(if aT m=true then [] else [m]):=⟨_,rfl⟩;have hE:=Nb a m hne;rw [<- hmo] at hE ⊢;have HE:=hid hE;clear hE hmo;have Ve:=hid hs;have HC:=hid hc;have HN:=hid hn;obtain ⟨S,hS⟩:∃ S,S=w.heap.size:=⟨_,rfl⟩;obtain ⟨W1,hW1⟩:∃ W,W=w.alloc (.cells #[.string a.id,.slice A n cap,.slice ap np cp] 27):=⟨_,rfl⟩;have k1:CB 27 S [.string a.id,.slice A n cap,.slice ap np cp] W1:=by rw [hW1,hS];exact CB.new _ _ w
 have b1:Below w.heap.size w W1:=by rw [hW1];exact (jh1 _ _).alloc (jh2 _) _
 have e0:=k1.cell 0 _ rfl;have e1:=k1.cell 1 _ rfl;have R0:Hid (Tg m a.cls (.string m) (.int .i64 0)):=⟨0,Nat.zero_le _,rfl,by rw [List.take_zero];rfl⟩;have HS:=hid hS;have HW1:=hid hW1;have B1:=hid b1;clear hR hl hc hne hv hs hn hS hW1 k1 b1;go_enter Tryz.func155,Tryz.ntmps155;go_upto_region 2 with (fail)
 rw [<- HS.out,<- HW1.out];go_wp2
 go_loop [5,6] (fun v i=>Tg m a.cls v i) (fun _ i=>n-(intOf i).toNat)
 case atStart=>exact R0.out
 case round=>
  clear R0;obtain ⟨k,hk,rfl,rfl⟩:=hrel;obtain ⟨c,hcE⟩:∃ c,c=kU m (a.cls.take k):=⟨_,rfl⟩;have hcs:c.size<=200000:=by have h:=HB.out k;rw [<- hcE] at h;have:k*1001<=100*1001:=Nat.mul_le_mul_right _ (by have:=HN.out;omega);omega
  rw [<- hcE];have HCE:=hid hcE;clear hcE;by_cases hlt:k<n
  ·have hlt2:k<a.cls.length:=by have:=HN.out;omega
   obtain ⟨x,hx⟩:∃ x,a.cls[k]?=some x:=⟨_,jh0 hlt2⟩;obtain ⟨b,off,rfl,-,hbl,hcx⟩:=eF Ve.out hx;have e2:W1.cell? ⟨b,off+k,none⟩=some (.string x):=(B1.out.cell (p:=⟨b,off+k,none⟩) hbl).trans hcx;have hxs:=HC.out x (jhx hx);have HX:=hid (Ak m a.cls k x hx);rw [<- HCE.out] at HX;have qe:=Ms c;clear hcx hx;by_cases hem:aT c=true
   ·have q1:c.toList.isEmpty=true:=by rw [qe];exact hem
    have q3:c.size+x.size<=9223372036854775807:=by omega
    have HX2:Hid (kU m (a.cls.take (k+1))=c++x):=by show _=_;rw [HX.out,if_pos hem]
    clear hem qe;go_wp2
    go_round
    case rel=>exact ⟨k+1,by have:=HN.out;omega,by go_num,by rw [HX2.out]⟩
    case measure=>simp [intOf];omega
   ·have q1:c.toList.isEmpty=false:=by rw [qe];simpa using hem
    have q3:c.size+(⟨#[32]⟩:ByteArray).size<=9223372036854775807:=by have:(⟨#[32]⟩:ByteArray).size=1:=rfl;omega
    have q4:(c++(⟨#[32]⟩:ByteArray)).size+x.size<=9223372036854775807:=by rw [ByteArray.size_append];have:(⟨#[32]⟩:ByteArray).size=1:=rfl;omega
    have HX2:Hid (kU m (a.cls.take (k+1))=c++⟨#[32]⟩++x):=by show _=_;rw [HX.out,if_neg hem];rfl
    have q5:c.size+1<=9223372036854775807:=by omega
    have q6:c.size+1+x.size<=9223372036854775807:=by omega
    have a1:∀ w:jk3,(Op.stringOp .add c (⟨#[32]⟩:ByteArray)).run Tryz.prog w=.ok (.string (c++⟨#[32]⟩)) w:=fun w=>run_string_add_sum w _ _ q3
    have a2:∀ w:jk3,(Op.stringOp .add (c++(⟨#[32]⟩:ByteArray)) x).run Tryz.prog w=.ok (.string (c++⟨#[32]⟩++x)) w:=fun w=>run_string_add_sum w _ _ q4
    clear hem qe q3 q4 q5 q6;go_wp2
    go_round
    case rel=>exact ⟨k+1,by have:=HN.out;omega,by go_num,by rw [HX2.out]⟩
    case measure=>simp [intOf];omega
  ·have hkl:k=a.cls.length:=by have:=HN.out;omega
   have Yi:c=kU m a.cls:=by rw [HCE.out,hkl,List.take_length]
   have jax:=hid Yi;have S1:Hid (Calls Tryz.prog 64 #[.string ⟨#[105,100]⟩,.string a.id] W1 (aR W1 (dF jQ a.id))):=jy jQ a.id W1;have je3:¬ (k<n):=hlt;clear hkl Yi;go_wp2_with fail
   (with_reducible refine S1.out.mono ?_)
   rintro e w2 ⟨bq,v2,rfl,hrow2⟩;obtain ⟨m2,hm2⟩:∃ m,m=(List.map Pr.d (dF jQ a.id)).length:=⟨_,rfl⟩;obtain ⟨a2,c2,rfl,-,-⟩:=hrow2.cap hm2.symm;have jf1:m2<=1:=by rw [hm2];unfold dF;split<;>simp
   have Yj:=hid hm2.symm;have S2:Hid (Calls Tryz.prog 64 #[.string ⟨#[99,108,97,115,115]⟩,.string c] w2 (aR w2 (dF dh c))):=jy dh c w2;have U2:=hid hrow2;clear hrow2 hm2 S1 e0 e1;go_wp2_with fail
   (with_reducible refine S2.out.mono ?_)
   rintro e w3 ⟨bY,v3,rfl,hrow3⟩;obtain ⟨m3,G6⟩:∃ m,m=(List.map Pr.d (dF dh c)).length:=⟨_,rfl⟩;obtain ⟨a3,c3,rfl,-,-⟩:=hrow3.cap G6.symm;have Yg:m3<=1:=by rw [G6];unfold dF;split<;>simp
   have Mt:=hid G6.symm;have b3:=hrow3.aL;have U3:=hid (U2.out.below b3);have X3:=hid (show Rd (fun b=>False\/w2.heap.size<=b) w3 (.sl 2 (List.map Pr.d (dF dh c))) [.slice a3 m3 c3] from hrow3.cu.weaken (fun b hb=>.inr hb));have O1:=hid (fun (rs:List (List jk5)) (ok':Nat->Prop) h=>kV (dF dh c) rs ok' w3 h);clear hrow3 G6 b3 S2;go_wp2_with (at_builtin;refine jX (n:=m2) (m:=m3) rfl _ _ 25 rfl iP _ 32 Tryz.underlying25 hiP pq pE pF rfl (by decide) U3.out (fun _=>False.elim) (.slice a3 m3 c3) X3.out O1.out Yj.out Mt.out (by omega) (by decide) rfl rfl ?_)
   intro a5 c5 kW w5 aH hg5;have HF:Hid (aR w (q0z a mo) (.returned (.slice a5 (m2+m3) c5)) w5):=by have h:=aH.nO (wb:=w) (B1.out.size) (B1.out.trans (aH.aL.mono B1.out.size));rw [<- ji2,jax.out,HE.out] at h;exact ⟨kW,_,rfl,h⟩
   clear aH hg5 U3 X3 O1;go_wp2;go_ret;exact HF.out
end Go.Proofs.YtclikfjalmcoaaaGreatDoor

