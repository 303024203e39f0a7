/- Contract of html.line: the nodes of inlines. Contracts of publisherref34.some, element, texts, attrs, joined. Contract of publisherref34.joined: neighbouring texts are joined. Contracts of slides.block.title, begins and of the function finish of slides.parts. Contract of slides.parts. Contract of html.row: the node of a row of a table. -/
import Derived.Test.YtkfnkeflalcphaaGreatDoorKHtX
import Derived.Test.YtkfnkeflalcphaaGreatDoorKHtF
import Derived.Test.YtkfnkeflalcphaaGreatDoorKScB
set_option maxHeartbeats 8000000
set_option maxRecDepth 100000
open Go.Lib (hid)
namespace Go.Proofs.YtkfnkeflalcphaaGreatDoor
open List renaming setIfInBounds_toArray->jlk,set_cons_zero->jlq,set_cons_succ->jlx,getElem?_eq_getElem->jlz,length_append->jm5,length_map->jm6,length_cons->jm7,mem_of_getElem?->jmq,map_append->jn1,take_of_length_le->jn3
open Go.RowKit.Below renaming refl->jm0,heap_setCell->jm9,heap_alloc->jmj
open Nat renaming le_refl->jm1,le_trans->jm2
open Go.World renaming size_alloc->jmx,cell?->jn8,setCell->jn9
open Go renaming World->jp3,Value->jp5
open Go.RowKit renaming Below->jp4
open Go.RowKit
set_option linter.unusedVariables false
set_option linter.unusedSimpArgs false
theorem Za (x:aj) (h:x.small):x.nd.tx.size<=300:=by
 obtain ⟨k,t,d,ti,a,ar,ci,ks⟩:=x;rw [aj.small] at h;have h1:=h.1;have e0:(⟨#[]⟩:ByteArray).size=0:=rfl;have e1:VG.size=1:=rfl;rw [aj.nd];have key:∀ (c:Prop) [Decidable c] (a b:Nd),a.tx.size<=300->b.tx.size<=300->(if c then a else b).tx.size<=300:=by
  intro c _ a b h1 h2;split
  ·exact h1
  ·exact h2
 have el:∀ (n:ByteArray) (a:List Pr) (ks:List Nd),(aQ n a ks).tx.size<=300:=fun _ _ _=>by show (⟨#[]⟩:ByteArray).size<=300;omega
 refine key _ _ _ (by show VG.size<=300;omega) ?_;refine key _ _ _ (el _ _ _) (key _ _ _ (el _ _ _) (key _ _ _ (el _ _ _) (key _ _ _ (el _ _ _) (key _ _ _ (el _ _ _) (key _ _ _ (el _ _ _) (key _ _ _ (el _ _ _) (key _ _ _ (el _ _ _) (key _ _ _ (el _ _ _) (key _ _ _ (el _ _ _) (key _ _ _ (el _ _ _) h1))))))))))
theorem aj.oQ:∀ (l:List aj),aj.aF l->∀ x∈l,x.small
 | [],_,x,hx=>by cases hx
 | y::l,h,x,hx=>by
  rw [aj.aF] at h;rcases List.mem_cons.1 hx with rfl | hx
  ·exact h.1
  ·exact aj.oQ l h.2 x hx
theorem Eb:∀ (l:List Nd) (p:List Nd × ByteArray),(l.foldl dY p).1.length<=p.1.length+2*l.length
 | [],p=>by simp
 | x::l,p=>by
  have h:=Eb l (dY p x);have h2:(dY p x).1.length<=p.1.length+2:=by
   unfold dY;split
   ·show p.1.length<=_;omega
   ·show (p.1++bS p.2++[x]).length<=_;rw [jm5,jm5];have:(bS p.2).length<=1:=by unfold bS;split<;>simp
    simp;omega
  rw [List.foldl_cons,jm7];omega
theorem Jb:∀ (l:List Nd) (p:List Nd × ByteArray),(∀ x∈l,x.tx.size<=300)->(l.foldl dY p).2.size<=p.2.size+300*l.length
 | [],p,_=>by simp
 | x::l,p,hx=>by
  have h:=Jb l (dY p x) (fun y hy=>hx y (List.mem_cons_of_mem _ hy));have h1:=hx x (List.mem_cons_self ..);have h2:(dY p x).2.size<=p.2.size+300:=by
   unfold dY;split
   ·show (p.2++x.tx).size<=_;rw [ByteArray.size_append];omega
   ·show (⟨#[]⟩:ByteArray).size<=_;have:(⟨#[]⟩:ByteArray).size=0:=rfl;omega
  rw [List.foldl_cons,jm7];omega
theorem Gj (l:List Nd) (k:Nat) (x:Nd) (h:l[k]?=some x):gG (l.take (k+1))=dY (gG (l.take k)) x:=by rw [List.take_add_one,h];exact Gl _ _
theorem Br (a b:ByteArray):Lib.strCells (a++b)=Lib.strCells a++Lib.strCells b:=by unfold Lib.strCells;rw [ByteArray.data_append];simp
def pI (w:jp3) (g o:Nat) (c0 c1 c2 c3:jp5):jp3:=(((w.setCell ⟨g,o,none⟩ c0).setCell ⟨g,o+1,none⟩ c1).setCell ⟨g,o+2,none⟩ c2).setCell ⟨g,o+3,none⟩ c3
theorem gU (w:jp3) (g o:Nat) (c0 c1 c2 c3:jp5) (b:Nat) (h:b≠g):(pI w g o c0 c1 c2 c3).heap[b]?=w.heap[b]?:=by unfold pI;rw [jm9 _ ⟨g,o+3,none⟩ _ b h,jm9 _ ⟨g,o+2,none⟩ _ b h,jm9 _ ⟨g,o+1,none⟩ _ b h,jm9 _ ⟨g,o,none⟩ _ b h]
theorem jP (w:jp3) (b b' o o':Nat) (u v:jp5) (h:b≠b'):(w.setCell ⟨b,o,none⟩ u).setCell ⟨b',o',none⟩ v=(w.setCell ⟨b',o',none⟩ v).setCell ⟨b,o,none⟩ u:=by
 unfold jn9;simp only [World.mk.injEq,and_true];apply Array.ext_getElem?;intro i;simp only [Array.getElem?_modify];by_cases h1:b=i
 ·subst h1;have hb:¬ b'=b:=fun e=>h e.symm
  simp [hb]
 ·simp [h1]
theorem nM (w:jp3) (S g o:Nat) (V c0 c1 c2 c3:jp5) (h:S≠g):pI (w.setCell ⟨S,0,none⟩ V) g o c0 c1 c2 c3=(pI w g o c0 c1 c2 c3).setCell ⟨S,0,none⟩ V:=by unfold pI;rw [jP w S g,jP _ S g,jP _ S g,jP _ S g]<;>exact h
theorem TG {w:jp3} {g o:Nat} {c0 c1 c2 c3:jp5} {b j:Nat} {v:jp5} (h:w.cell? ⟨b,j,none⟩=some v) (hb:b≠g):(pI w g o c0 c1 c2 c3).cell? ⟨b,j,none⟩=some v:=by rw [iA (gU w g o c0 c1 c2 c3 b hb)];exact h
section
variable {T:TypeId} {U:Nat} {ok:Nat->Prop} {w0 w:jp3} {ds:List D} {rows:List (List jp5)} {v:jp5}
theorem ay.TH {g n c:Nat} {d0 d1:D} {a0 a1 a2 a3:jp5} (h:ay T 4 ok U w0 (ds++[d0]) (rows++[[a0,a1,a2,a3]]) (.slice (some ⟨g,0,none⟩) (n+1) c) w) (hn:ds.length=n) (c0 c1 c2 c3:jp5) (hd:Rd (fun b=>(ok b\/w0.heap.size<=b)/\g≠b/\b<U) w d1 [c0,c1,c2,c3]):ay T 4 ok U w0 (ds++[d1]) (rows++[[c0,c1,c2,c3]]) (.slice (some ⟨g,0,none⟩) (n+1) c) (pI w g (n*4) c0 c1 c2 c3):=by
 have hl:rows.length=n:=by have:=h.red.len;simp at this;omega
 have hfl:rows.flatten.length=n*4:=by rw [ji 4 rows (fun r hr=>h.len r (by simp [hr])),hl]
 have hown:=h.own;have e1:(rows++[[a0,a1,a2,a3]]).flatten=rows.flatten++[a0,a1,a2,a3]:=by simp
 rw [e1,jm5,List.length_singleton,hn] at hown;have st:∀ (W:jp3) (zs:List jp5),W.ownsRow w0.heap.size T 4 (.slice (some ⟨g,0,none⟩) (n+1) c) (n+1) (rows.flatten++zs)->∀ (j:Nat) (u:jp5),(W.setCell ⟨g,n*4+j,none⟩ u).ownsRow w0.heap.size T 4 (.slice (some ⟨g,0,none⟩) (n+1) c) (n+1) (rows.flatten++zs.set j u):=by intro W zs hW j u;have:=(hW.stored (n*4+j) u).1;rw [List.set_append_right _ _ (by omega),hfl,Nat.add_sub_cancel_left] at this;exact this
 have o4:=st _ _ (st _ _ (st _ _ (st _ _ hown 0 c0) 1 c1) 2 c2) 3 c3;have hb:∀ b,b≠g->(pI w g (n*4) c0 c1 c2 c3).heap[b]?=w.heap[b]?:=fun b hb=>gU w g _ _ _ _ _ b hb
 have hz:(pI w g (n*4) c0 c1 c2 c3).heap.size=w.heap.size:=by simp [pI,jn9]
 have hg0:w0.heap.size<=g:=(h.own.lt g rfl).1;refine ⟨?_,?_,?_,?_,h.oU,h.ou,by rw [hz];exact h.sO⟩
 ·rw [show (rows++[[c0,c1,c2,c3]]).flatten=rows.flatten++[c0,c1,c2,c3] by simp,jm5,List.length_singleton,hn];exact o4
 ·obtain ⟨rA,rB,e2,hA,hB⟩:∃ rA rB,rows++[[a0,a1,a2,a3]]=rA++[rB]/\aH (fun b=>(ok b\/w0.heap.size<=b)/\(Value.slice (some ⟨g,0,none⟩) (n+1) c).ownBlock≠some b/\b<U) w ds rA/\True:=by
   refine ⟨rows,_,rfl,?_,trivial⟩;have h0:=h.red;clear st o4 hown;generalize hP:(fun b=>(ok b\/w0.heap.size<=b)/\(Value.slice (some ⟨g,0,none⟩) (n+1) c).ownBlock≠some b/\b<U)=P at h0;have gen:∀ (ds:List D) (rows:List (List jp5)) (d0:D) (r0:List jp5),aH P w (ds++[d0]) (rows++[r0])->rows.length=ds.length->aH P w ds rows:=by
    intro ds;induction ds with
    | nil=>intro rows d0 r0 _ hl;rw [List.eq_nil_of_length_eq_zero hl];exact aH.none
    | cons x ds ih=>
     intro rows d0 r0 hr hl;cases rows with
     | nil=>simp at hl
     | cons r rows=>
      obtain ⟨r',rs,e,h1,h2⟩:=hr.aC;have e':r'=r/\rs=rows++[r0]:=by simp at e;exact ⟨e.1.symm,e.2.symm⟩
      obtain ⟨rfl,rfl⟩:=e';exact aH.cons h1 (ih rows d0 r0 h2 (by simpa using hl))
   exact gen ds rows d0 _ h0 (by omega)
  have e3:rA=rows:=by have:=congrArg List.dropLast e2;simpa using this.symm
  subst e3;refine aH.app (aH.keep (fun b hb' _=>⟨hb',hb b (fun e=>by subst e;exact hb'.2.1 rfl)⟩) _ _ hA) (aH.one (Rd.keep (fun b hb' _=>⟨⟨hb'.1,fun e=>hb'.2.1 (by simpa [Value.ownBlock] using e),hb'.2.2⟩,hb b (fun e=>hb'.2.1 e.symm)⟩) _ _ hd))
 ·intro r hr;rcases List.mem_append.1 hr with hr | hr
  ·exact h.len r (by simp [hr])
  ·simp at hr;subst hr;rfl
 ·have hbel:=h.aI;exact (((hbel.setCell (p:=⟨g,n*4,none⟩) hg0 c0).setCell (p:=⟨g,n*4+1,none⟩) hg0 c1).setCell (p:=⟨g,n*4+2,none⟩) hg0 c2).setCell (p:=⟨g,n*4+3,none⟩) hg0 c3
theorem ay.Jc {g n c:Nat} {d0:D} {a0 a1 a2 a3:jp5} (h:ay T 4 ok U w0 (ds++[d0]) (rows++[[a0,a1,a2,a3]]) (.slice (some ⟨g,0,none⟩) (n+1) c) w) (hn:ds.length=n) : w.cell? ⟨g,n*4,none⟩=some a0/\w.cell? ⟨g,n*4+1,none⟩=some a1/\w.cell? ⟨g,n*4+2,none⟩=some a2/\w.cell? ⟨g,n*4+3,none⟩=some a3/\∀ j,w.frozen? ⟨g,j,none⟩=false:=by
 have hl:rows.length=n:=by have:=h.red.len;simp at this;omega
 have hfl:rows.flatten.length=n*4:=by rw [ji 4 rows (fun r hr=>h.len r (by simp [hr])),hl]
 have hc:∀ i u,[a0,a1,a2,a3][i]?=some u->w.cell? ⟨g,n*4+i,none⟩=some u:=by
  intro i u hu;have:=h.own.cells (g:=g) rfl (n*4+i) u (by
   rw [show (rows++[[a0,a1,a2,a3]]).flatten=rows.flatten++[a0,a1,a2,a3] by simp,List.getElem?_append_right (by omega),hfl,Nat.add_sub_cancel_left];exact hu)
  have e:((⟨g,0,none⟩:Addr).add (n*4+i))=⟨g,n*4+i,none⟩:=by unfold Addr.add;split<;>simp_all
  rwa [e] at this
 refine ⟨hc 0 _ rfl,hc 1 _ rfl,hc 2 _ rfl,hc 3 _ rfl,fun j=>?_⟩;rcases h.own.2 with ⟨h1,-⟩ | ⟨g',cap,cur,h1,-,h2,-⟩
 ·cases h1
 ·injection h1 with h1
  injection h1 with h1
  injection h1 with h1
  subst h1;simp [World.frozen?,h2]
theorem zF {k n:Nat} {ops:Array Oper} {o:Oper} {a:Act} {K:Act->jp3->Prop} {Q:Exit->Act->jp3->Prop} {E:Prop} (hgd:o.guard=none) (s x:Operand) (t:TypeId) (ho:o.op=.call { callee:=.builtin .append,args:=#[s,x],argTypes:=#[t,t] }) (i:TypeInfo) (z:jp5) (bytes:Nat) (ht:Tryz.prog.underlying t=some (.slice T)) (hi:Tryz.prog.info? T=some i) (hz:i.zero=some z) (hsize:i.size=k) (hby:i.bytes=bytes) (hzs:z.cells.size=k) (hsz:0<k) (h:ay T k ok U w0 ds rows v w) (hB:∀ b,ok b->b<w0.heap.size) (d:D) (r:List jp5) (hx:Rd (fun b=>ok b\/U<=b) w d r) (hr:r.length=k) (h1:∀ u∈r,u.oneCell'=true) (hdn:ds.length=n) (hn:n<=10000000) (iG:bytes<=1000) (hs:a.eval s=v) (hxe:a.eval x=.slice (some ⟨w.heap.size,0,none⟩) 1 1) (hK:∀ g c' w',ay T k ok w'.heap.size w0 (ds++[d]) (rows++[r]) (.slice (some ⟨g,0,none⟩) (n+1) c') w'->(w.alloc (.cells r.toArray T)).grownBy w' v.ownBlock->(v.ownBlock=some g\/w.heap.size<g)->n+1<=c'->K (a.put o.dst (.slice (some ⟨g,0,none⟩) (n+1) c')) w') : if Region.wanted o (yielded ops a.tmps)=true then Oper.wp Tryz.prog o a (w.alloc (.cells r.toArray T)) K Q else E:=by
 subst hdn;have hmul:(ds.length+1)*bytes<=140737488355328:=jm2 (Nat.mul_le_mul (show ds.length+1<=10000001 by omega) iG) (by omega);refine step_append_lies _ hgd s x t ho w0.heap.size T i z k bytes ht hi hz hsize hby hzs hsz v ds.length rows.flatten hs (h.own.alloc _) ⟨w.heap.size,0,none⟩ 1 1 r hxe (by omega) (Qd w r T) h1 (by omega) (by unfold maxLen;omega) hmul (by have:=h.aI.size;simp;omega) (w.heap.size+1) (by simp) ?_;intro g cap w' hown hg hat _;have QT:v.ownBlock=some g\/w.heap.size<g:=hat.elim (fun e=>.inl (by rw [e])) (fun e=>.inr (by omega));have hcp:ds.length+1<=cap:=by obtain ⟨g',cap',he,hle⟩:=qh hown (by omega);injection he with _ _ he;omega
 refine hK _ _ w' ?_ hg QT hcp;refine h.put hB (bR:=[r]) (es:=[d]) (aH.one (Rd.keep (fun b hb hlt=>⟨hb,jmj w _ b hlt⟩) _ _ hx)) (by simp [hr]) (World.grownBy_alloc w _ none) (by simpa using hown) hg (hat.elim (fun e=>.inl (by rw [e];rfl)) (fun e=>.inr (by rw [e];simp [Value.ownBlock])))
end
def Bt (S:Nat) (w:jp3) (N:List Nd) (vi:jp5) (wr:jp3):Prop:=
 ∃ (k:Nat) (rows:List (List jp5)) (v:jp5) (U:Nat) (wB:jp3),k<=N.length/\vi=.int .i64 k/\wB.heap.size=S+2/\ay 35 4 (fun _=>False) U wB ((gG (N.take k)).1.map Nd.d) rows v wr /\
  aG S v 28 wr/\Bo (S+1) U (Lib.strCells (gG (N.take k)).2) wr/\jp4 S w wr
theorem MJ {p:Nat} {w:jp3} {c0 c1 c2 c3 c4 c5 c6 c7 c8 c9:jp5} (h:PB p [c0,c1,c2,c3,c4,c5,c6,c7,c8,c9] w) : w.cell? ⟨p,0,none⟩=some c0/\w.cell? ⟨p,1,none⟩=some c1/\w.cell? ⟨p,2,none⟩=some c2/\w.cell? ⟨p,3,none⟩=some c3/\w.cell? ⟨p,4,none⟩=some c4/\w.cell? ⟨p,5,none⟩=some c5 /\ w.cell? ⟨p,6,none⟩=some c6/\w.cell? ⟨p,7,none⟩=some c7/\w.cell? ⟨p,8,none⟩=some c8/\w.cell? ⟨p,9,none⟩=some c9:=
 ⟨h.cell 0 _ rfl,h.cell 1 _ rfl,h.cell 2 _ rfl,h.cell 3 _ rfl,h.cell 4 _ rfl,h.cell 5 _ rfl,h.cell 6 _ rfl,h.cell 7 _ rfl,h.cell 8 _ rfl,h.cell 9 _ rfl⟩
theorem uo.Zb {S:Nat} {w w':jp3} {at_:At} {ar:List ByteArray} {ci:List Ci} {ks:List aj} {vc vp va vi vk:jp5} (h:uo (·<S) w at_ ar ci ks vc vp va vi vk) (hb:jp4 S w w') (hS:S<=w'.heap.size):uo (·<w'.heap.size) w' at_ ar ci ks vc vp va vi vk:=
 have hs:zG (·<S) (·<w'.heap.size) w w':=fun b (h1:b<S) _=>⟨by omega,hb.block b h1⟩
 ⟨⟨Rd.keep hs _ _ h.at_.cls,Rd.keep hs _ _ h.at_.aJ⟩,Rd.keep hs _ _ h.args,Rd.keep hs _ _ h.dG,Rd.keep hs _ _ h.kids⟩
theorem vC (s:ByteArray):s.toList.isEmpty=aZ s:=by rw [Lib.toList_data,Bool.eq_iff_iff,List.isEmpty_iff,aZ,decide_eq_true_iff]
theorem Na {s:ByteArray} (h:aZ s=false):0<s.size:=by
 unfold aZ at h;rw [decide_eq_false_iff_not] at h;have:s.data.toList.length≠0:=fun e=>h (List.eq_nil_of_length_eq_zero e)
 have e2:s.data.toList.length=s.size:=by simp
 omega
theorem Bo.QU {b U U':Nat} {w w':jp3} (h:Bo b U [] w) (hs:w'.heap[b]?=w.heap[b]?) (hU:b<U'):Bo b U' [] w':=
 h.imp (fun ⟨_,v,h2,_,h4⟩=>⟨hU,v,hs.trans h2,by rw [h4 rfl];exact World.ownsRowF_nil _ _ _ _,h4⟩) (fun ⟨_,v,h2,_,h4⟩=>⟨hU,v,hs.trans h2,by rw [h4 rfl];exact World.ownsRowF_nil _ _ _ _,h4⟩)
theorem zw (n:Nat):∀ (l:List aj) (v:jp5) (w:jp3),aj.aR l<=n->n<=1000000->Rd (·<w.heap.size) w (aX l) [v]->aj.aF l->aj.Gm l -> Calls Tryz.prog 78 #[v] w (dw w (kG l)):=by
 induction n using Nat.strongRecOn with
 | _ n ih=>
  intro l v w hn hnm hrd hsm htf;obtain ⟨iN,FH,nW,og,oh⟩:=info_parts mG;obtain ⟨a,cap,hv,hs⟩:=Rd.aB hrd;obtain rfl:v=.slice a l.length cap:=by simpa using hv
  have hcap:l.length<=cap:=by simpa using hs.le
  have hll:=aj.cZ l;have hmx:=hs.max;unfold maxLen at hmx;obtain ⟨N,hN⟩:∃ N,N=aj.Jd l:=⟨_,rfl⟩;have hNl:N.length=l.length:=by rw [hN,qj,jm6]
  have hNt:∀ x∈N,x.tx.size<=300:=by intro x hx;rw [hN,qj] at hx;obtain ⟨y,hy,rfl⟩:=List.mem_map.1 hx;exact Za y (aj.oQ l hsm y hy)
  have hNf:∀ x∈N,x.full:=by rw [hN];exact Ec l htf
  have Zc:kG l=(gG N).1++bS (gG N).2:=by rw [hN];exact Nb l htf
  obtain ⟨S,hS⟩:∃ S,S=w.heap.size:=⟨_,rfl⟩;obtain ⟨W0,hW0⟩:∃ W,W=(w.alloc (.cells #[.slice none 0 0] 28)).alloc (.cells #[.pointer none,.slice none 0 0] 104):=⟨_,rfl⟩;have z0:W0.heap.size=S+2:=by rw [hW0,hS];simp
  have k0:aG S (.slice none 0 0) 28 W0:=by rw [hW0,hS];exact (aG.new w _ _).alloc _
  have k1:W0.heap[S+1]?=some (.cells #[.pointer none,.slice none 0 0] 104 (0,0)):=by
   rw [hW0,hS];have:=heap_alloc_new (w.alloc (.cells #[.slice none 0 0] 28)) (.cells #[.pointer none,.slice none 0 0] 104)
   rwa [jmx] at this
  have b0:jp4 S w W0:=by rw [hW0,hS];exact ((jm0 _ _).alloc (jm1 _) _).alloc (by simp) _
  have R0:Hid (Bt S w N (.int .i64 0) W0):=⟨0,[],_,S+2,W0,Nat.zero_le _,rfl,z0,by rw [<- z0];exact ay.nil _ _ _ _,k0,Bo.new k1 (by omega),b0⟩;have HS:=hid hs;have IH:=hid ih;have jM:=hid hsm;have HTF:=hid htf;have HN:=hid hN;have xQ:=hid hNl;have HNT:=hid hNt;have HNF:=hid hNf;have qW:=hid Zc;have CO:=hid hS;have HW0:=hid hW0;clear hs hv hrd ih hsm htf hN hNl hNt hNf Zc hS hW0 z0 k0 k1 b0;go_enter Tryz.func78,Tryz.ntmps78;go_upto_region 3 with (fail)
  rw [<- CO.out,<- HW0.out];go_wp2
  go_loopw [12] (fun vi wr=>Bt S w N vi wr) (fun i _=>l.length-(intOf i).toNat)
  case atStart=>exact R0.out
  case round=>
   clear R0 HW0;obtain ⟨k,rows,v,U,wB,hk,rfl,TI,hrow,hbx,hbd,hbel⟩:=hrel;rw [xQ.out] at hk;obtain ⟨P,hP⟩:∃ P,P=gG (N.take k):=⟨_,rfl⟩;rw [<- hP] at hrow hbd;obtain ⟨m,hm⟩:∃ m,m=(P.1.map Nd.d).length:=⟨_,rfl⟩;have hm2:m<=2*k:=by
    have h:=Eb (N.take k) ([],⟨#[]⟩);have h2:(N.take k).length<=k:=List.length_take_le _ _;have h3:P.1=((N.take k).foldl dY ([],⟨#[]⟩)).1:=by rw [hP];rfl
    rw [<- h3] at h;rw [hm,jm6];simp at h;omega
   have hpt:P.2.size<=300*k:=by
    have h:=Jb (N.take k) ([],⟨#[]⟩) (fun x hx=>HNT.out x (List.mem_of_mem_take hx));have h2:(N.take k).length<=k:=List.length_take_le _ _;have h3:P.2=((N.take k).foldl dY ([],⟨#[]⟩)).2:=by rw [hP];rfl
    rw [<- h3] at h;have h4:(([]:List Nd),(⟨#[]⟩:ByteArray)).2.size=0:=rfl;omega
   obtain ⟨av,cv,rfl,-,-⟩:=hrow.cap hm.symm;have HM:=hid hm.symm;have HP:=hid hP;have bV:=hid hrow;have kF:=hid hbx;have kE:=hid hbd;have CY:=hid TI;have hUr:=hrow.sO;have hSU:S+2<=U:=by have:=hrow.ou;omega
   have P9:Hid (P.1.length=m):=by show _=_;rw [hm,jm6]
   clear hrow hbx hbd hm hP TI;by_cases hlt:k<l.length
   ·obtain ⟨x,hx⟩:∃ x,l[k]?=some x:=⟨_,jlz hlt⟩;have hNk:N[k]?=some x.nd:=by rw [HN.out,qj,List.getElem?_map,hx];rfl
    have hst:=Gj N k x.nd hNk;rw [<- HP.out] at hst;have hfull:=HNF.out x.nd (jmq hNk);have htx:=HNT.out x.nd (jmq hNk);have hxs:=aj.oQ l jM.out x (jmq hx);have hxt:=Bu l HTF.out x (jmq hx);have hsz:=aj.bg l k _ hx;obtain ⟨X,hX⟩:∃ X,X=x.nd:=⟨_,rfl⟩;rw [<- hX] at hst hfull htx;obtain ⟨kd,t,d,ti,at_,ar,ci,ks⟩:=x;obtain ⟨g,off,vc,vp,va,vi,vk,rfl,hok,hbl,hc,hR⟩:=fJ HS.out hx;obtain ⟨c0,c1,c2,c3,c4,c5,c6,c7,c8,c9⟩:=hc.below (show jp4 w.heap.size w wr by rw [<- CO.out];exact hbel);rw [aj.sz] at hsz;obtain ⟨ac,nc,cc,rfl⟩:=Rd.au hR.at_.cls
    obtain ⟨ap,np,cp,rfl⟩:=Rd.au hR.at_.aJ
    obtain ⟨aa,na,ca,rfl⟩:=Rd.au hR.args;obtain ⟨ai,ni,j5,rfl⟩:=Rd.au hR.dG;obtain ⟨ak,nk,ck,rfl⟩:=Rd.au hR.kids;have HR:Hid (uo (·<S) w at_ ar ci ks (.slice ac nc cc) (.slice ap np cp) (.slice aa na ca) (.slice ai ni j5) (.slice ak nk ck)):=by rw [CO.out];exact hR
    have HST:=hid hst;have HX:=hid hX;have Nc:=hid hfull;have HXS:=hid hxs;have HXT:=hid hxt;have dD:=hid hbel;have hSr:S<=wr.heap.size:=by have:=hbel.size;have:=CO.out;omega
    clear hc hok hbl hR hst hX hfull hxs hxt hNk hx hbel;go_upto_region 7 with (fail)
    obtain ⟨p,hp⟩:∃ p,p=wr.heap.size:=⟨_,rfl⟩;obtain ⟨wA,iL⟩:∃ wA,wA=wr.alloc (.cells #[.int .i64 kd,.string t,.string d,.string ti,.string at_.id,.slice ac nc cc,.slice ap np cp,.slice aa na ca,.slice ai ni j5,.slice ak nk ck] 66):=⟨_,rfl⟩;have PA:PB p [.int .i64 kd,.string t,.string d,.string ti,.string at_.id,.slice ac nc cc,.slice ap np cp,.slice aa na ca,.slice ai ni j5,.slice ak nk ck] wA:=by rw [iL,hp];exact heap_alloc_new wr _
    have bA:jp4 wr.heap.size wr wA:=by rw [iL];exact (jm0 _ _).alloc (jm1 _) _
    rw [<- iL,<- hp];obtain ⟨e0,e1,e2,e3,e4,e5,e6,e7,e8,e9⟩:=MJ PA;have zA:=bA.size;have BA:=hid (dD.out.trans (bA.mono hSr));have HRA:=HR.out.Zb BA.out (by omega);have LC:Ed wA ks (.slice ak nk ck):=fun W hW=>by
     have hsk:=HXS.out;rw [aj.small] at hsk;have htk:=HXT.out;rw [aj.tf] at htk;exact IH.out (aj.aR ks) (by omega) ks _ W (jm1 _) (by omega) (HRA.kids.up hW) hsk.2.2.2.2.2.2.2.2 htk.2
    have IC:=Gn kd t d ti at_ ar ci ks _ _ _ _ _ wA HRA HXS.out LC (by omega)
    rw [<- HX.out] at IC;have IL:=hid IC;have zh:=hid bA;clear iL hp c0 c1 c2 c3 c4 c5 c6 c7 c8 c9 HRA LC IC PA bA;go_wp2_with fail
    (with_reducible refine IL.out.mono ?_)
    rintro e w1 ⟨vA,vK,rfl,hNd,b1⟩;obtain ⟨aA,nA,cA,rfl⟩:=Rd.au hNd.at_
    obtain ⟨aK,nK,cK,rfl⟩:=Rd.au hNd.ks;have HND:=hid hNd;have B1:=hid b1;have z1:=b1.size;clear e0 e1 e2 e3 e4 e5 e6 e7 e8 e9 hNd b1 IL;obtain ⟨nm,tx,XA,XK⟩:=X;dsimp only [Nd.nm,Nd.tx,Nd.at_,Nd.ks] at htx HND;dsimp only [Nd.nm,Nd.tx];go_upto_region 8 with (fail)
    obtain ⟨q,hq⟩:∃ q,q=w1.heap.size:=⟨_,rfl⟩;obtain ⟨wN,Zd⟩:∃ wN,wN=w1.alloc (.cells #[.string nm,.string tx,.slice aA nA cA,.slice aK nK cK] 35):=⟨_,rfl⟩;have KN:CB 35 q [.string nm,.string tx,.slice aA nA cA,.slice aK nK cK] wN:=by rw [Zd,hq];exact CB.new _ _ w1
    have bN:jp4 w1.heap.size w1 wN:=by rw [Zd];exact (jm0 _ _).alloc (jm1 _) _
    have zN:wN.heap.size=q+1:=by rw [Zd,hq];simp
    have hqr:wA.heap.size<=q:=by rw [hq];exact z1
    have HQ:=hid hq;rw [<- Zd,<- hq];have BN:=hid (aP zh.out (aP B1.out bN));have QJ:=hid bN;have f0:=KN.cell 0 _ rfl;have f1:=KN.cell 1 _ rfl;have HKN:=hid KN;have ZN:=hid zN;have hzr:=BN.out.size;clear Zd hq KN bN zN;by_cases hem:aZ nm=true
    ·have q1:nm.toList.isEmpty=true:=by rw [vC];exact hem
     have q2:nm.toList=[]:=by rw [List.isEmpty_iff] at q1;exact q1
     have htp:0<tx.size:=Na (Nc.out hem).2;have yF:Hid (gG (N.take (k+1))=(P.1,P.2++tx)):=by show _=_;rw [HST.out];unfold dY;rw [if_pos (show aZ (Nd.mk nm tx XA XK).nm=true from hem)];rfl
     have WS:=hid (yE (S+1) U (Lib.strCells P.2) tx wN (kE.out.below BN.out) (by rw [Lib.strCells_length];omega) (by omega) htp);clear hem HST Nc;go_wp2_with fail
     (with_reducible refine WS.out.mono ?_)
     rintro e w2 ⟨rfl,Ze,hb2⟩;have hR2:=bV.out.reU (w':=w2) (by have:=hb2.size;omega) (fun b h1 h2=>(hb2.blk b h2 (by have:=CY.out;omega)).trans (BN.out.block b (by omega)));obtain ⟨wB2,Bv,hrow2⟩:=hR2;have HF:Hid (Bt S w N (.int .i64 ((k+1:Nat):Int)) w2):=by
      refine ⟨k+1,rows,.slice av m cv,U,wB2,by rw [xQ.out];omega,rfl,Bv.trans CY.out,?_,?_,?_,?_⟩
      ·rw [yF.out];exact hrow2
      ·exact (hb2.blk S (by omega) (by omega)).trans ((BN.out.block S (by omega)).trans kF.out)
      ·rw [yF.out,Br];exact Ze
      ·exact dD.out.trans ((BN.out.mono hSr).trans (hb2.below (by omega) (by omega)))
     clear Ze hb2 Bv hrow2 WS f0 f1 q1 q2;go_wp2;go_roundw;case rel=>exact HF.out
     case measure=>simp [intOf];omega
    ·have q1:nm.toList.isEmpty=false:=by rw [vC];simpa using hem
     have yF:Hid (gG (N.take (k+1))=(P.1++bS P.2++[.mk nm tx XA XK],⟨#[]⟩)):=by show _=_;rw [HST.out];unfold dY;rw [if_neg (show ¬ aZ (Nd.mk nm tx XA XK).nm=true from hem)]
     have FC:=zD S U P.2.data.toList P.1 rows (.slice av m cv) wr wN wB (by have:=CY.out;omega) bV.out kF.out kE.out BN.out (by rw [P9.out];omega);rw [Bn] at FC;have FL:=hid FC;clear hem HST Nc FC;go_wp2_with fail
     (with_reducible refine FL.out.mono ?_)
     rintro e w3 ⟨rfl,dM,v3,wB3,VJ,hrow3,Kq,QV,vI,hkp3,hb3⟩;obtain ⟨m3,PV⟩:∃ m,m=(List.map Nd.d (P.1++bS P.2)).length:=⟨_,rfl⟩;have jf2:m3<=m+1:=by
      rw [PV,jm6,jm5,P9.out];have:(bS P.2).length<=1:=by unfold bS;split<;>simp
      omega
     obtain ⟨a3,c3,rfl,hc3,jf3⟩:=hrow3.cap PV.symm;unfold maxLen at jf3;have Yf:=hid PV.symm;have U3:=hid hrow3.drew;have Yg:CB 35 q [.string nm,.string tx,.slice aA nA cA,.slice aK nK cK] w3:=(hkp3 q (by omega) (by have:=ZN.out;omega)).trans HKN.out;have NR3:Hid (Rd (fun b=>wA.heap.size<=b/\b<q) w3 (Nd.mk nm tx XA XK).d [.string nm,.string tx,.slice aA nA cA,.slice aK nK cK]):=
      Nd.eH nm tx (HND.out.keep (fun b (h1:wA.heap.size<=b) h2=>⟨⟨h1,by rw [HQ.out];exact h2⟩,(hkp3 b (by omega) (by have:=ZN.out;have:=HQ.out;omega)).trans (QJ.out.block b h2)⟩))
     have S0:w3.drew.cell? ⟨S,0,none⟩=some (.slice a3 m3 c3)/\w3.drew.cell? ⟨q,0,none⟩=some (.string nm)/\w3.drew.cell? ⟨q,1,none⟩=some (.string tx)/\w3.drew.cell? ⟨q,2,none⟩=some (.slice aA nA cA)/\w3.drew.cell? ⟨q,3,none⟩=some (.slice aK nK cK):=⟨Kq.cell,Yg.cell 0 _ rfl,Yg.cell 1 _ rfl,Yg.cell 2 _ rfl,Yg.cell 3 _ rfl⟩;have hov:∀ g,(Value.slice a3 m3 c3).ownBlock=some g->S+2<=g/\(g<wr.heap.size\/wN.heap.size<=g):=fun g hg=>⟨by have:=(hrow3.own.lt g hg).1;have:=CY.out;omega,vI g hg⟩
     have xP:=hid hov;have jf4:=hid Kq;have VK:=hid QV;have HB3:=hid hb3;have QW:=hid VJ;have Zf:=hid Yg;have hz3:=hb3.size;have jf5:S<w3.heap.size:=Kq.lt;clear PV hrow3 Kq QV hb3 VJ vI hkp3 Yg hov FL f0 f1 q1;go_upto_region 11 with (fail)
     refine QX 7 (fun w'=>w'.cell? ⟨S,0,none⟩=some (.slice a3 m3 c3)/\w'.cell? ⟨q,0,none⟩=some (.string nm)/\w'.cell? ⟨q,1,none⟩=some (.string tx)/\w'.cell? ⟨q,2,none⟩=some (.slice aA nA cA)/\w'.cell? ⟨q,3,none⟩=some (.slice aK nK cK)) (by kernel_rfl) S0 ?_;intro hH;refine ig 0 (v:=?_) rfl (by kernel_rfl) hH (by rfl) ?_ ?_;rotate_left
     ·(intro wv hSw;(try dsimp only at hSw);go_simp;try with_reducible rfl)
     try simp only [Act.put,jlk,jlq,jlx]
     refine ig 1 (v:=?_) rfl (by kernel_rfl) hH (by rfl) ?_ ?_;rotate_left
     ·(intro wv hSw;(try dsimp only at hSw);go_simp;try with_reducible rfl)
     try simp only [Act.put,jlk,jlq,jlx]
     refine ig 2 (v:=?_) rfl (by kernel_rfl) hH (by rfl) ?_ ?_;rotate_left
     ·(intro wv hSw;(try dsimp only at hSw);go_simp;try with_reducible rfl)
     try simp only [Act.put,jlk,jlq,jlx]
     refine q01 (i:=3) rfl (by kernel_rfl) (fun KQ hK=>?_);go_simp;refine hK.out _ _ (fun _ _=>⟨past S0.1 _,past S0.2.1 _,past S0.2.2.1 _,past S0.2.2.2.1 _,past S0.2.2.2.2 _⟩) (fun hH2=>?_);clear hK KQ hH;have hH:=hH2 (by decide) (by kernel_rfl);clear hH2;try simp only [Act.put,jlk,jlq,jlx]
     refine q01 (i:=4) rfl (by kernel_rfl) (fun KQ hK=>?_);refine zF rfl (.tmp 26) (.tmp 29) 28 rfl iN _ 80 Tryz.underlying28 FH nW og oh rfl (by decide) U3.out (fun _=>False.elim) (Nd.mk ⟨#[]⟩ ⟨#[]⟩ [] []).d [.string ⟨#[]⟩,.string ⟨#[]⟩,.slice none 0 0,.slice none 0 0] (Nd.eH ⟨#[]⟩ ⟨#[]⟩ ⟨Rd.aD _ _ _,Rd.aD _ _ _⟩) rfl jO Yf.out (by omega) (by decide) rfl rfl ?_;intro g5 c5 w5 bK hg5 Bw I9;have hgS:S+2<=g5/\g5≠q/\(g5<wr.heap.size\/wN.heap.size<=g5):=by
      have hz9:w3.drew.heap.size=w3.heap.size:=rfl;rcases Bw with h | h
      ·have:=xP.out g5 h;have:=ZN.out;omega
      ·have:=ZN.out;omega
     have yG:∀ b,b=S\/b=q->some b≠(Value.slice a3 m3 c3).ownBlock:=fun b hb e=>by
      have:=xP.out b e.symm;have:=ZN.out;omega
     have S5:w5.cell? ⟨S,0,none⟩=some (.slice a3 m3 c3)/\w5.cell? ⟨q,0,none⟩=some (.string nm)/\w5.cell? ⟨q,1,none⟩=some (.string tx)/\w5.cell? ⟨q,2,none⟩=some (.slice aA nA cA)/\w5.cell? ⟨q,3,none⟩=some (.slice aK nK cK):=⟨(World.grownBy.cell_far hg5 ⟨S,0,none⟩ (by simp;omega) (yG S (.inl rfl))).trans (past S0.1 _),(World.grownBy.cell_far hg5 ⟨q,0,none⟩ (by simp;have:=ZN.out;omega) (yG q (.inr rfl))).trans (past S0.2.1 _),(World.grownBy.cell_far hg5 ⟨q,1,none⟩ (by simp;have:=ZN.out;omega) (yG q (.inr rfl))).trans (past S0.2.2.1 _),(World.grownBy.cell_far hg5 ⟨q,2,none⟩ (by simp;have:=ZN.out;omega) (yG q (.inr rfl))).trans (past S0.2.2.2.1 _),(World.grownBy.cell_far hg5 ⟨q,3,none⟩ (by simp;have:=ZN.out;omega) (yG q (.inr rfl))).trans (past S0.2.2.2.2 _)⟩;obtain ⟨y0,y1,y2,y3,yf⟩:=bK.Jc Yf.out;have t0:(0:Int)<=(m3:Int):=by omega
     have t1:(m3:Int)<((m3+1:Nat):Int):=by omega
     have t2:(m3:Int)<(m3:Int)+1:=by omega
     have t3:m3<m3+1:=by omega
     have U5:=hid bK;have TJ:=hid hg5;have hz5:w3.heap.size+1<=w5.heap.size:=by have:=hg5.size;simp at this;exact this
     have TK:S≠g5:=by omega
     have hqg:q≠g5:=fun e=>hgS.2.1 e.symm
     have QY:aG S (.slice a3 m3 c3) 28 w5:=(hg5.block S (by simp;omega) (yG S (.inl rfl))).trans ((jmj w3 _ S jf5).trans jf4.out);have Zg:=QY.free;have z5:=QY.cell;obtain ⟨wZ,Zh,sQ⟩:=bK.hop2 (p:=S) (by have:=QW.out;have:=CY.out;omega) (show w5.grownBy (w5.setCell ⟨S,0,none⟩ (.slice (some ⟨g5,0,none⟩) (m3+1) c5)) (some S) from ⟨rfl,rfl,rfl,by simp [jn9],fun b _ hb=>jm9 w5 ⟨S,0,none⟩ _ b (fun e=>hb (by rw [e]))⟩);obtain ⟨u0,u1,u2,u3,uf⟩:=sQ.Jc Yf.out;have BX5:=hid QY;clear sQ Zh QY bK hg5 Bw yG S0;refine hK.out _ _ (fun _ _=>S5) (fun hH2=>?_);clear hK KQ hH;have hH:=hH2 (by decide) (by kernel_rfl);clear hH2;try simp only [Act.put,jlk,jlq,jlx]
     apply TM;case hm=>
      intro REST;refine xR (i:=5) (j:=7) rfl rfl (by kernel_rfl) (fun KQ hK=>?_) (fun KQ hK=>?_);rotate_left
      ·go_simp;refine hK.out _ _ (fun h=>absurd rfl h) (fun _=>?_);clear hK KQ;try simp only [Act.put,jlk,jlq,jlx]
       refine q01 (i:=5) rfl (by kernel_rfl) (fun KQ hK=>?_);go_simp;refine hK.out _ _ (fun _ h=>absurd h (by decide)) (fun _=>?_);clear hK KQ;try simp only [Act.put,jlk,jlq,jlx]
       refine q01 (i:=6) rfl (by kernel_rfl) (fun KQ hK=>?_);go_simp;refine hK.out _ _ (fun _ h=>absurd h (by decide)) (fun _=>?_);clear hK KQ;try simp only [Act.put,jlk,jlq,jlx]
       refine Gp (by kernel_rfl) ?_ _;have hsw:=nM w5 S g5 (m3*4) (.slice (some ⟨g5,0,none⟩) (m3+1) c5) (.string nm) (.string tx) (.slice aA nA cA) (.slice aK nK cK) TK;simp only [pI] at hsw;rw [hsw];clear hsw;exact REST
      go_simp;refine hK.out _ _ (fun _ _=>S5) (fun hH2=>?_);clear hK KQ;have hH:=hH2 (by decide) (by kernel_rfl);clear hH2;try simp only [Act.put,jlk,jlq,jlx]
      refine xR (i:=6) (j:=7) rfl rfl (by kernel_rfl) (fun KQ hK=>?_) (fun KQ hK=>?_)
      ·go_simp;have S6:jn8 ((((w5.setCell ⟨g5,m3*4,none⟩ (.string nm)).setCell ⟨g5,m3*4+1,none⟩ (.string tx)).setCell ⟨g5,m3*4+2,none⟩ (.slice aA nA cA)).setCell ⟨g5,m3*4+3,none⟩ (.slice aK nK cK)) ⟨S,0,none⟩=some (.slice a3 m3 c3)/\jn8 ((((w5.setCell ⟨g5,m3*4,none⟩ (.string nm)).setCell ⟨g5,m3*4+1,none⟩ (.string tx)).setCell ⟨g5,m3*4+2,none⟩ (.slice aA nA cA)).setCell ⟨g5,m3*4+3,none⟩ (.slice aK nK cK)) ⟨q,0,none⟩=some (.string nm)/\jn8 ((((w5.setCell ⟨g5,m3*4,none⟩ (.string nm)).setCell ⟨g5,m3*4+1,none⟩ (.string tx)).setCell ⟨g5,m3*4+2,none⟩ (.slice aA nA cA)).setCell ⟨g5,m3*4+3,none⟩ (.slice aK nK cK)) ⟨q,1,none⟩=some (.string tx)/\jn8 ((((w5.setCell ⟨g5,m3*4,none⟩ (.string nm)).setCell ⟨g5,m3*4+1,none⟩ (.string tx)).setCell ⟨g5,m3*4+2,none⟩ (.slice aA nA cA)).setCell ⟨g5,m3*4+3,none⟩ (.slice aK nK cK)) ⟨q,2,none⟩=some (.slice aA nA cA)/\jn8 ((((w5.setCell ⟨g5,m3*4,none⟩ (.string nm)).setCell ⟨g5,m3*4+1,none⟩ (.string tx)).setCell ⟨g5,m3*4+2,none⟩ (.slice aA nA cA)).setCell ⟨g5,m3*4+3,none⟩ (.slice aK nK cK)) ⟨q,3,none⟩=some (.slice aK nK cK):=show jn8 (pI w5 g5 (m3*4) (.string nm) (.string tx) (.slice aA nA cA) (.slice aK nK cK)) ⟨S,0,none⟩=some (.slice a3 m3 c3)/\jn8 (pI w5 g5 (m3*4) (.string nm) (.string tx) (.slice aA nA cA) (.slice aK nK cK)) ⟨q,0,none⟩=some (.string nm)/\jn8 (pI w5 g5 (m3*4) (.string nm) (.string tx) (.slice aA nA cA) (.slice aK nK cK)) ⟨q,1,none⟩=some (.string tx)/\jn8 (pI w5 g5 (m3*4) (.string nm) (.string tx) (.slice aA nA cA) (.slice aK nK cK)) ⟨q,2,none⟩=some (.slice aA nA cA)/\jn8 (pI w5 g5 (m3*4) (.string nm) (.string tx) (.slice aA nA cA) (.slice aK nK cK)) ⟨q,3,none⟩=some (.slice aK nK cK) from ⟨TG S5.1 TK,TG S5.2.1 hqg,TG S5.2.2.1 hqg,TG S5.2.2.2.1 hqg,TG S5.2.2.2.2 hqg⟩
       have z6:=S6.1;have VL:aG S (.slice a3 m3 c3) 28 ((((w5.setCell ⟨g5,m3*4,none⟩ (.string nm)).setCell ⟨g5,m3*4+1,none⟩ (.string tx)).setCell ⟨g5,m3*4+2,none⟩ (.slice aA nA cA)).setCell ⟨g5,m3*4+3,none⟩ (.slice aK nK cK)):=(gU w5 g5 (m3*4) (.string nm) (.string tx) (.slice aA nA cA) (.slice aK nK cK) S TK).trans BX5.out;have zf:=VL.free;refine hK.out _ _ (fun _ _=>S6) (fun hH2=>?_);clear hK KQ hH;have hH:=hH2 (by decide) (by kernel_rfl);clear hH2;try simp only [Act.put,jlk,jlq,jlx]
       refine q01 (i:=7) rfl (by kernel_rfl) (fun KQ hK=>?_);go_simp;refine hK.out _ _ (fun h=>absurd rfl h) (fun _=>?_);clear hK KQ hH;try simp only [Act.put,jlk,jlq,jlx]
       refine Gp (by kernel_rfl) ?_ _;clear S6 z6 VL zf;exact REST
      ·go_simp;refine hK.out _ _ (fun h=>absurd rfl h) (fun _=>?_);clear hK KQ hH;try simp only [Act.put,jlk,jlq,jlx]
       refine q01 (i:=6) rfl (by kernel_rfl) (fun KQ hK=>?_);go_simp;refine hK.out _ _ (fun _ h=>absurd h (by decide)) (fun _=>?_);clear hK KQ;try simp only [Act.put,jlk,jlq,jlx]
       refine Gp (by kernel_rfl) ?_ _;have hsw:=nM w5 S g5 (m3*4) (.slice (some ⟨g5,0,none⟩) (m3+1) c5) (.string nm) (.string tx) (.slice aA nA cA) (.slice aK nK cK) TK;simp only [pI] at hsw;rw [hsw];clear hsw;exact REST
     case hr=>
      clear S5 y0 y1 y2 y3 yf u0 u1 u2 u3 uf Zg z5 t0 t1 t2 t3;have CZ:=U5.out.TH Yf.out (.string nm) (.string tx) (.slice aA nA cA) (.slice aK nK cK) (d1:=(Nd.mk nm tx XA XK).d) (Rd.keep (fun b hb hlt=>⟨⟨.inr (by have:=QW.out;have:=CY.out;omega),(fun e=>by subst e;have:=ZN.out;omega),by omega⟩,(TJ.out.block b (by simp;omega) (fun e=>by have:=xP.out b e.symm;have:=ZN.out;omega)).trans (jmj w3 _ b hlt)⟩) _ _ NR3.out);obtain ⟨w6,jH⟩:∃ w6,w6=pI w5 g5 (m3*4) (.string nm) (.string tx) (.slice aA nA cA) (.slice aK nK cK):=⟨_,rfl⟩;have hb6:∀ b,b≠g5->w6.heap[b]?=w5.heap[b]?:=fun b hb=>by rw [jH];exact gU _ _ _ _ _ _ _ b hb
      have Zi:aG S (.slice a3 m3 c3) 28 w6:=(hb6 S TK).trans BX5.out;rw [<- jH] at CZ;have VN:=jH;simp only [pI] at VN;rw [<- VN];clear VN;have VO:w6.heap.size=w5.heap.size:=by rw [jH];simp [pI,jn9]
      obtain ⟨w7,hw7⟩:∃ w7,w7=w6.setCell ⟨S,0,none⟩ (.slice (some ⟨g5,0,none⟩) (m3+1) c5):=⟨_,rfl⟩;rw [<- hw7];have bx7:aG S (.slice (some ⟨g5,0,none⟩) (m3+1) c5) 28 w7:=by rw [hw7];exact Zi.set _
      have g7:w6.grownBy w7 (some S):=by rw [hw7];exact ⟨rfl,rfl,rfl,by simp [jn9],fun b _ hb=>jm9 w6 ⟨S,0,none⟩ _ b (fun e=>hb (by rw [e]))⟩
      have hz7:w7.heap.size=w6.heap.size:=by rw [hw7];simp [jn9]
      obtain ⟨wB7,VP,vO⟩:=CZ.hop2 (p:=S) (by have:=QW.out;have:=CY.out;omega) g7;have VQ:∀ b,b<w3.heap.size->b≠S->b≠g5->(∀ g,(Value.slice a3 m3 c3).ownBlock=some g->b≠g)->w7.heap[b]?=w3.heap[b]?:=fun b h1 h2 h3 h4=>
       (g7.block b (by omega) (fun e=>h2 (Option.some.inj e))).trans ((hb6 b h3).trans ((TJ.out.block b (by simp;omega) (fun e=>h4 b e.symm rfl)).trans (jmj w3 _ b h1)))
      have Yh:ay 35 4 (fun _=>False) w7.heap.size wB7 ((gG (N.take (k+1))).1.map Nd.d) (dM++[[.string nm,.string tx,.slice aA nA cA,.slice aK nK cK]]) (.slice (some ⟨g5,0,none⟩) (m3+1) c5) w7:=by rw [yF.out];show ay _ _ _ _ _ (List.map Nd.d (P.1++bS P.2++[.mk nm tx XA XK])) _ _ _;rw [jn1];exact vO.up (by omega) (jm1 _)
      have HF:Hid (Bt S w N (.int .i64 ((k+1:Nat):Int)) w7):=by
       refine ⟨k+1,_,.slice (some ⟨g5,0,none⟩) (m3+1) c5,w7.heap.size,wB7,by rw [xQ.out];omega,rfl,VP.trans (QW.out.trans CY.out),Yh,bx7,?_,?_⟩
       ·rw [yF.out];exact VK.out.QU (VQ (S+1) (by have:=VK.out.lt;exact this) (by omega) (by omega) (fun g hg=>by have:=(xP.out g hg).1;omega)) (by have:=VK.out.lt;omega)
       ·refine dD.out.trans ((BN.out.mono hSr).trans (HB3.out.trans ⟨?_,?_,?_,by omega,fun b hb=>VQ b (by omega) (by omega) (by omega) (fun g hg=>by have:=(xP.out g hg).1;omega)⟩))
        ·rw [hw7,jH];exact TJ.out.os
        ·rw [hw7,jH];exact TJ.out.tape
        ·rw [hw7,jH];exact TJ.out.output
      clear CZ Yh vO VP g7 bx7 hw7 Zi jH hb6 VQ;go_wp2;go_roundw;case rel=>exact HF.out
      case measure=>simp [intOf];omega
   ·have hkl:k=l.length:=by omega
    subst hkl;have hPN:P=gG N:=by rw [HP.out,jn3 (by rw [xQ.out];exact jm1 _)]
    have FC:=zD S U P.2.data.toList P.1 rows (.slice av m cv) wr wr wB (by have:=CY.out;omega) bV.out kF.out kE.out (jm0 _ _) (by rw [P9.out];omega);rw [Bn,hPN,<- qW.out] at FC;have FL:=hid FC;clear FC;go_wp2_with fail
    (with_reducible refine FL.out.mono ?_)
    rintro e w3 ⟨rfl,dM,v3,wB3,VJ,hrow3,Kq,QV,vI,hkp3,hb3⟩;have x0:=Kq.cell;have HF:Hid (dw w (kG l) (.returned v3) w3):=by
     refine ⟨dM,v3,rfl,hrow3.vL ?_ ?_⟩
     ·have:=CO.out;have:=CY.out;omega
     ·rw [<- CO.out];exact hbel.trans hb3
    clear hrow3 QV hb3 vI hkp3 FL;go_wp2;go_ret;exact HF.out
open Go.RowKit
open Go.RowKit
theorem aH.init {P:Nat->Prop} {w:jp3}:∀ (ds:List D) (rows:List (List jp5)) (d0:D) (r0:List jp5),aH P w (ds++[d0]) (rows++[r0])->rows.length=ds.length->aH P w ds rows/\Rd P w d0 r0
 | [],rows,d0,r0,hr,hl=>by
  rw [List.eq_nil_of_length_eq_zero hl] at hr ⊢;obtain ⟨r,rs,e,h1,h2⟩:=hr.aC;have e1:r=r0:=by simp at e;exact e.1.symm
  subst e1;exact ⟨aH.none,h1⟩
 | x::ds,[],d0,r0,hr,hl=>by simp at hl
 | x::ds,r::rows,d0,r0,hr,hl=>by
  obtain ⟨r',rs,e,h1,h2⟩:=hr.aC;have e':r'=r/\rs=rows++[r0]:=by simp at e;exact ⟨e.1.symm,e.2.symm⟩
  obtain ⟨rfl,rfl⟩:=e';obtain ⟨h3,h4⟩:=aH.init ds rows d0 r0 h2 (by simpa using hl);exact ⟨aH.cons h1 h3,h4⟩
section
variable {T:TypeId} {U:Nat} {ok:Nat->Prop} {w0 w:jp3} {ds:List D} {rows:List (List jp5)} {v:jp5}
theorem ay.Kt {d:D} (h:ay T 4 ok U w0 (ds++[d]) rows v w):∃ rows' a0 a1 a2 a3,rows=rows'++[[a0,a1,a2,a3]]/\Rd (fun b=>(ok b\/w0.heap.size<=b)/\v.ownBlock≠some b/\b<U) w d [a0,a1,a2,a3]:=by
 have hl:=h.red.len;rw [jm5,List.length_singleton] at hl;have hne:rows≠[]:=fun e=>by rw [e] at hl;simp at hl
 obtain ⟨rows',r,rfl⟩:∃ rows' r,rows=rows'++[r]:=⟨_,_,(List.dropLast_concat_getLast hne).symm⟩;have hr:=h.len r (by simp)
 match r,hr with
 | [a0,a1,a2,a3],_=>exact ⟨rows',a0,a1,a2,a3,rfl,(aH.init ds rows' d _ h.red (by simp at hl;exact hl)).2⟩
end
open Go.RowKit
def tB (kd lv:Int):Bool:=decide (kd=2)&&(decide (lv=1)||decide (lv=2))
def bB (kd lv:Int):Bool:=decide (kd=5)||tB kd lv
theorem QZ (kd lv:Int) (i t d ti:ByteArray) (a:At) (li:List aj) (ks:List ah):qX (.mk kd lv i t d ti a li ks)=tB kd lv:=rfl
theorem Q5 (kd lv:Int) (i t d ti:ByteArray) (a:At) (li:List aj) (ks:List ah):jr (.mk kd lv i t d ti a li ks)=bB kd lv:=rfl
theorem zH (kd lv:Int) (i t d ti id:ByteArray) (ac ap al ak:Option Addr) (nc cc np cp nl cl nk ck:Nat) (w:jp3) : Calls Tryz.prog 101 #[.agg #[.int .i64 kd,.int .i64 lv,.string i,.string t,.string d,.string ti,.string id,.slice ac nc cc,.slice ap np cp,.slice al nl cl,.slice ak nk ck]] w (dN (.bool (tB kd lv)) w):=by
 obtain ⟨S,hS⟩:∃ S,S=w.heap.size:=⟨_,rfl⟩;obtain ⟨w0,hw0⟩:∃ w0,w0=w.alloc (.cells #[.int .i64 kd,.int .i64 lv,.string i,.string t,.string d,.string ti,.string id,.slice ac nc cc,.slice ap np cp,.slice al nl cl,.slice ak nk ck] 133):=⟨_,rfl⟩;have k0:CB 133 S [.int .i64 kd,.int .i64 lv,.string i,.string t,.string d,.string ti,.string id,.slice ac nc cc,.slice ap np cp,.slice al nl cl,.slice ak nk ck] w0:=by rw [hw0,hS];exact CB.new _ _ w
 have B0:Hid (jp4 w.heap.size w w0):=by show jp4 _ _ _;rw [hw0];exact (jm0 _ _).alloc (jm1 _) _
 have e0:=k0.cell 0 _ rfl;have e1:=k0.cell 1 _ rfl;clear k0;go_enter Tryz.func101,Tryz.ntmps101;go_upto_region 1 with (fail)
 rw [<- hw0,<- hS];clear hw0 hS;by_cases h2:kd=2
 ·have q2:(kd==2)=true:=by rw [h2];rfl
  by_cases h3:lv=1
  ·have q3:(lv==1)=true:=by rw [h3];rfl
   have HV:Hid (tB kd lv=true):=by show _=_;unfold tB;rw [h2,h3];rfl
   clear h2 h3;go_wp2;go_ret;exact ⟨by rw [HV.out];rfl,B0.out⟩
  ·have q3:(lv==1)=false:=by rw [beq_eq_false_iff_ne];exact h3
   by_cases h4:lv=2
   ·have q4:(lv==2)=true:=by rw [h4];rfl
    have HV:Hid (tB kd lv=true):=by show _=_;unfold tB;rw [h2,h4];rfl
    clear h2 h3 h4;go_wp2;go_ret;exact ⟨by rw [HV.out];rfl,B0.out⟩
   ·have q4:(lv==2)=false:=by rw [beq_eq_false_iff_ne];exact h4
    have HV:Hid (tB kd lv=false):=by show _=_;unfold tB;simp [h3,h4]
    clear h2 h3 h4;go_wp2;go_ret;exact ⟨by rw [HV.out];rfl,B0.out⟩
 ·have q2:(kd==2)=false:=by rw [beq_eq_false_iff_ne];exact h2
  have HV:Hid (tB kd lv=false):=by show _=_;unfold tB;simp [h2]
  clear h2;go_wp2;go_ret;exact ⟨by rw [HV.out];rfl,B0.out⟩
theorem Gq (kd lv:Int) (i t d ti id:ByteArray) (ac ap al ak:Option Addr) (nc cc np cp nl cl nk ck:Nat) (w:jp3) : Calls Tryz.prog 100 #[.agg #[.int .i64 kd,.int .i64 lv,.string i,.string t,.string d,.string ti,.string id,.slice ac nc cc,.slice ap np cp,.slice al nl cl,.slice ak nk ck]] w (dN (.bool (bB kd lv)) w):=by
 obtain ⟨S,hS⟩:∃ S,S=w.heap.size:=⟨_,rfl⟩;obtain ⟨w0,hw0⟩:∃ w0,w0=w.alloc (.cells #[.int .i64 kd,.int .i64 lv,.string i,.string t,.string d,.string ti,.string id,.slice ac nc cc,.slice ap np cp,.slice al nl cl,.slice ak nk ck] 133):=⟨_,rfl⟩;have k0:CB 133 S [.int .i64 kd,.int .i64 lv,.string i,.string t,.string d,.string ti,.string id,.slice ac nc cc,.slice ap np cp,.slice al nl cl,.slice ak nk ck] w0:=by rw [hw0,hS];exact CB.new _ _ w
 have B0:Hid (jp4 w.heap.size w w0):=by show jp4 _ _ _;rw [hw0];exact (jm0 _ _).alloc (jm1 _) _
 have e0:=k0.cell 0 _ rfl;have e1:=k0.cell 1 _ rfl;have e2:=k0.cell 2 _ rfl;have e3:=k0.cell 3 _ rfl;have e4:=k0.cell 4 _ rfl;have e5:=k0.cell 5 _ rfl;have e6:=k0.cell 6 _ rfl;have e7:=k0.cell 7 _ rfl;have e8:=k0.cell 8 _ rfl;have e9:=k0.cell 9 _ rfl;have e10:=k0.cell 10 _ rfl;have TC:=hid (zH kd lv i t d ti id ac ap al ak nc cc np cp nl cl nk ck w0);clear k0;go_enter Tryz.func100,Tryz.ntmps100;go_upto_region 1 with (fail)
 rw [<- hw0,<- hS];clear hw0 hS;by_cases h5:kd=5
 ·have q5:(kd==5)=true:=by rw [h5];rfl
  have HV:Hid (bB kd lv=true):=by show _=_;unfold bB;rw [h5];rfl
  clear h5;go_wp2;go_ret;exact ⟨by rw [HV.out];rfl,B0.out⟩
 ·have q5:(kd==5)=false:=by rw [beq_eq_false_iff_ne];exact h5
  have HV:Hid (bB kd lv=tB kd lv):=by show _=_;unfold bB;simp [h5]
  clear h5;go_wp2_with fail
  (with_reducible refine TC.out.mono ?_)
  rintro e w1 ⟨rfl,b1⟩;have BF:=hid (aP B0.out b1);clear b1;go_wp2;go_ret;exact ⟨by rw [HV.out];rfl,BF.out⟩
def Pt.d (p:Pt):D:=.st [.bool p.ti,fC p.bl]
theorem Pt.eH {ok:Nat->Prop} {w:jp3} (p:Pt) {v:jp5} (h:Rd ok w (fC p.bl) [v]):Rd ok w p.d [.bool p.ti,v]:=by have:=Rd.sS (ok:=ok) (w:=w) (aH.cons (Rd.Je ok w p.ti) (aH.one h));simpa [Pt.d] using this
theorem Pt.open_ {ok:Nat->Prop} {w:jp3} {p:Pt} {cs:List jp5} (h:Rd ok w p.d cs):∃ v,cs=[.bool p.ti,v]/\Rd ok w (fC p.bl) [v]:=by
 obtain ⟨rows,h1,rfl⟩:=Rd.jQ h;obtain ⟨r1,rs,rfl,h2,h3⟩:=h1.aC;obtain ⟨r2,rs2,rfl,h4,h5⟩:=h3.aC;obtain rfl:=h5.bZ;obtain rfl:=Rd.zI h2;obtain ⟨a,n,c,e⟩:∃ a n c,r2=[.slice a n c]:=by unfold fC at h4;obtain ⟨a,c,e,-⟩:=Rd.aB h4;exact ⟨a,_,c,e⟩
 subst e;exact ⟨_,by simp,h4⟩
theorem VT:(Tryz.prog.info? 96).map (fun i=>(i.zero,i.size,i.bytes))=some (some (.agg #[.bool false,.slice none 0 0]),2,32):=by kernel_rfl
def fI (ok:Nat->Prop) (p M:Nat) (s:tQ) (w:jp3):Prop:=
 ∃ (UA:Nat) (wA wO:jp3) (rA rO:List (List jp5)) (va vo:jp5),wA.heap.size=p+3/\UA<=wO.heap.size/\ay 96 2 ok UA wA (s.all.map Pt.d) rA va w/\ay 48 11 ok M wO (s.op.bl.map ah.d) rO vo w /\
  aG p va 93 w/\CB 96 (p+1) [.bool s.op.ti,vo] w/\aG (p+2) (.bool s.some_) 4 w/\(s.op.bl=[]->vo.ownBlock=none)
theorem fI.below {ok:Nat->Prop} {p M:Nat} {s:tQ} {w w':jp3} (h:fI ok p M s w) (hb:jp4 w.heap.size w w'):fI ok p M s w':=by
 obtain ⟨UA,wA,wO,rA,rO,va,vo,h1,h2,h3,h4,h5,h6,h7,h8⟩:=h;have hp:p+3<=w.heap.size:=by have:=h3.ou;have:=h3.sO;omega
 exact ⟨UA,wA,wO,rA,rO,va,vo,h1,h2,h3.below hb,h4.below hb,(hb.block p (by omega)).trans h5,(hb.block (p+1) (by omega)).trans h6,(hb.block (p+2) (by omega)).trans h7,h8⟩
theorem fI.sz {ok:Nat->Prop} {p M:Nat} {s:tQ} {w:jp3} (h:fI ok p M s w):p+3<=M/\M<=w.heap.size:=by obtain ⟨UA,wA,wO,rA,rO,va,vo,h1,h2,h3,h4,h5,h6,h7,h8⟩:=h;have:=h3.ou;have:=h4.ou;have:=h4.sO;omega
theorem fI.top {ok:Nat->Prop} {p M:Nat} {s:tQ} {w:jp3} (h:fI ok p M s w):fI ok p w.heap.size s w:=by obtain ⟨UA,wA,wO,rA,rO,va,vo,h1,h2,h3,h4,h5,h6,h7,h8⟩:=h;exact ⟨UA,wA,wO,rA,rO,va,vo,h1,h2,h3,h4.top,h5,h6,h7,h8⟩
theorem fI.opc {ok:Nat->Prop} {p M:Nat} {s:tQ} {w:jp3} (h:fI ok p M s w):∃ vo,CB 96 (p+1) [.bool s.op.ti,vo] w/\∃ a n c,vo=.slice a n c:=by obtain ⟨UA,wA,wO,rA,rO,va,vo,h1,h2,h3,h4,h5,h6,h7,h8⟩:=h;exact ⟨vo,h6,h4.TN⟩
theorem fI.smc {ok:Nat->Prop} {p M:Nat} {s:tQ} {w:jp3} (h:fI ok p M s w):aG (p+2) (.bool s.some_) 4 w:=by obtain ⟨UA,wA,wO,rA,rO,va,vo,h1,h2,h3,h4,h5,h6,h7,h8⟩:=h;exact h7
def qY (ok:Nat->Prop) (p M:Nat) (s:tQ) (w:jp3) (e:Ending) (w':jp3):Prop:=e=.returned (.tuple #[])/\fI ok p w'.heap.size s w'/\jp4 p w w'/\∀ b,M<=b->b<w.heap.size->w'.heap[b]?=w.heap[b]?
theorem fI.Zj {ok:Nat->Prop} {p M:Nat} {al:List Pt} {ti:Bool} {bl:List ah} {sm:Bool} {w:jp3} (hok:∀ b,ok b->b<p) (h:fI ok p M ⟨al,⟨ti,bl⟩,sm⟩ w) (u:Bool):fI ok p M ⟨al,⟨u,bl⟩,sm⟩ (w.setCell ⟨p+1,0,none⟩ (.bool u)):=by
 obtain ⟨UA,wA,wO,rA,rO,va,vo,h1,h2,h3,h4,h5,h6,h7,h8⟩:=h;have hA:=h3.ou;have k2:∀ b,b≠p+1->(w.setCell ⟨p+1,0,none⟩ (.bool u)).heap[b]?=w.heap[b]?:=fun b hb=>jm9 _ ⟨p+1,0,none⟩ _ b hb
 have g2:w.grownBy (w.setCell ⟨p+1,0,none⟩ (.bool u)) (some (p+1)):=⟨rfl,rfl,rfl,by simp [jn9],fun b _ hb=>k2 b (fun e=>hb (by rw [e]))⟩;obtain ⟨Q6,e2,r2⟩:=h3.yH (p:=p+1) (by omega) (fun h=>by have:=hok _ h;omega) g2;obtain ⟨Zk,e3,r3⟩:=h4.yH (p:=p+1) (by omega) (fun h=>by have:=hok _ h;omega) g2;exact ⟨UA,Q6,Zk,rA,rO,va,vo,by omega,by omega,r2,r3,(k2 p (by omega)).trans h5,dx h6 0 _,(k2 (p+2) (by omega)).trans h7,h8⟩
theorem fI.setSm {ok:Nat->Prop} {p M:Nat} {al:List Pt} {op:Pt} {sm:Bool} {w:jp3} (hok:∀ b,ok b->b<p) (h:fI ok p M ⟨al,op,sm⟩ w) (u:Bool):fI ok p M ⟨al,op,u⟩ (w.setCell ⟨p+2,0,none⟩ (.bool u)):=by
 obtain ⟨UA,wA,wO,rA,rO,va,vo,h1,h2,h3,h4,h5,h6,h7,h8⟩:=h;have hA:=h3.ou;have k2:∀ b,b≠p+2->(w.setCell ⟨p+2,0,none⟩ (.bool u)).heap[b]?=w.heap[b]?:=fun b hb=>jm9 _ ⟨p+2,0,none⟩ _ b hb
 have g2:w.grownBy (w.setCell ⟨p+2,0,none⟩ (.bool u)) (some (p+2)):=⟨rfl,rfl,rfl,by simp [jn9],fun b _ hb=>k2 b (fun e=>hb (by rw [e]))⟩;obtain ⟨Q6,e2,r2⟩:=h3.yH (p:=p+2) (by omega) (fun h=>by have:=hok _ h;omega) g2;obtain ⟨Zk,e3,r3⟩:=h4.yH (p:=p+2) (by omega) (fun h=>by have:=hok _ h;omega) g2;exact ⟨UA,Q6,Zk,rA,rO,va,vo,by omega,by omega,r2,r3,(k2 p (by omega)).trans h5,(k2 (p+1) (by omega)).trans h6,aG.set h7 _,h8⟩
theorem zJ {ok:Nat->Prop} {p U M:Nat} {L:List Pt} {wA w:jp3} {rA:List (List jp5)} {va u0 u1:jp5} {sm:jp5} (h1:wA.heap.size=p+3) (hok:∀ b,ok b->b<p) (h3:ay 96 2 ok U wA (L.map Pt.d) rA va w) (h5:aG p va 93 w) (h6:CB 96 (p+1) [u0,u1] w) (h7:aG (p+2) sm 4 w) (hM:p+3<=M) : qY ok p M ⟨L,⟨false,[]⟩,true⟩ w (.returned (.tuple #[])) (((w.setCell ⟨p+1,0,none⟩ (.bool false)).setCell ⟨p+1,0+1,none⟩ (.slice none 0 0)).setCell ⟨p+2,0,none⟩ (.bool true)):=by
 have hu:=h3.sO;have hu0:=h3.ou;obtain ⟨w1,hw1⟩:∃ w1,w1=(w.setCell ⟨p+1,0,none⟩ (.bool false)).setCell ⟨p+1,0+1,none⟩ (.slice none 0 0):=⟨_,rfl⟩;rw [<- hw1];have k1:∀ b,b≠p+1->w1.heap[b]?=w.heap[b]?:=fun b hb=>by
  rw [hw1,jm9 _ ⟨p+1,0+1,none⟩ _ b hb,jm9 _ ⟨p+1,0,none⟩ _ b hb]
 have z1:w1.heap.size=w.heap.size:=by rw [hw1];simp [jn9]
 have g1:w.grownBy w1 (some (p+1)):=⟨by rw [hw1];rfl,by rw [hw1];rfl,by rw [hw1];rfl,by omega,fun b _ hb=>k1 b (fun e=>hb (by rw [e]))⟩;have c1:CB 96 (p+1) [.bool false,.slice none 0 0] w1:=by rw [hw1];exact dx (dx h6 0 _) 1 _
 obtain ⟨wA1,e1,r1⟩:=h3.yH (p:=p+1) (by omega) (fun h=>by have:=hok _ h;omega) g1;obtain ⟨w2,hw2⟩:∃ w2,w2=w1.setCell ⟨p+2,0,none⟩ (.bool true):=⟨_,rfl⟩;rw [<- hw2];have k2:∀ b,b≠p+2->w2.heap[b]?=w1.heap[b]?:=fun b hb=>by rw [hw2,jm9 _ ⟨p+2,0,none⟩ _ b hb]
 have z2:w2.heap.size=w1.heap.size:=by rw [hw2];simp [jn9]
 have g2:w1.grownBy w2 (some (p+2)):=⟨by rw [hw2];rfl,by rw [hw2];rfl,by rw [hw2];rfl,by omega,fun b _ hb=>k2 b (fun e=>hb (by rw [e]))⟩;have b7:aG (p+2) sm 4 w1:=(k1 (p+2) (by omega)).trans h7;obtain ⟨Q6,e2,r2⟩:=r1.yH (p:=p+2) (by omega) (fun h=>by have:=hok _ h;omega) g2;refine ⟨rfl,⟨U,Q6,w2,rA,[],va,.slice none 0 0,by omega,by omega,r2,ay.nil _ _ _ _,?_,(k2 (p+1) (by omega)).trans c1,by rw [hw2];exact b7.set _,fun _=>rfl⟩,?_,fun b hb _=>(k2 b (by omega)).trans (k1 b (by omega))⟩
 ·exact (k2 p (by omega)).trans ((k1 p (by omega)).trans h5)
 ·exact ⟨g2.os.trans g1.os,g2.tape.trans g1.tape,g2.output.trans g1.output,by omega,fun b hb=>(k2 b (by omega)).trans (k1 b (by omega))⟩
theorem vP (ok:Nat->Prop) (p M:Nat) (s:tQ) (w:jp3) (hok:∀ b,ok b->b<p) (h:fI ok p M s w) (hl:s.all.length<=3000000) : Calls Tryz.prog 102 #[.pointer (some ⟨p+2,0,none⟩),.pointer (some ⟨p,0,none⟩),.pointer (some ⟨p+1,0,none⟩)] w (qY ok p M (dR s) w):=by
 have hsz:=h.sz;obtain ⟨UA,wA,wO,rA,rO,va,vo,h1,h2,h3,h4,h5,h6,h7,h8⟩:=h;obtain ⟨iP,hiP,yw,yx,yA⟩:=info_parts VT;obtain ⟨n,hn⟩:∃ n,n=(s.all.map Pt.d).length:=⟨_,rfl⟩;obtain ⟨av,cv,rfl,-,-⟩:=h3.cap hn.symm;obtain ⟨ao,no,co,rfl⟩:=h4.TN;have hn1:n<=3000000:=by rw [hn,jm6];exact hl
 have hz:=h3.ou;have hz2:=h3.sO;obtain ⟨al,⟨ot,ob⟩,sm⟩:=s;have c0:=h5.cell;have f0:=h5.free;have d0:=h6.cell 0 _ rfl;have d1:=h6.cell 1 _ rfl;have df:=mg h6;have b0:=h7.cell;have bf:=h7.free;have xP:Hid (∀ g,(Value.slice av n cv).ownBlock=some g->wA.heap.size<=g/\g<M):=fun g hg=>⟨(h3.own.lt g hg).1,by have:=h3.oU g hg;have:=h4.ou;omega⟩
 have Qe:=hid hok;have H1:=hid h1;have H2:=hid h2;have H3:=hid h3;have H4:=hid h4;have H5:=hid h5;have H6:=hid h6;have H7:=hid h7;have HN:=hid hn.symm;cases sm with
 | false=>
  have HF:Hid (qY ok p M (dR ⟨al,⟨ot,ob⟩,false⟩) w (.returned (.tuple #[])) (((w.setCell ⟨p+1,0,none⟩ (.bool false)).setCell ⟨p+1,0+1,none⟩ (.slice none 0 0)).setCell ⟨p+2,0,none⟩ (.bool true))):=zJ (L:=al) h1 hok h3 h5 h6 h7 hsz.1;clear h1 h2 h3 h4 h5 h6 h7 h8 hok hn hl;go_enter Tryz.func102,Tryz.ntmps102;go_wp2
  go_end0
  exact HF.out
 | true=>
  have hx:Rd (fun b=>ok b\/UA<=b) w (Pt.d ⟨ot,ob⟩) [.bool ot,.slice ao no co]:=Pt.eH ⟨ot,ob⟩ (h4.rd.weaken (fun b hb=>hb.imp id (fun h=>jm2 h2 h)));have HX:=hid hx;clear h1 h2 h3 h4 h5 h6 h7 h8 hok hn hl hx;go_enter Tryz.func102,Tryz.ntmps102;go_wp2_with (at_builtin;refine Ee (n:=n) rfl _ _ 93 rfl iP _ 32 Tryz.underlying93 hiP yw yx yA rfl (by decide) H3.out (fun b hb=>by have:=Qe.out b hb;have:=H1.out;omega) (Pt.d ⟨ot,ob⟩) [.bool ot,.slice ao no co] HX.out rfl (by intro u hu;simp at hu;rcases hu with rfl | rfl<;>rfl) HN.out (by omega) (by decide) rfl rfl ?_)
  intro a' c' w1 hrow hg hat;have hz1:w.heap.size<=w1.heap.size:=by have:=hg.size;simp at this;omega
  have kb:∀ b,b<p+3->w1.heap[b]?=w.heap[b]?:=fun b hb=>(hg.block b (by have:=H1.out;simp;omega) (fun e=>by have:=(xP.out b e.symm).1;have:=H1.out;omega)).trans (jmj w _ b (by have:=H1.out;omega))
  have bx1:aG p (.slice av n cv) 93 w1:=(kb p (by omega)).trans H5.out;have cx1:CB 96 (p+1) [.bool ot,.slice ao no co] w1:=(kb (p+1) (by omega)).trans H6.out;have sx1:aG (p+2) (.bool true) 4 w1:=(kb (p+2) (by omega)).trans H7.out;obtain ⟨w2,hw2⟩:∃ w2,w2=w1.setCell ⟨p,0,none⟩ (.slice a' (n+1) c'):=⟨_,rfl⟩;have g2:w1.grownBy w2 (some p):=⟨by rw [hw2];rfl,by rw [hw2];rfl,by rw [hw2];rfl,by rw [hw2];simp [jn9],fun b _ hb=>by rw [hw2];exact jm9 w1 ⟨p,0,none⟩ _ b (fun e=>hb (by rw [e]))⟩;obtain ⟨Q6,e2,r2⟩:=hrow.yH (p:=p) (by have:=H1.out;omega) (fun h=>by have:=Qe.out _ h;omega) g2;have kc:∀ b,b≠p->w2.heap[b]?=w1.heap[b]?:=fun b hb=>by rw [hw2];exact jm9 w1 ⟨p,0,none⟩ _ b hb
  have hz3:w1.heap.size<=w2.heap.size:=g2.size;have Zl:=(kc (p+1) (by omega)).trans cx1;have sx2:=(kc (p+2) (by omega)).trans sx1;have HF:=zJ (wA:=Q6) (L:=al++[⟨ot,ob⟩]) (by have:=H1.out;omega) Qe.out (by rw [jn1];exact r2) (by rw [hw2];exact bx1.set _) Zl sx2 hsz.1;have HFF:Hid (qY ok p M (dR ⟨al,⟨ot,ob⟩,true⟩) w (.returned (.tuple #[])) (((w2.setCell ⟨p+1,0,none⟩ (.bool false)).setCell ⟨p+1,0+1,none⟩ (.slice none 0 0)).setCell ⟨p+2,0,none⟩ (.bool true))):=by obtain ⟨f1,f2,f3,f4⟩:=HF;refine ⟨f1,f2,⟨f3.os.trans (g2.os.trans hg.os),f3.tape.trans (g2.tape.trans hg.tape),f3.output.trans (g2.output.trans hg.output),by have:=f3.size;omega,fun b hb=>((f3.block b hb).trans (kc b (by omega))).trans (kb b (by omega))⟩,fun b hb hlt=>?_⟩;refine ((f4 b hb (by omega)).trans (kc b (by omega))).trans ((hg.block b (by simp;omega) (fun e=>by have:=xP.out b e.symm;omega)).trans (jmj w _ b hlt))
  have x0:=bx1.cell;have xf:=bx1.free;have y0:=(show CB 96 (p+1) [.bool ot,.slice ao no co] w2 from Zl).cell 0 _ rfl;have y1:=(show CB 96 (p+1) [.bool ot,.slice ao no co] w2 from Zl).cell 1 _ rfl;have yf:=mg (show CB 96 (p+1) [.bool ot,.slice ao no co] w2 from Zl);have s0:=(show aG (p+2) (.bool true) 4 w2 from sx2).cell;have sf:=(show aG (p+2) (.bool true) 4 w2 from sx2).free;clear hrow hg hat hz1 hsz kb bx1 cx1 sx1 g2 e2 r2 kc hz3 Zl sx2 HF c0 f0 d0 d1 df b0 bf;go_upto_region 2 with (fail)
  rw [<- hw2];clear hw2 x0 xf;go_wp2
  go_end0
  exact HFF.out
open Go.RowKit
def VU (w:jp3) (L:List Pt) (e:Ending) (w':jp3):Prop:=∃ v,e=.returned v/\Rd (·<w'.heap.size) w' (.sl 2 (L.map Pt.d)) [v]/\jp4 w.heap.size w w'
def Jf (w:jp3) (l:List ah) (vi:jp5) (wr:jp3):Prop:=∃ k:Nat,k<=l.length/\vi=.int .i64 k/\fI (·<w.heap.size) w.heap.size wr.heap.size (l6 (l.take k)) wr/\jp4 w.heap.size w wr
theorem Ku (l:List ah) (k:Nat) (x:ah) (h:l[k]?=some x):l6 (l.take (k+1))=q0z (l6 (l.take k)) x:=by unfold l6;rw [List.take_add_one,h,List.foldl_append];rfl
theorem vQ:∀ (l:List ah) (s:tQ),(l.foldl q0z s).all.length<=s.all.length+l.length/\(l.foldl q0z s).op.bl.length<=s.op.bl.length+l.length
 | [],s=>⟨jm1 _,jm1 _⟩
 | x::l,s=>by
  have h:=vQ l (q0z s x);have h1:(q0z s x).all.length<=s.all.length+1/\(q0z s x).op.bl.length<=s.op.bl.length+1:=by
   unfold q0z dR;split
   ·split
    ·split<;>simp
    ·split<;>simp
   ·simp
  rw [List.foldl_cons,jm7];omega
theorem Q7 (ok:Nat->Prop) (w:jp3):Rd ok w (ah.mk 0 0 ⟨#[]⟩ ⟨#[]⟩ ⟨#[]⟩ ⟨#[]⟩ ⟨⟨#[]⟩,[],[]⟩ [] []).d [.int .i64 0,.int .i64 0,.string ⟨#[]⟩,.string ⟨#[]⟩,.string ⟨#[]⟩,.string ⟨#[]⟩,.string ⟨#[]⟩,.slice none 0 0,.slice none 0 0,.slice none 0 0,.slice none 0 0]:=
 ah.eH 0 0 ⟨#[]⟩ ⟨#[]⟩ ⟨#[]⟩ ⟨#[]⟩ (a:=⟨⟨#[]⟩,[],[]⟩) ⟨⟨Rd.aD _ _ _,Rd.aD _ _ _⟩,Rd.aD _ _ _,Rd.aD _ _ _⟩
theorem Nf:∀ u∈([.int .i64 0,.int .i64 0,.string ⟨#[]⟩,.string ⟨#[]⟩,.string ⟨#[]⟩,.string ⟨#[]⟩,.string ⟨#[]⟩,.slice none 0 0,.slice none 0 0,.slice none 0 0,.slice none 0 0]:List jp5),u.oneCell'=true:=by intro u hu;simp at hu;rcases hu with rfl | rfl | rfl<;>rfl
theorem Ng {ok:Nat->Prop} {p M UA g n c:Nat} {al:List Pt} {ti:Bool} {bl:List ah} {x:ah} {w w5 wA wO:jp3} {rA rO:List (List jp5)} {va vo:jp5} {r0 r1:List jp5} {d0:D} (hok:∀ b,ok b->b<p) (h1:wA.heap.size=p+3) (h2:UA<=wO.heap.size) (h3:ay 96 2 ok UA wA (al.map Pt.d) rA va w) (hO:ay 48 11 ok M wO (bl.map ah.d) rO vo w) (h5:aG p va 93 w) (h6:CB 96 (p+1) [.bool ti,vo] w) (h7:aG (p+2) (.bool true) 4 w) (hn:(bl.map ah.d).length=n) (hr:ay 48 11 ok w5.heap.size wO (bl.map ah.d++[d0]) (rO++[r0]) (.slice (some ⟨g,0,none⟩) (n+1) c) w5) (hl:r1.length=11) (hk:∀ b,b<w.heap.size->vo.ownBlock≠some b->w5.heap[b]?=w.heap[b]?) (hs:w.heap.size<=w5.heap.size) (ho:w5.os=w.os/\w5.tape=w.tape/\w5.output=w.output) (hat:vo.ownBlock=some g\/w.heap.size<=g) (hx:Rd ok w5 x.d r1) : fI ok p w5.heap.size ⟨al,⟨ti,bl++[x]⟩,true⟩ ((oD w5 g (n*11) r1).setCell ⟨p+1,1,none⟩ (.slice (some ⟨g,0,none⟩) (n+1) c))/\jp4 p w ((oD w5 g (n*11) r1).setCell ⟨p+1,1,none⟩ (.slice (some ⟨g,0,none⟩) (n+1) c)):=by
 have a0:=h3.ou;have a1:=h3.sO;have o0:=hO.ou;have C8:∀ b,vo.ownBlock=some b->wO.heap.size<=b:=fun b e=>(hO.own.lt b e).1
 have hg:UA<=g:=by
  rcases hat with h | h
  ·have:=C8 g h;omega
  ·omega
 have hr1:=hr.jf6 hn hl (d1:=x.d) (Rd.keep (fun b hb hlt=>⟨⟨.inl hb,by have:=hok b hb;omega,by omega⟩,rfl⟩) _ _ hx);obtain ⟨w6,jH⟩:∃ w6,w6=oD w5 g (n*11) r1:=⟨_,rfl⟩;have k6:∀ b,b≠g->w6.heap[b]?=w5.heap[b]?:=fun b hb=>by rw [jH];exact gV g _ _ _ b hb
 have z6:w6.heap.size=w5.heap.size:=by rw [jH];exact oV g _ _ _
 have s6:=vR g r1 (n*11) w5;rw [<- jH] at hr1 s6 ⊢;clear jH;have kA:∀ b,b<UA->w6.heap[b]?=w.heap[b]?:=fun b hb=>(k6 b (by omega)).trans (hk b (by omega) (fun e=>by have:=C8 b e;omega))
 have r3:=h3.same (w':=w6) (by omega) ⟨s6.1.trans ho.1,s6.2.1.trans ho.2.1,s6.2.2.trans ho.2.2⟩ kA;have k7:∀ b,b≠p+1->(w6.setCell ⟨p+1,1,none⟩ (.slice (some ⟨g,0,none⟩) (n+1) c)).heap[b]?=w6.heap[b]?:=fun b hb=>jm9 _ ⟨p+1,1,none⟩ _ b hb
 have g7:w6.grownBy (w6.setCell ⟨p+1,1,none⟩ (.slice (some ⟨g,0,none⟩) (n+1) c)) (some (p+1)):=⟨rfl,rfl,rfl,by simp [jn9],fun b _ hb=>k7 b (fun e=>hb (by rw [e]))⟩;obtain ⟨Q6,e2,r2⟩:=r3.yH (p:=p+1) (by omega) (fun h=>by have:=hok _ h;omega) g7;obtain ⟨Zk,e3,rO2⟩:=hr1.yH (p:=p+1) (by omega) (fun h=>by have:=hok _ h;omega) g7;refine ⟨⟨UA,Q6,Zk,rA,rO++[r1],va,_,by omega,by omega,r2,by rw [jn1];exact rO2,(k7 p (by omega)).trans ((kA p (by omega)).trans h5),?_,(k7 (p+2) (by omega)).trans ((kA (p+2) (by omega)).trans h7),fun e=>by simp at e⟩,?_⟩
 ·have c6:CB 96 (p+1) [.bool ti,vo] w6:=(kA (p+1) (by omega)).trans h6;exact dx c6 1 _
 ·exact ⟨g7.os.trans (s6.1.trans ho.1),g7.tape.trans (s6.2.1.trans ho.2.1),g7.output.trans (s6.2.2.trans ho.2.2),by have:=g7.size;omega,fun b hb=>(k7 b (by omega)).trans (kA b (by omega))⟩
theorem zK (l:List ah) (v:jp5) (w:jp3) (h:Rd (·<w.heap.size) w (fC l) [v]) (hl:l.length<=1000000) : Calls Tryz.prog 58 #[v] w (VU w (dZ l)):=by
 obtain ⟨a,cap,hv,hs⟩:=Rd.aB h;obtain ⟨nL,zL⟩:∃ nL,nL=l.length:=⟨_,rfl⟩;obtain rfl:v=.slice a nL cap:=by rw [zL];simpa using hv
 have hcap:nL<=cap:=by rw [zL];simpa using hs.le
 have hmx:=hs.max;unfold maxLen at hmx;obtain ⟨iB,xS,Kv,Kw,Bv⟩:=info_parts Nh;obtain ⟨p,hp⟩:∃ p,p=w.heap.size:=⟨_,rfl⟩;obtain ⟨w3,hw3⟩:∃ w3,w3=((w.alloc (.cells #[.slice none 0 0] 93)).alloc (.cells #[.bool false,.slice none 0 0] 96)).alloc (.cells #[.bool false] 4):=⟨_,rfl⟩;have z1:(w.alloc (.cells #[.slice none 0 0] 93)).heap.size=p+1:=by rw [jmx,hp]
 have z2:((w.alloc (.cells #[.slice none 0 0] 93)).alloc (.cells #[.bool false,.slice none 0 0] 96)).heap.size=p+2:=by rw [jmx,z1]
 have z3:w3.heap.size=p+3:=by rw [hw3,jmx,z2]
 have K1:aG p (.slice none 0 0) 93 w3:=by have h:=aG.new w (.slice none 0 0) 93;rw [<- hp] at h;rw [hw3];exact (h.alloc _).alloc _
 have K2:CB 96 (p+1) [.bool false,.slice none 0 0] w3:=by have h:=CB.new 96 [.bool false,.slice none 0 0] (w.alloc (.cells #[.slice none 0 0] 93));rw [z1] at h;rw [hw3];exact h.below ((jm0 _ _).alloc (jm1 _) _)
 have K3:aG (p+2) (.bool false) 4 w3:=by have h:=aG.new ((w.alloc (.cells #[.slice none 0 0] 93)).alloc (.cells #[.bool false,.slice none 0 0] 96)) (.bool false) 4;rw [z2] at h;rw [hw3];exact h
 have B3:jp4 w.heap.size w w3:=by rw [hw3];exact (((jm0 _ w).alloc (jm1 _) _).alloc (by omega) _).alloc (by omega) _
 have P0:fI (·<w.heap.size) w.heap.size w3.heap.size (l6 (l.take 0)) w3:=by rw [<- hp];exact ⟨w3.heap.size,w3,w3,[],[],.slice none 0 0,.slice none 0 0,z3,jm1 _,ay.nil _ _ _ _,ay.nil _ _ _ _,K1,K2,K3,fun _=>rfl⟩
 have R0:Hid (Jf w l (.int .i64 0) w3):=⟨0,Nat.zero_le _,rfl,P0,B3⟩;have HS:=hid hs;have xQ:=hid zL;have HP:=hid hp;have HLm:=hid hl;clear h hv hs zL hl z1 z2 z3 K1 K2 K3 B3 P0 hp;go_enter Tryz.func58,Tryz.ntmps58;go_upto_region 6 with (fail)
 rw [<- HP.out];try rw [<- hw3]
 clear hw3;go_wp2
 go_loopw [14] (fun vi wr=>Jf w l vi wr) (fun i _=>nL-(intOf i).toNat)
 case atStart=>exact R0.out
 case round=>
  clear R0;obtain ⟨k,hk,rfl,hP,hB⟩:=hrel;obtain ⟨s,hsD⟩:∃ s,s=l6 (l.take k):=⟨_,rfl⟩;rw [<- hsD] at hP;have hlen:=vQ (l.take k) ql;rw [show List.foldl q0z ql (l.take k)=l6 (l.take k) from rfl,<- hsD,List.length_take] at hlen;have HSD:=hid hsD;have hal:s.all.length<=1000000/\s.op.bl.length<=1000000:=by have h1:ql.all.length=0/\ql.op.bl.length=0:=⟨rfl,rfl⟩;have:=HLm.out;omega
  have Vr:=hid hal;clear hsD hlen hal;by_cases hlt:k<nL
  ·obtain ⟨x,hx⟩:∃ x,l[k]?=some x:=⟨_,jlz (by have:=xQ.out;omega)⟩;have hst:=Ku l k x hx;rw [<- HSD.out] at hst;have Q8:=hid hst;obtain ⟨X,L8⟩:∃ X,X=x:=⟨_,rfl⟩;obtain ⟨kd,lv,i,t,d,ti,at_,li,ks⟩:=x;obtain ⟨g,off,vc,vp,vl,vk,rfl,-,hgw,hc,hRR⟩:=I7 HS.out hx;obtain ⟨ac,nc,cc,rfl⟩:=Rd.au hRR.at_.cls
   obtain ⟨ap,np,cp,rfl⟩:=Rd.au hRR.at_.aJ
   obtain ⟨al,nl,cl,rfl⟩:=Rd.au hRR.line;obtain ⟨ak,nk,ck,rfl⟩:=Rd.au hRR.kids;have hXr:Rd (·<w.heap.size) w X.d [.int .i64 kd,.int .i64 lv,.string i,.string t,.string d,.string ti,.string at_.id,.slice ac nc cc,.slice ap np cp,.slice al nl cl,.slice ak nk ck]:=by rw [L8];exact ah.eH kd lv i t d ti hRR
   have c0:wr.cell? ⟨g,off+k*11,none⟩=some (.int .i64 kd):=(hB.cell (p:=⟨_,_,none⟩) hgw).trans hc.c0;have c1:wr.cell? ⟨g,off+k*11+1,none⟩=some (.int .i64 lv):=(hB.cell (p:=⟨_,_,none⟩) hgw).trans hc.c1;have c2:wr.cell? ⟨g,off+k*11+2,none⟩=some (.string i):=(hB.cell (p:=⟨_,_,none⟩) hgw).trans hc.c2;have c3:wr.cell? ⟨g,off+k*11+3,none⟩=some (.string t):=(hB.cell (p:=⟨_,_,none⟩) hgw).trans hc.c3;have c4:wr.cell? ⟨g,off+k*11+4,none⟩=some (.string d):=(hB.cell (p:=⟨_,_,none⟩) hgw).trans hc.c4;have c5:wr.cell? ⟨g,off+k*11+5,none⟩=some (.string ti):=(hB.cell (p:=⟨_,_,none⟩) hgw).trans hc.c5;have c6:wr.cell? ⟨g,off+k*11+6,none⟩=some (.string at_.id):=(hB.cell (p:=⟨_,_,none⟩) hgw).trans hc.c6;have c7:wr.cell? ⟨g,off+k*11+7,none⟩=some (.slice ac nc cc):=(hB.cell (p:=⟨_,_,none⟩) hgw).trans hc.c7;have c8:wr.cell? ⟨g,off+k*11+8,none⟩=some (.slice ap np cp):=(hB.cell (p:=⟨_,_,none⟩) hgw).trans hc.c8;have c9:wr.cell? ⟨g,off+k*11+9,none⟩=some (.slice al nl cl):=(hB.cell (p:=⟨_,_,none⟩) hgw).trans hc.c9;have c10:wr.cell? ⟨g,off+k*11+10,none⟩=some (.slice ak nk ck):=(hB.cell (p:=⟨_,_,none⟩) hgw).trans hc.c10;obtain ⟨q,hq⟩:∃ q,q=wr.heap.size:=⟨_,rfl⟩;obtain ⟨w4,hw4⟩:∃ w4,w4=wr.alloc (.cells #[.int .i64 kd,.int .i64 lv,.string i,.string t,.string d,.string ti,.string at_.id,.slice ac nc cc,.slice ap np cp,.slice al nl cl,.slice ak nk ck] 48):=⟨_,rfl⟩;have k4:CB 48 q [.int .i64 kd,.int .i64 lv,.string i,.string t,.string d,.string ti,.string at_.id,.slice ac nc cc,.slice ap np cp,.slice al nl cl,.slice ak nk ck] w4:=by rw [hw4,hq];exact CB.new _ _ _
   have b4:jp4 wr.heap.size wr w4:=by rw [hw4];exact (jm0 _ _).alloc (jm1 _) _
   have TP:=hP.below b4;have hB4:=aP hB b4;have hzq:w4.heap.size=q+1:=by rw [hw4,jmx,hq]
   obtain ⟨bb,hbb⟩:∃ bb,bB kd lv=bb:=⟨_,rfl⟩;obtain ⟨tt,htt⟩:∃ tt,tB kd lv=tt:=⟨_,rfl⟩;have BC:=Gq kd lv i t d ti at_.id ac ap al ak nc cc np cp nl cl nk ck w4
   rw [hbb] at BC;have vD:=hid BC;have TCX:Hid (∀ W:jp3,Calls Tryz.prog 101 #[.agg #[.int .i64 kd,.int .i64 lv,.string i,.string t,.string d,.string ti,.string at_.id,.slice ac nc cc,.slice ap np cp,.slice al nl cl,.slice ak nk ck]] W (dN (.bool tt) W)):=fun W=>by
    rw [<- htt];exact zH kd lv i t d ti at_.id ac ap al ak nc cc np cp nl cl nk ck W
   have xM:=hid (show jr X=bb by rw [L8,Q5];exact hbb);have HTT:=hid (show qX X=tt by rw [L8,QZ];exact htt);rw [<- L8] at Q8;have HXR:=hid hXr;have HQ:=hid hq;have Q9:=hid TP;have Zm:=hid hP.sz;have A9:=hid hB4;have HZQ:=hid hzq;have e0:=k4.cell 0 _ rfl;have e1:=k4.cell 1 _ rfl;have e2:=k4.cell 2 _ rfl;have e3:=k4.cell 3 _ rfl;have e4:=k4.cell 4 _ rfl;have e5:=k4.cell 5 _ rfl;have e6:=k4.cell 6 _ rfl;have e7:=k4.cell 7 _ rfl;have e8:=k4.cell 8 _ rfl;have e9:=k4.cell 9 _ rfl;have e10:=k4.cell 10 _ rfl;have HK4:=hid k4;clear hx hst L8 hc hRR hXr hP hB k4 b4 TP hB4 hzq hbb htt BC hgw hq;go_upto_region 9 with (fail)
   rw [<- hw4,<- HQ.out];clear hw4 c0 c1 c2 c3 c4 c5 c6 c7 c8 c9 c10;go_wp2_with fail
   (with_reducible refine vD.out.mono ?_)
   rintro e w5 ⟨rfl,b5⟩;have Yi:=hid (Q9.out.below b5);have qM:=hid (aP A9.out b5);have HK5:=hid (HK4.out.below b5);have HZ5:=hid b5.size;clear b5 Q9 vD e0 e1 e2 e3 e4 e5 e6 e7 e8 e9 e10;obtain ⟨aL,⟨ot,ob⟩,sm⟩:=s;cases bb
   case' true=>
    have FC:Hid (Calls Tryz.prog 102 #[.pointer (some ⟨p+1+1,0,none⟩),.pointer (some ⟨p,0,none⟩),.pointer (some ⟨p+1,0,none⟩)] w5 (qY (·<w.heap.size) p wr.heap.size (dR ⟨aL,⟨ot,ob⟩,sm⟩) w5)):=(vP (·<w.heap.size) p wr.heap.size ⟨aL,⟨ot,ob⟩,sm⟩ w5 (fun b hb=>by have:=HP.out;show b<p;omega) (by rw [HP.out];exact Yi.out) (by have:=Vr.out.1;show aL.length<=_;have:aL.length<=1000000:=this;omega));go_wp2_with fail
    (with_reducible refine FC.out.mono ?_)
    rintro e w6 ⟨rfl,VW,b6,k6⟩;have b6:jp4 w.heap.size w5 w6:=by rw [HP.out] at b6;exact b6
    have HB6:=hid (qM.out.trans b6);have VO:w4.heap.size<=w6.heap.size:=by have:=b6.size;have:=HZ5.out;omega
    have KD:CB 48 q [.int .i64 kd,.int .i64 lv,.string i,.string t,.string d,.string ti,.string at_.id,.slice ac nc cc,.slice ap np cp,.slice al nl cl,.slice ak nk ck] w6:=(k6 q (by have:=HQ.out;omega) (by have:=HZQ.out;have:=HZ5.out;omega)).trans HK5.out;have e0:=KD.cell 0 _ rfl;have e1:=KD.cell 1 _ rfl;have e2:=KD.cell 2 _ rfl;have e3:=KD.cell 3 _ rfl;have e4:=KD.cell 4 _ rfl;have e5:=KD.cell 5 _ rfl;have e6:=KD.cell 6 _ rfl;have e7:=KD.cell 7 _ rfl;have e8:=KD.cell 8 _ rfl;have e9:=KD.cell 9 _ rfl;have e10:=KD.cell 10 _ rfl;have HK6:=hid KD;have TC:=hid (TCX.out w6);have HP6:=hid VW;have HZ6:=hid VO;clear VW b6 k6 FC KD VO;go_wp2_with fail
    (with_reducible refine TC.out.mono ?_)
    rintro e w7 ⟨rfl,b7⟩;have hP7:=HP6.out.below b7;have hK7:=HK6.out.below b7;have VP:=aP HB6.out b7;have hP8:=fI.Zj (fun b hb=>by have:=HP.out;show b<p;omega) hP7 tt;obtain ⟨vo,Qf,hfz⟩:=hP7.opc;have jf7:=hP7.sz;have d0:=Qf.cell 0 _ rfl;have df:=mg Qf;have hqp:q≠p+1:=by have:=Zm.out;have:=HQ.out;have:=HP.out;omega
    obtain ⟨w8,hw8⟩:∃ w8,w8=w7.setCell ⟨p+1,0,none⟩ (.bool tt):=⟨_,rfl⟩;have hK8:CB 48 q [.int .i64 kd,.int .i64 lv,.string i,.string t,.string d,.string ti,.string at_.id,.slice ac nc cc,.slice ap np cp,.slice al nl cl,.slice ak nk ck] w8:=by rw [hw8];exact (jm9 w7 ⟨p+1,0,none⟩ _ q hqp).trans hK7
    have hB8:jp4 w.heap.size w w8:=by rw [hw8];exact VP.setCell (p:=⟨p+1,0,none⟩) (by show w.heap.size<=p+1;have:=HP.out;omega) _
    have d8:w8.cell? ⟨p+1,0,none⟩=some (.bool tt):=by rw [hw8];exact (dx Qf 0 _).cell 0 _ rfl
    rw [<- hw8] at hP8;have HP8:=hid hP8;have HK8:=hid hK8;have HB8:=hid hB8;have hs8:w8.heap.size=w7.heap.size:=by rw [hw8];simp [jn9]
    have HS8:=hid (show w4.heap.size<=w8.heap.size by have:=b7.size;have:=HZ6.out;omega);clear hP7 hK7 VP hP8 hK8 hB8 hqp Qf hfz b7 HP6 HK6 TC hs8 jf7 e0 e1 e2 e3 e4 e5 e6 e7 e8 e9 e10;go_upto_region 12 with (fail)
    rw [<- hw8];clear hw8 d0 df;cases tt
    case false=>
     have HR:Hid (Jf w l (.int .i64 ((k+1:Nat):Int)) w8):=⟨k+1,by have:=xQ.out;omega,rfl,by
      have e:l6 (l.take (k+1))=⟨(dR ⟨aL,⟨ot,ob⟩,sm⟩).all,⟨false,[]⟩,true⟩:=by rw [Q8.out];unfold q0z;rw [if_pos xM.out,if_neg (by rw [HTT.out];simp)]
      rw [e];have h:=HP8.out.top;rw [HP.out] at h;exact h,HB8.out⟩
     go_wp2;go_roundw;case rel=>exact HR.out
     case measure=>simp [intOf];omega
    case' true=>
     have HST:Hid (q0z ⟨aL,⟨ot,ob⟩,sm⟩ X=⟨(dR ⟨aL,⟨ot,ob⟩,sm⟩).all,⟨true,[]++[X]⟩,true⟩):=by show _=_;unfold q0z;rw [if_pos xM.out,if_pos HTT.out];rfl
     obtain ⟨Qg,Gr⟩:∃ Qg,Qg=(dR ⟨aL,⟨ot,ob⟩,sm⟩).all:=⟨_,rfl⟩;obtain ⟨Gs,yJ⟩:∃ Gs:List ah,Gs=[]:=⟨_,rfl⟩;obtain ⟨ti1,Gt⟩:∃ t:Bool,t=true:=⟨_,rfl⟩;obtain ⟨sm1,Ni⟩:∃ t:Bool,t=true:=⟨_,rfl⟩;obtain ⟨M9,Yj⟩:∃ M9,M9=w6.heap.size:=⟨_,rfl⟩;obtain ⟨w9,bM⟩:∃ w9,w9=w8:=⟨_,rfl⟩;have Zn:Hid (fI (·<w.heap.size) p M9 ⟨Qg,⟨ti1,Gs⟩,sm1⟩ w9):=by show fI _ _ _ _ _;rw [Gr,yJ,Gt,Ni,Yj,bM];exact HP8.out
     have yF:Hid (q0z ⟨aL,⟨ot,ob⟩,sm⟩ X=⟨Qg,⟨ti1,Gs++[X]⟩,true⟩):=by show _=_;rw [HST.out,Gr,yJ,Gt]
     have Qa:Hid (Gs.length<=2000000):=by show _<=_;rw [yJ];simp
     have HOQ:Hid (Gs=[]\/M9<=q):=.inl yJ;have Zf:Hid (CB 48 q [.int .i64 kd,.int .i64 lv,.string i,.string t,.string d,.string ti,.string at_.id,.slice ac nc cc,.slice ap np cp,.slice al nl cl,.slice ak nk ck] w9):=by show CB _ _ _ _;rw [bM];exact HK8.out
     have C9:Hid (jp4 w.heap.size w w9):=by show jp4 _ _ _;rw [bM];exact HB8.out
     clear Gr yJ Gt Ni Yj HP8 HK8 HB8 HS8 Yi qM HK5 HZ5 HB6 HZ6 HST;go_upto_region 13 with (fail)
     rw [<- bM];clear bM d8
   case' false=>
    have yF:Hid (q0z ⟨aL,⟨ot,ob⟩,sm⟩ X=⟨aL,⟨ot,ob++[X]⟩,true⟩):=by show _=_;unfold q0z;rw [if_neg (by rw [xM.out];simp)]
    obtain ⟨Qg,Gr⟩:∃ Qg,Qg=aL:=⟨_,rfl⟩;obtain ⟨Gs,yJ⟩:∃ Gs:List ah,Gs=ob:=⟨_,rfl⟩;obtain ⟨ti1,Gt⟩:∃ t:Bool,t=ot:=⟨_,rfl⟩;obtain ⟨sm1,Ni⟩:∃ t:Bool,t=sm:=⟨_,rfl⟩;obtain ⟨M9,Yj⟩:∃ M9,M9=wr.heap.size:=⟨_,rfl⟩;obtain ⟨w9,bM⟩:∃ w9,w9=w5:=⟨_,rfl⟩;have Zn:Hid (fI (·<w.heap.size) p M9 ⟨Qg,⟨ti1,Gs⟩,sm1⟩ w9):=by show fI _ _ _ _ _;rw [Gr,yJ,Gt,Ni,Yj,bM,HP.out];exact Yi.out
    have yF:Hid (q0z ⟨aL,⟨ot,ob⟩,sm⟩ X=⟨Qg,⟨ti1,Gs++[X]⟩,true⟩):=by show _=_;rw [yF.out,Gr,yJ,Gt]
    have Qa:Hid (Gs.length<=2000000):=by show _<=_;rw [yJ];have h1:ob.length<=1000000:=Vr.out.2;omega
    have HOQ:Hid (Gs=[]\/M9<=q):=.inr (by rw [Yj,HQ.out];exact jm1 _);have Zf:Hid (CB 48 q [.int .i64 kd,.int .i64 lv,.string i,.string t,.string d,.string ti,.string at_.id,.slice ac nc cc,.slice ap np cp,.slice al nl cl,.slice ak nk ck] w9):=by show CB _ _ _ _;rw [bM];exact HK5.out
    have C9:Hid (jp4 w.heap.size w w9):=by show jp4 _ _ _;rw [bM];exact qM.out
    clear Gr yJ Gt Ni Yj Yi qM HK5 HZ5;go_upto_region 13 with (fail)
    rw [<- bM];clear bM
   all_goals
    have jf8:w9.cell? ⟨p+1+1,0,none⟩=some (.bool sm1):=Zn.out.smc.cell;have jf9:w9.frozen? ⟨p+1+1,0,none⟩=false:=Zn.out.smc.free;have VX:=fI.setSm (fun b hb=>by have:=HP.out;show b<p;omega) Zn.out true;obtain ⟨oW,KE⟩:∃ oW,oW=w9.setCell ⟨p+1+1,0,none⟩ (.bool true):=⟨_,rfl⟩;have VX:fI (·<w.heap.size) p M9 ⟨Qg,⟨ti1,Gs⟩,true⟩ oW:=by rw [KE];exact VX
    have hsz:=Zm.out;have hqw:q<oW.heap.size:=by rw [KE];simp [jn9];exact Zf.out.lt
    have qZ:CB 48 q [.int .i64 kd,.int .i64 lv,.string i,.string t,.string d,.string ti,.string at_.id,.slice ac nc cc,.slice ap np cp,.slice al nl cl,.slice ak nk ck] oW:=by rw [KE];exact (jm9 w9 ⟨p+1+1,0,none⟩ _ q (by show q≠p+1+1;have:=HP.out;have:=HQ.out;omega)).trans Zf.out
    have Zo:jp4 w.heap.size w oW:=by rw [KE];exact C9.out.setCell (p:=⟨p+1+1,0,none⟩) (by show w.heap.size<=p+1+1;have:=HP.out;omega) _
    obtain ⟨UA,wA,wO,rA,rO,va,vo,h1,h2,h3,h4,h5,h6,h7,h8⟩:=VX;dsimp only at h3 h4 h6 h7 h8;obtain ⟨mo,hmo⟩:∃ mo,mo=(Gs.map ah.d).length:=⟨_,rfl⟩;obtain ⟨ao,co,rfl,hco,hcom⟩:=h4.cap hmo.symm;have jk9:mo<=2000000:=by rw [hmo,jm6];exact Qa.out
    unfold maxLen at hcom;have hov:∀ g,(Value.slice ao mo co).ownBlock=some g->g<q/\p+3<=g:=fun g hg=>by
     have e1:=(h4.own.lt g hg).1;have e2:=h4.oU g hg;have e3:=h3.ou;refine ⟨?_,by omega⟩;rcases HOQ.out with e | e
     ·have:=h8 e;rw [this] at hg;cases hg
     ·omega
    have S0:jn8 oW.drew ⟨p+1,1,none⟩=some (.slice ao mo co)/\jn8 oW.drew ⟨q,0,none⟩=some (.int .i64 kd)/\jn8 oW.drew ⟨q,1,none⟩=some (.int .i64 lv)/\jn8 oW.drew ⟨q,2,none⟩=some (.string i)/\jn8 oW.drew ⟨q,3,none⟩=some (.string t)/\jn8 oW.drew ⟨q,4,none⟩=some (.string d)/\jn8 oW.drew ⟨q,5,none⟩=some (.string ti)/\jn8 oW.drew ⟨q,6,none⟩=some (.string at_.id)/\jn8 oW.drew ⟨q,7,none⟩=some (.slice ac nc cc)/\jn8 oW.drew ⟨q,8,none⟩=some (.slice ap np cp)/\jn8 oW.drew ⟨q,9,none⟩=some (.slice al nl cl)/\jn8 oW.drew ⟨q,10,none⟩=some (.slice ak nk ck):=⟨h6.cell 1 _ rfl,qZ.cell 0 _ rfl,qZ.cell 1 _ rfl,qZ.cell 2 _ rfl,qZ.cell 3 _ rfl,qZ.cell 4 _ rfl,qZ.cell 5 _ rfl,qZ.cell 6 _ rfl,qZ.cell 7 _ rfl,qZ.cell 8 _ rfl,qZ.cell 9 _ rfl,qZ.cell 10 _ rfl⟩;have xP:=hid hov;have H1:=hid h1;have H2:=hid h2;have H3:=hid h3;have H4:=hid h4;have H5:=hid h5;have H6:=hid h6;have H7:=hid h7;have HMO:=hid hmo.symm;have jfj:=hid qZ;have VY:=hid Zo;have U10:=hid h4.top.drew;have HQW:=hid hqw;have jfk:p+1<oW.heap.size:=h6.lt;clear hov h1 h2 h3 h4 h5 h6 h7 h8 hmo qZ Zo Zf C9 Zn HOQ Qa hsz hqw;go_upto_region 14 with (fail)
    rw [<- KE];clear KE jf8 jf9;refine QX 9 (fun w'=>w'.cell? ⟨p+1,1,none⟩=some (.slice ao mo co)/\w'.cell? ⟨q,0,none⟩=some (.int .i64 kd)/\w'.cell? ⟨q,1,none⟩=some (.int .i64 lv)/\w'.cell? ⟨q,2,none⟩=some (.string i)/\w'.cell? ⟨q,3,none⟩=some (.string t)/\w'.cell? ⟨q,4,none⟩=some (.string d)/\w'.cell? ⟨q,5,none⟩=some (.string ti)/\w'.cell? ⟨q,6,none⟩=some (.string at_.id)/\w'.cell? ⟨q,7,none⟩=some (.slice ac nc cc)/\w'.cell? ⟨q,8,none⟩=some (.slice ap np cp)/\w'.cell? ⟨q,9,none⟩=some (.slice al nl cl)/\w'.cell? ⟨q,10,none⟩=some (.slice ak nk ck)) (by kernel_rfl) S0 ?_;intro hH;refine ig 0 (v:=?_) rfl (by kernel_rfl) hH (by rfl) ?_ ?_;rotate_left
    ·(intro wv hSw;(try dsimp only at hSw);go_simp;try with_reducible rfl)
    try simp only [Act.put,jlk,jlq,jlx]
    refine ig 1 (v:=?_) rfl (by kernel_rfl) hH (by rfl) ?_ ?_;rotate_left
    ·(intro wv hSw;(try dsimp only at hSw);go_simp;try with_reducible rfl)
    try simp only [Act.put,jlk,jlq,jlx]
    refine ig 2 (v:=?_) rfl (by kernel_rfl) hH (by rfl) ?_ ?_;rotate_left
    ·(intro wv hSw;(try dsimp only at hSw);go_simp;try with_reducible rfl)
    try simp only [Act.put,jlk,jlq,jlx]
    refine ig 3 (v:=?_) rfl (by kernel_rfl) hH (by rfl) ?_ ?_;rotate_left
    ·(intro wv hSw;(try dsimp only at hSw);go_simp;try with_reducible rfl)
    try simp only [Act.put,jlk,jlq,jlx]
    refine q01 (i:=4) rfl (by kernel_rfl) (fun KQ hK=>?_);go_simp;refine hK.out _ _ (fun _ _=>⟨past S0.1 _,past S0.2.1 _,past S0.2.2.1 _,past S0.2.2.2.1 _,past S0.2.2.2.2.1 _,past S0.2.2.2.2.2.1 _,past S0.2.2.2.2.2.2.1 _,past S0.2.2.2.2.2.2.2.1 _,past S0.2.2.2.2.2.2.2.2.1 _,past S0.2.2.2.2.2.2.2.2.2.1 _,past S0.2.2.2.2.2.2.2.2.2.2.1 _,past S0.2.2.2.2.2.2.2.2.2.2.2 _⟩) (fun hH2=>?_);clear hK KQ hH;have hH:=hH2 (by decide) (by kernel_rfl);clear hH2;try simp only [Act.put,jlk,jlq,jlx]
    refine q01 (i:=5) rfl (by kernel_rfl) (fun KQ hK=>?_);refine zF rfl (.tmp 31) (.tmp 34) 22 rfl iB _ 192 Tryz.underlying22 xS Kv Kw Bv rfl (by decide) U10.out (fun b hb=>by have:=HP.out;have:=H3.out.ou;have:=H2.out;have:=H1.out;show b<_;have:b<w.heap.size:=hb;omega) (ah.mk 0 0 ⟨#[]⟩ ⟨#[]⟩ ⟨#[]⟩ ⟨#[]⟩ ⟨⟨#[]⟩,[],[]⟩ [] []).d [.int .i64 0,.int .i64 0,.string ⟨#[]⟩,.string ⟨#[]⟩,.string ⟨#[]⟩,.string ⟨#[]⟩,.string ⟨#[]⟩,.slice none 0 0,.slice none 0 0,.slice none 0 0,.slice none 0 0] (Q7 _ _) rfl Nf HMO.out (by omega) (by decide) rfl rfl ?_;intro g5 c5 w5 bK hg5 Bw I9;have hz5:oW.heap.size+1<=w5.heap.size:=by have:=hg5.size;simp at this;exact this
    have Zp:g5≠q/\p+3<=g5:=by
     have hz9:oW.drew.heap.size=oW.heap.size:=rfl;have e5:=HQW.out;rcases Bw with h | h
     ·have:=xP.out g5 h;omega
     ·exact ⟨by omega,by have:=H1.out;have:=H3.out.ou;have:=H3.out.sO;omega⟩
    have yG:∀ b,b=p+1\/b=q->some b≠(Value.slice ao mo co).ownBlock:=fun b hb e=>by
     have:=xP.out b e.symm;omega
    have jfq:=HQW.out;have hk5:∀ b,b<oW.heap.size->(Value.slice ao mo co).ownBlock≠some b->w5.heap[b]?=oW.heap[b]?:=fun b hb e=>(hg5.block b (by simp;omega) (fun e'=>e e'.symm)).trans (jmj oW _ b hb)
    have KF:CB 48 q [.int .i64 kd,.int .i64 lv,.string i,.string t,.string d,.string ti,.string at_.id,.slice ac nc cc,.slice ap np cp,.slice al nl cl,.slice ak nk ck] w5:=(hk5 q jfq (fun e=>yG q (.inr rfl) e.symm)).trans jfj.out;have Zq:CB 96 (p+1) [.bool ti1,.slice ao mo co] w5:=(hk5 (p+1) jfk (fun e=>yG (p+1) (.inl rfl) e.symm)).trans H6.out;have S5:jn8 w5 ⟨p+1,1,none⟩=some (.slice ao mo co)/\jn8 w5 ⟨q,0,none⟩=some (.int .i64 kd)/\jn8 w5 ⟨q,1,none⟩=some (.int .i64 lv)/\jn8 w5 ⟨q,2,none⟩=some (.string i)/\jn8 w5 ⟨q,3,none⟩=some (.string t)/\jn8 w5 ⟨q,4,none⟩=some (.string d)/\jn8 w5 ⟨q,5,none⟩=some (.string ti)/\jn8 w5 ⟨q,6,none⟩=some (.string at_.id)/\jn8 w5 ⟨q,7,none⟩=some (.slice ac nc cc)/\jn8 w5 ⟨q,8,none⟩=some (.slice ap np cp)/\jn8 w5 ⟨q,9,none⟩=some (.slice al nl cl)/\jn8 w5 ⟨q,10,none⟩=some (.slice ak nk ck):=⟨Zq.cell 1 _ rfl,KF.cell 0 _ rfl,KF.cell 1 _ rfl,KF.cell 2 _ rfl,KF.cell 3 _ rfl,KF.cell 4 _ rfl,KF.cell 5 _ rfl,KF.cell 6 _ rfl,KF.cell 7 _ rfl,KF.cell 8 _ rfl,KF.cell 9 _ rfl,KF.cell 10 _ rfl⟩;obtain ⟨yc,yf⟩:=bK.TQ HMO.out;have y0:jn8 w5 ⟨g5,mo*11,none⟩=some (.int .i64 0):=yc 0 _ rfl;have y1:=yc 1 _ rfl;have y2:=yc 2 _ rfl;have y3:=yc 3 _ rfl;have y4:=yc 4 _ rfl;have y5:=yc 5 _ rfl;have y6:=yc 6 _ rfl;have y7:=yc 7 _ rfl;have y8:=yc 8 _ rfl;have y9:=yc 9 _ rfl;have y10:=yc 10 _ rfl;have t0:(0:Int)<=(mo:Int):=by omega
    have t1:(mo:Int)<((mo+1:Nat):Int):=by omega
    have t2:(mo:Int)<(mo:Int)+1:=by omega
    have t3:mo<mo+1:=by omega
    have HF:=Ng (x:=X) (r1:=[.int .i64 kd,.int .i64 lv,.string i,.string t,.string d,.string ti,.string at_.id,.slice ac nc cc,.slice ap np cp,.slice al nl cl,.slice ak nk ck]) (fun b (hb:b<w.heap.size)=>by have:=HP.out;omega) H1.out H2.out H3.out H4.out H5.out H6.out H7.out HMO.out bK rfl hk5 (by omega) ⟨hg5.os,hg5.tape,hg5.output⟩ (Bw.imp id (fun h=>by have hz9:oW.drew.heap.size=oW.heap.size:=rfl;omega)) (Rd.keep (fun b (hb:b<w.heap.size) _=>⟨hb,(hk5 b (by have:=VY.out.size;omega) (fun e=>by have:=xP.out b e;have:=HP.out;omega)).trans (VY.out.block b hb)⟩) _ _ HXR.out);have HFF:=hid HF;have zp:=Zq.cell 1 _ rfl;have zpf:=mg Zq;refine hK.out _ _ (fun _ _=>S5) (fun hH2=>?_);clear hK KQ hH;have hH:=hH2 (by decide) (by kernel_rfl);clear hH2;try simp only [Act.put,jlk,jlq,jlx]
    refine ig 8 (v:=?_) rfl (by kernel_rfl) hH (by rfl) ?_ ?_;rotate_left
    ·(intro wv hSw;(try dsimp only at hSw);go_simp;try with_reducible rfl)
    try simp only [Act.put,jlk,jlq,jlx]
    have gZ:w5.grownBy (w5.setCell ⟨p+1,1,none⟩ (.slice (some ⟨g5,0,none⟩) (mo+1) c5)) (some (p+1)):=⟨rfl,rfl,rfl,by simp [jn9],fun b _ hb=>jm9 w5 ⟨p+1,1,none⟩ _ b (fun e=>hb (by rw [e]))⟩;obtain ⟨wZ,Zh,sQ⟩:=bK.yH (p:=p+1) (by have:=H1.out;have:=H2.out;have:=H3.out.ou;omega) (fun (h:p+1<w.heap.size)=>by have:=HP.out;omega) gZ;obtain ⟨uc,uf⟩:=sQ.TQ HMO.out;have u0:jn8 (w5.setCell ⟨p+1,1,none⟩ (.slice (some ⟨g5,0,none⟩) (mo+1) c5)) ⟨g5,mo*11,none⟩=some (.int .i64 0):=uc 0 _ rfl;have u1:=uc 1 _ rfl;have u2:=uc 2 _ rfl;have u3:=uc 3 _ rfl;have u4:=uc 4 _ rfl;have u5:=uc 5 _ rfl;have u6:=uc 6 _ rfl;have u7:=uc 7 _ rfl;have u8:=uc 8 _ rfl;have u9:=uc 9 _ rfl;have u10:=uc 10 _ rfl;have hpg:p+1≠g5:=by omega
    have hqg:q≠g5:=fun e=>Zp.1 e.symm
    have kq6:CB 48 q [.int .i64 kd,.int .i64 lv,.string i,.string t,.string d,.string ti,.string at_.id,.slice ac nc cc,.slice ap np cp,.slice al nl cl,.slice ak nk ck] (oD w5 g5 (mo*11) [.int .i64 kd,.int .i64 lv,.string i,.string t,.string d,.string ti,.string at_.id,.slice ac nc cc,.slice ap np cp,.slice al nl cl,.slice ak nk ck]):=(gV g5 _ _ _ q hqg).trans KF;have kp6:CB 96 (p+1) [.bool ti1,.slice ao mo co] (oD w5 g5 (mo*11) [.int .i64 kd,.int .i64 lv,.string i,.string t,.string d,.string ti,.string at_.id,.slice ac nc cc,.slice ap np cp,.slice al nl cl,.slice ak nk ck]):=(gV g5 _ _ _ (p+1) hpg).trans Zq;have vS:=hid kq6;have jfx:=hid kp6;have KG:=hid hpg;have zp6:=kp6.cell 1 _ rfl;have Zr:=mg kp6;clear kq6 kp6 gZ Zh sQ uc yc bK hg5 Bw I9 Zp yG hk5 KF Zq HF S0 hpg hqg;apply TM;case hm=>
     intro REST;refine xR (i:=6) (j:=9) rfl rfl (by kernel_rfl) (fun KQ hK=>?_) (fun KQ hK=>?_);rotate_left
     ·go_simp;refine hK.out _ _ (fun h=>absurd rfl h) (fun _=>?_);clear hK KQ;try simp only [Act.put,jlk,jlq,jlx]
      refine q01 (i:=6) rfl (by kernel_rfl) (fun KQ hK=>?_);go_simp;refine hK.out _ _ (fun _ h=>absurd h (by decide)) (fun _=>?_);clear hK KQ;try simp only [Act.put,jlk,jlq,jlx]
      refine q01 (i:=7) rfl (by kernel_rfl) (fun KQ hK=>?_);go_simp;refine hK.out _ (oD (w5.setCell ⟨p+1,1,none⟩ (.slice (some ⟨g5,0,none⟩) (mo+1) c5)) g5 (mo*11) [.int .i64 kd,.int .i64 lv,.string i,.string t,.string d,.string ti,.string at_.id,.slice ac nc cc,.slice ap np cp,.slice al nl cl,.slice ak nk ck]) (fun _ h=>absurd h (by decide)) (fun _=>?_);clear hK KQ;try simp only [Act.put,jlk,jlq,jlx]
      refine Gp (by kernel_rfl) ?_ _;rw [ru g5 (p+1) 1 _ KG.out];exact REST
     go_simp;refine hK.out _ _ (fun _ _=>S5) (fun hH2=>?_);clear hK KQ;have hH:=hH2 (by decide) (by kernel_rfl);clear hH2;try simp only [Act.put,jlk,jlq,jlx]
     refine xR (i:=7) (j:=9) rfl rfl (by kernel_rfl) (fun KQ hK=>?_) (fun KQ hK=>?_)
     ·go_simp;refine hK.out _ (oD w5 g5 (mo*11) [.int .i64 kd,.int .i64 lv,.string i,.string t,.string d,.string ti,.string at_.id,.slice ac nc cc,.slice ap np cp,.slice al nl cl,.slice ak nk ck]) (fun _ _=>⟨jfx.out.cell 1 _ rfl,vS.out.cell 0 _ rfl,vS.out.cell 1 _ rfl,vS.out.cell 2 _ rfl,vS.out.cell 3 _ rfl,vS.out.cell 4 _ rfl,vS.out.cell 5 _ rfl,vS.out.cell 6 _ rfl,vS.out.cell 7 _ rfl,vS.out.cell 8 _ rfl,vS.out.cell 9 _ rfl,vS.out.cell 10 _ rfl⟩) (fun hH2=>?_);clear hK KQ;have hH:=hH2 (by decide) (by kernel_rfl);clear hH2;try simp only [Act.put,jlk,jlq,jlx]
      refine q01 (i:=9) rfl (by kernel_rfl) (fun KQ hK=>?_);go_simp;refine hK.out _ _ (fun h=>absurd rfl h) (fun _=>?_);clear hK KQ;try simp only [Act.put,jlk,jlq,jlx]
      refine Gp (by kernel_rfl) ?_ _;exact REST
     ·go_simp;refine hK.out _ _ (fun h=>absurd rfl h) (fun _=>?_);clear hK KQ;try simp only [Act.put,jlk,jlq,jlx]
      refine q01 (i:=7) rfl (by kernel_rfl) (fun KQ hK=>?_);go_simp;refine hK.out _ (oD (w5.setCell ⟨p+1,1,none⟩ (.slice (some ⟨g5,0,none⟩) (mo+1) c5)) g5 (mo*11) [.int .i64 kd,.int .i64 lv,.string i,.string t,.string d,.string ti,.string at_.id,.slice ac nc cc,.slice ap np cp,.slice al nl cl,.slice ak nk ck]) (fun _ h=>absurd h (by decide)) (fun _=>?_);clear hK KQ;try simp only [Act.put,jlk,jlq,jlx]
      refine Gp (by kernel_rfl) ?_ _;rw [ru g5 (p+1) 1 _ KG.out];exact REST
    case hr=>
     clear S5 y0 y1 y2 y3 y4 y5 y6 y7 y8 y9 y10 yf u0 u1 u2 u3 u4 u5 u6 u7 u8 u9 u10 uf zp zpf zp6 Zr t0 t1 t2 t3;obtain ⟨w8,hw8⟩:∃ w8,w8=(oD w5 g5 (mo*11) [.int .i64 kd,.int .i64 lv,.string i,.string t,.string d,.string ti,.string at_.id,.slice ac nc cc,.slice ap np cp,.slice al nl cl,.slice ak nk ck]).setCell ⟨p+1,1,none⟩ (.slice (some ⟨g5,0,none⟩) (mo+1) c5):=⟨_,rfl⟩;have hff:=HFF.out;rw [<- hw8] at hff ⊢;have HR:Hid (Jf w l (.int .i64 ((k+1:Nat):Int)) w8):=⟨k+1,by have:=xQ.out;omega,rfl,by
      rw [Q8.out,yF.out];have h:=hff.1.top;rw [HP.out] at h;exact h,VY.out.trans (by have h:=hff.2;rw [HP.out] at h;exact h)⟩
     clear hff hw8;go_wp2;go_roundw;case rel=>exact HR.out
     case measure=>simp [intOf];omega
  ·have hkl:k=l.length:=by have:=xQ.out;omega
   have HKL:=hid hkl;have HB9:=hid hB;have FC:Hid (Calls Tryz.prog 102 #[.pointer (some ⟨p+1+1,0,none⟩),.pointer (some ⟨p,0,none⟩),.pointer (some ⟨p+1,0,none⟩)] wr (qY (·<w.heap.size) p wr.heap.size (dR s) wr)):=(vP (·<w.heap.size) p wr.heap.size s wr (fun b hb=>by have:=HP.out;show b<p;omega) (by rw [HP.out];exact hP) (by have:=Vr.out.1;omega));clear hkl hP hB;go_wp2_with fail
   (with_reducible refine FC.out.mono ?_)
   rintro e w6 ⟨rfl,VW,b6,-⟩;have hbf:jp4 w.heap.size w w6:=HB9.out.trans (by rw [HP.out] at b6;exact b6);obtain ⟨UA,wA,wO,rA,rO,va,vo,h1,h2,h3,h4,h5,h6,h7,h8⟩:=VW;have hrd:Rd (·<w6.heap.size) w6 (.sl 2 ((dZ l).map Pt.d)) [va]:=by
    have e:(dR s).all=dZ l:=by unfold dZ;rw [HSD.out,HKL.out,List.take_length]
    rw [<- e];exact Rd.keep (fun b _ hlt=>⟨hlt,rfl⟩) _ _ h3.rd
   obtain ⟨a6,n6,c6,rfl⟩:=h3.TN;have x0:=h5.cell;have FI:=hid hrd;have HBF:=hid hbf;clear h1 h2 h3 h4 h5 h6 h7 h8 hrd hbf b6 FC;go_wp2;go_ret;exact ⟨_,rfl,FI.out,HBF.out⟩
open Go.RowKit
structure Y0 (li:List aj):Prop where
 sz:aj.aR li<=900000
 sm:aj.aF li
 tf:aj.Gm li
theorem sU (name:ByteArray):∀ (cs:List UInt8) (l:List ah) (k:Nat) (c:UInt8) (b:ah),cs[k]?=some c->l[k]?=some b->oZ name (cs.take (k+1)) (l.take (k+1))=oZ name (cs.take k) (l.take k)++[TS name c b]
 | [],_,_,_,_,h,_=>by simp at h
 | _::_,[],_,_,_,_,h=>by simp at h
 | c0::cs,b0::l,0,c,b,h1,h2=>by
  simp at h1 h2;subst h1 h2;simp [oZ]
 | c0::cs,b0::l,k+1,c,b,h1,h2=>by
  rw [List.take_succ_cons,List.take_succ_cons,List.take_succ_cons,List.take_succ_cons,oZ,oZ,sU name cs l k c b (by simpa using h1) (by simpa using h2)];rfl
theorem vT (name:ByteArray):∀ (cs:List UInt8) (l:List ah),(oZ name cs l).length<=l.length
 | [],l=>by simp [oZ]
 | _::_,[]=>by simp [oZ]
 | c::cs,b::l=>by rw [oZ,jm7,jm7];have:=vT name cs l;omega
def Nj (Q:Nat) (w1:jp3) (name:ByteArray) (cs:List UInt8) (ks:List ah) (vi:jp5) (wr:jp3):Prop:=
 ∃ (k:Nat) (rows:List (List jp5)) (v:jp5) (U:Nat) (wB:jp3),k<=ks.length/\vi=.int .i64 k/\wB.heap.size=Q+1/\ay 35 4 (fun _=>False) U wB ((oZ name (cs.take k) (ks.take k)).map Nd.d) rows v wr /\
  CB 35 Q [.string ⟨#[116,114]⟩,.string ⟨#[]⟩,.slice none 0 0,v] wr/\jp4 Q w1 wr
theorem cb4 {p:Nat} {w:jp3} {c0 c1 c2 c3:jp5} (h:CB 35 p [c0,c1,c2,c3] w):w.cell? ⟨p,0,none⟩=some c0/\w.cell? ⟨p,1,none⟩=some c1/\w.cell? ⟨p,2,none⟩=some c2/\w.cell? ⟨p,3,none⟩=some c3/\∀ j,w.frozen? ⟨p,j,none⟩=false:=
 ⟨h.cell 0 _ rfl,h.cell 1 _ rfl,h.cell 2 _ rfl,h.cell 3 _ rfl,mg h⟩
theorem Ef (k lv:Int) (i t d ti:ByteArray) (at_:At) (li:List aj) (ks:List ah) (vc vp vl vk:jp5) (name letters:ByteArray) (w:jp3) (hR:kN (·<w.heap.size) w at_ li ks vc vp vl vk) (hlen:ks.length=letters.size) (hk1:ks.length<=1000000) (hc:∀ c∈ks,Y0 c.mI) : Calls Tryz.prog 174 #[.agg #[.int .i64 k,.int .i64 lv,.string i,.string t,.string d,.string ti,.string at_.id,vc,vp,vl,vk],.string name,.string letters] w (sI w (aQ xU [] (oZ name letters.data.toList ks))):=by
 obtain ⟨iN,FH,nW,og,oh⟩:=info_parts mG;obtain ⟨ac,nc,cc,rfl⟩:=Rd.au hR.at_.cls
 obtain ⟨ap,np,cp,rfl⟩:=Rd.au hR.at_.aJ
 obtain ⟨al,nl,cl,rfl⟩:=Rd.au hR.line;obtain ⟨ak,ck,hvk,hs⟩:=Rd.aB hR.kids;obtain ⟨nk,hnk⟩:∃ nk,nk=ks.length:=⟨_,rfl⟩;obtain rfl:vk=.slice ak nk ck:=by rw [hnk];simpa using hvk
 have hcap:nk<=ck:=by have:=hs.le;rw [jm6] at this;omega
 have hmx:=hs.max;unfold maxLen at hmx;have hnl:nk=letters.size:=by rw [hnk,hlen]
 obtain ⟨S,W0,hS,hW0,z0,k0,k1,b0⟩:=rz 48 w [.int .i64 k,.int .i64 lv,.string i,.string t,.string d,.string ti,.string at_.id,.slice ac nc cc,.slice ap np cp,.slice al nl cl,.slice ak nk ck];have KX:Hid (∀ w':jp3,jp4 W0.heap.size W0 w'->w'.cell? ⟨S,10,none⟩=some (.slice ak nk ck)):=fun w' hb=>(k0.below hb).cell 10 _ rfl
 have HS2:Hid (mh (·<S) W0 11 (ks.map ah.d) ak ck):=by subst hS;exact hs.below b0
 have Da:=hid hS;have HW0:=hid hW0;have Z0:=hid z0;have B0:=hid b0;have K1:=hid k1;have HC:=hid hc;have IY:=hid hnk;have xQ:=hid hnl;have EC:=hid (kM ⟨#[116,114]⟩ none none 0 0 0 0 W0);have Y2:nk<=1000000:=by omega
 have hls:letters.size<=1000000:=by omega
 clear hR hvk hs hnk hnl hlen hS hW0 z0 k0 k1 b0 hc hk1;go_enter Tryz.func174,Tryz.ntmps174;go_upto_region 1 with (fail)
 rw [<- Da.out];have hk0:=HW0.out;simp only [jN] at hk0;rw [<- hk0];clear hk0;go_wp2_with fail
 (with_reducible refine EC.out.mono ?_)
 rintro e w1 ⟨rfl,b1⟩;go_upto_region 2 with (fail)
 obtain ⟨Q,hQ⟩:∃ Q,Q=w1.heap.size:=⟨_,rfl⟩;obtain ⟨wQ,VZ⟩:∃ wQ,wQ=w1.alloc (.cells #[.string ⟨#[116,114]⟩,.string ⟨#[]⟩,.slice none 0 0,.slice none 0 0] 35):=⟨_,rfl⟩;have zQ:wQ.heap.size=Q+1:=by rw [VZ,hQ];simp
 have kQ:CB 35 Q [.string ⟨#[116,114]⟩,.string ⟨#[]⟩,.slice none 0 0,.slice none 0 0] wQ:=by rw [VZ,hQ];exact CB.new _ _ w1
 have bQ:jp4 Q w1 wQ:=by rw [VZ,hQ];exact (jm0 _ _).alloc (jm1 _) _
 have hWQ:W0.heap.size<=Q:=by rw [hQ];exact b1.size
 have R0:Hid (Nj Q w1 name letters.data.toList ks (.int .i64 0) wQ):=⟨0,[],_,Q+1,wQ,Nat.zero_le _,rfl,zQ,by rw [<- zQ];exact ay.nil _ _ _ _,kQ,bQ⟩;have B1:=hid b1;have g10:=KX.out wQ (b1.trans (bQ.mono hWQ));rw [<- VZ,<- hQ];clear VZ zQ kQ bQ b1 EC hQ;go_wp2
 go_loopw [15] (fun vi wr=>Nj Q w1 name letters.data.toList ks vi wr) (fun i _=>nk-(intOf i).toNat)
 case atStart=>exact R0.out
 case round=>
  clear R0 g10;obtain ⟨j,rows,v,U,wB,hj,rfl,TI,hrow,hcb,hbel⟩:=hrel;obtain ⟨ds,hds⟩:∃ ds,ds=(oZ name (letters.data.toList.take j) (ks.take j)).map Nd.d:=⟨_,rfl⟩;rw [<- hds] at hrow;obtain ⟨m,hm⟩:∃ m,m=ds.length:=⟨_,rfl⟩;have hmj:m<=1000000:=by have h:=vT name (letters.data.toList.take j) (ks.take j);have h2:(ks.take j).length<=ks.length:=List.length_take_le' _ _;rw [hm,hds,jm6];have:=IY.out;omega
  obtain ⟨av,cv,rfl,-,-⟩:=hrow.cap hm.symm;have HM:=hid hm.symm;have FD:=hid hds;have bV:=hid hrow;have PU:=hid hcb;have CY:=hid TI;have dD:=hid hbel;have hUr:=hrow.sO;have hQU:Q+1<=U:=by have:=hrow.ou;omega
  clear hrow hcb hm hds TI hbel;by_cases hlt:j<nk
  ·obtain ⟨y,hy⟩:∃ y,ks[j]?=some y:=⟨_,jlz (by have:=IY.out;omega)⟩;have hjs:j<letters.size:=by have:=xQ.out;omega
   obtain ⟨c,hcx⟩:∃ c,letters.data.toList[j]?=some c:=⟨_,jlz (by simpa using hjs)⟩;have hsn:=sU name _ _ _ _ _ hcx hy;have hlw:=HC.out y (jmq hy);obtain ⟨yk,IZ,yi,yt,yd,I5,Gd,Kk,I6⟩:=y;have hlw:Y0 Kk:=hlw;obtain ⟨g,off,vc,vp,vl,vk,rfl,hok,hbl,hc,hR⟩:=I7 HS2.out hy;have V3:jp4 S W0 wr:=((jm0 _ _).trans (B1.out.mono (by have:=Z0.out;omega))).trans (dD.out.mono (by have:=Z0.out;omega));obtain ⟨c0,c1,c2,c3,c4,c5,c6,c7,c8,c9,c10⟩:=hc.at2 (w':=wr) (V3.block g hok);obtain ⟨MO,MP,MQ,rfl⟩:=Rd.au hR.at_.cls
   obtain ⟨MR,MS,MU,rfl⟩:=Rd.au hR.at_.aJ
   obtain ⟨CF,CG,CJ,rfl⟩:=Rd.au hR.line;obtain ⟨MV,MW,MX,rfl⟩:=Rd.au hR.kids;have HLI:Hid (Rd (·<S) W0 (aX Kk) [.slice CF CG CJ]):=hR.line;have HLW:=hid hlw;have AZ:=hid (show (oZ name (letters.data.toList.take (j+1)) (ks.take (j+1))).map Nd.d=ds++[(aQ name (jL yK (fT c)) (kG Kk)).d] by rw [hsn,jn1,FD.out];rfl);have HCX:=hid hcx;have jfz:=hid V3;have hlet:(letters[j]'hjs)=c:=by have h:=hcx;rw [jlz (by simpa using hjs)] at h;exact Option.some.inj h
   have t7:(j:Int)<(letters.size:Int):=by omega
   clear hc hok hbl hR hsn hlw hy hcx V3;go_upto_region 5 with (fail)
   obtain ⟨p,hp⟩:∃ p,p=wr.heap.size:=⟨_,rfl⟩;obtain ⟨wA,iL⟩:∃ wA,wA=wr.alloc (.cells #[.int .i64 yk,.int .i64 IZ,.string yi,.string yt,.string yd,.string I5,.string Gd.id,.slice MO MP MQ,.slice MR MS MU,.slice CF CG CJ,.slice MV MW MX] 48):=⟨_,rfl⟩;have PA:CB 48 p [.int .i64 yk,.int .i64 IZ,.string yi,.string yt,.string yd,.string I5,.string Gd.id,.slice MO MP MQ,.slice MR MS MU,.slice CF CG CJ,.slice MV MW MX] wA:=by rw [iL,hp];exact CB.new _ _ wr
   have bA:jp4 wr.heap.size wr wA:=by rw [iL];exact (jm0 _ _).alloc (jm1 _) _
   have zA:wA.heap.size=p+1:=by rw [iL,hp];simp
   rw [<- iL,<- hp];have hpr:wr.heap.size<=p:=by omega
   have hzA:wr.heap.size+1<=wA.heap.size:=by omega
   have hzp:p+1<=wA.heap.size:=by omega
   have hSW:S+2<=W0.heap.size:=Nat.le_of_eq Z0.out.symm;have BA:=hid bA;have HPA:=hid PA;have ZA:=hid zA;clear iL hp c0 c1 c2 c3 c4 c5 c6 c7 c8 c9 c10 PA bA zA;have q7:letters[j]?=some c:=by rw [<- hlet];exact getElem?_pos letters j hjs
   apply Zt (α1:=jp3) (α2:=Option Addr) (α3:=Nat) (α4:=Nat) (α5:=Nat->jp5) (R:=fun w2 a2 n2 c2 f=>Hid (jp4 wA.heap.size wA w2)/\Hid (Rd (wA.heap.size<=·) w2 (bP (jL yK (fT c))) [.slice a2 n2 c2]));case hm=>
    intro REST;go_upto_region 7 with (fail)
    by_cases Nk:c=108
    ·have q1:((c.toNat:Int)==108)=true:=by rw [Nk];rfl
     have hal:jL yK (fT c)=[⟨yK,⟨#[108,101,102,116]⟩⟩]:=by rw [Nk];rfl
     have PC:Hid (Calls Tryz.prog 41 #[.slice (some ⟨wA.heap.size,0,none⟩) 2 2] (wA.alloc (.cells #[.string ⟨#[97,108,105,103,110]⟩,.string ⟨#[108,101,102,116]⟩] 9)) (bI (wA.alloc (.cells #[.string ⟨#[97,108,105,103,110]⟩,.string ⟨#[108,101,102,116]⟩] 9)) [⟨yK,⟨#[108,101,102,116]⟩⟩])):=QE yK ⟨#[108,101,102,116]⟩ wA;go_wp2_with fail
     (with_reducible refine PC.out.mono ?_)
     rintro e w2 ⟨bR,v2,rfl,hrow2⟩;obtain ⟨a2,n2,c2,rfl⟩:=hrow2.slice3;have bl:jp4 wA.heap.size wA (wA.alloc (.cells #[.string ⟨#[97,108,105,103,110]⟩,.string ⟨#[108,101,102,116]⟩] 9)):=(jm0 _ _).alloc (jm1 _) _;have PR:=hid (show Rd (wA.heap.size<=·) w2 (bP (jL yK (fT c))) [.slice a2 n2 c2] by rw [hal];exact hrow2.fD.weaken (fun b hb=>jm2 bl.size hb));have B2:=hid (bl.trans (hrow2.aI.mono bl.size));clear hrow2 bl PC hal;go_upto_region 13 with (fail)
     refine nN [22,23,24,25,26,27,28,29,30,31,32,33,34] (fun f=>?_);simp only [List.foldl_cons,List.foldl_nil,jlx,jlq];exact REST w2 a2 n2 c2 f ⟨B2,PR⟩
    by_cases Yk:c=99
    ·have jg0:((c.toNat:Int)==108)=false:=by rw [Yk];rfl
     have q1:((c.toNat:Int)==99)=true:=by rw [Yk];rfl
     have hal:jL yK (fT c)=[⟨yK,⟨#[99,101,110,116,101,114]⟩⟩]:=by rw [Yk];rfl
     have PC:Hid (Calls Tryz.prog 41 #[.slice (some ⟨wA.heap.size,0,none⟩) 2 2] (wA.alloc (.cells #[.string ⟨#[97,108,105,103,110]⟩,.string ⟨#[99,101,110,116,101,114]⟩] 9)) (bI (wA.alloc (.cells #[.string ⟨#[97,108,105,103,110]⟩,.string ⟨#[99,101,110,116,101,114]⟩] 9)) [⟨yK,⟨#[99,101,110,116,101,114]⟩⟩])):=QE yK ⟨#[99,101,110,116,101,114]⟩ wA;go_wp2_with fail
     (with_reducible refine PC.out.mono ?_)
     rintro e w2 ⟨bR,v2,rfl,hrow2⟩;obtain ⟨a2,n2,c2,rfl⟩:=hrow2.slice3;have bl:jp4 wA.heap.size wA (wA.alloc (.cells #[.string ⟨#[97,108,105,103,110]⟩,.string ⟨#[99,101,110,116,101,114]⟩] 9)):=(jm0 _ _).alloc (jm1 _) _;have PR:=hid (show Rd (wA.heap.size<=·) w2 (bP (jL yK (fT c))) [.slice a2 n2 c2] by rw [hal];exact hrow2.fD.weaken (fun b hb=>jm2 bl.size hb));have B2:=hid (bl.trans (hrow2.aI.mono bl.size));clear hrow2 bl PC hal;go_upto_region 13 with (fail)
     refine nN [22,23,24,25,26,27,28,29,30,31,32,33,34] (fun f=>?_);simp only [List.foldl_cons,List.foldl_nil,jlx,jlq];exact REST w2 a2 n2 c2 f ⟨B2,PR⟩
    by_cases Gu:c=114
    ·have q99:((c.toNat:Int)==99)=false:=by rw [Gu];rfl
     have jg0:((c.toNat:Int)==108)=false:=by rw [Gu];rfl
     have q1:((c.toNat:Int)==114)=true:=by rw [Gu];rfl
     have hal:jL yK (fT c)=[⟨yK,⟨#[114,105,103,104,116]⟩⟩]:=by rw [Gu];rfl
     have PC:Hid (Calls Tryz.prog 41 #[.slice (some ⟨wA.heap.size,0,none⟩) 2 2] (wA.alloc (.cells #[.string ⟨#[97,108,105,103,110]⟩,.string ⟨#[114,105,103,104,116]⟩] 9)) (bI (wA.alloc (.cells #[.string ⟨#[97,108,105,103,110]⟩,.string ⟨#[114,105,103,104,116]⟩] 9)) [⟨yK,⟨#[114,105,103,104,116]⟩⟩])):=QE yK ⟨#[114,105,103,104,116]⟩ wA;go_wp2_with fail
     (with_reducible refine PC.out.mono ?_)
     rintro e w2 ⟨bR,v2,rfl,hrow2⟩;obtain ⟨a2,n2,c2,rfl⟩:=hrow2.slice3;have bl:jp4 wA.heap.size wA (wA.alloc (.cells #[.string ⟨#[97,108,105,103,110]⟩,.string ⟨#[114,105,103,104,116]⟩] 9)):=(jm0 _ _).alloc (jm1 _) _;have PR:=hid (show Rd (wA.heap.size<=·) w2 (bP (jL yK (fT c))) [.slice a2 n2 c2] by rw [hal];exact hrow2.fD.weaken (fun b hb=>jm2 bl.size hb));have B2:=hid (bl.trans (hrow2.aI.mono bl.size));clear hrow2 bl PC hal;go_upto_region 13 with (fail)
     refine nN [22,23,24,25,26,27,28,29,30,31,32,33,34] (fun f=>?_);simp only [List.foldl_cons,List.foldl_nil,jlx,jlq];exact REST w2 a2 n2 c2 f ⟨B2,PR⟩
    have q1:((c.toNat:Int)==108)=false:=by rw [beq_eq_false_iff_ne];intro h;exact Nk (UInt8.toNat_inj.1 (show c.toNat=108 by omega))
    have q2:((c.toNat:Int)==99)=false:=by rw [beq_eq_false_iff_ne];intro h;exact Yk (UInt8.toNat_inj.1 (show c.toNat=99 by omega))
    have q3:((c.toNat:Int)==114)=false:=by rw [beq_eq_false_iff_ne];intro h;exact Gu (UInt8.toNat_inj.1 (show c.toNat=114 by omega))
    have hal:fT c=⟨#[]⟩:=by unfold fT;rw [if_neg Nk,if_neg Yk,if_neg Gu]
    have PR:Hid (Rd (wA.heap.size<=·) wA (bP (jL yK (fT c))) [.slice none 0 0]):=by rw [hal];exact Rd.aD _ _ _
    clear Nk Yk Gu hal;go_upto_region 13 with (fail)
    refine nN [22,23,24,25,26,27,28,29,30,31,32,33,34] (fun f=>?_);simp only [List.foldl_cons,List.foldl_nil,jlx,jlq];exact REST wA none 0 0 f ⟨jm0 _ _,PR⟩
   case hr=>
    intro w2 a2 n2 c2 f ⟨B2,PR⟩;have U2:=hid ((bV.out.below BA.out).below B2.out);have CQ2:=hid ((PU.out.below BA.out).below B2.out);have L9:=hid (HPA.out.below B2.out);have hz2:=B2.out.size;have LC:=hid (zw 900000 Kk (.slice CF CG CJ) w2.drew HLW.out.sz (by decide) (Rd.keep (w:=W0) (w':=w2.drew) (ok:=(·<S)) (fun b (hb:b<S) hlt=>⟨by show b<w2.heap.size;have:=Z0.out;omega,(show w2.heap[b]?=W0.heap[b]? from (B2.out.block b (by have:=Z0.out;omega)).trans ((BA.out.block b (by have:=Z0.out;omega)).trans (jfz.out.block b hb)))⟩) _ _ HLI.out) HLW.out.sm HLW.out.tf);have S0:w2.drew.cell? ⟨Q,3,none⟩=some (.slice av m cv)/\w2.drew.cell? ⟨p,9,none⟩=some (.slice CF CG CJ):=⟨CQ2.out.cell 3 _ rfl,L9.out.cell 9 _ rfl⟩;refine mM 11 (fun w'=>w'.cell? ⟨Q,3,none⟩=some (.slice av m cv)/\w'.cell? ⟨p,9,none⟩=some (.slice CF CG CJ)) (by kernel_rfl) S0 ?_;intro hH;refine Qc 0 (v:=?_) rfl (by kernel_rfl) hH (by rfl) ?_ ?_;rotate_left
    ·(intro wv hSw;(try dsimp only at hSw);go_simp;try with_reducible rfl)
    try simp only [Act.put,jlk,jlq,jlx]
    refine Qc 1 (v:=?_) rfl (by kernel_rfl) hH (by rfl) ?_ ?_;rotate_left
    ·(intro wv hSw;(try dsimp only at hSw);go_simp;try with_reducible rfl)
    try simp only [Act.put,jlk,jlq,jlx]
    refine Qc 2 (v:=?_) rfl (by kernel_rfl) hH (by rfl) ?_ ?_;rotate_left
    ·(intro wv hSw;(try dsimp only at hSw);go_simp;try with_reducible rfl)
    try simp only [Act.put,jlk,jlq,jlx]
    refine Qc 3 (v:=?_) rfl (by kernel_rfl) hH (by rfl) ?_ ?_;rotate_left
    ·(intro wv hSw;(try dsimp only at hSw);go_simp;try with_reducible rfl)
    try simp only [Act.put,jlk,jlq,jlx]
    refine Qc 4 (v:=?_) rfl (by kernel_rfl) hH (by rfl) ?_ ?_;rotate_left
    ·(intro wv hSw;(try dsimp only at hSw);go_simp;try with_reducible rfl)
    try simp only [Act.put,jlk,jlq,jlx]
    refine Qc 5 (v:=?_) rfl (by kernel_rfl) hH (by rfl) ?_ ?_;rotate_left
    ·(intro wv hSw;(try dsimp only at hSw);go_simp;try with_reducible rfl)
    try simp only [Act.put,jlk,jlq,jlx]
    refine Gi (i:=6) rfl (by kernel_rfl) (fun KQ hK=>?_);go_simp;go_at_call 78
    (with_reducible refine LC.out.mono ?_)
    rintro e w3 ⟨dM,v3,rfl,hrow3⟩;obtain ⟨a3,n3,c3,rfl⟩:=hrow3.slice3;have b3:jp4 w2.heap.size w2 w3:=((jm0 _ _).drew).trans hrow3.aI;have B3:=hid b3;have KS3:=hid (show Rd (w2.heap.size<=·) w3 (cO (kG Kk)) [.slice a3 n3 c3] from hrow3.fD);have Q3:=CQ2.out.below b3;have P3:=L9.out.below b3;have S3:w3.cell? ⟨Q,3,none⟩=some (.slice av m cv)/\w3.cell? ⟨p,9,none⟩=some (.slice CF CG CJ):=⟨Q3.cell 3 _ rfl,P3.cell 9 _ rfl⟩;have U3:=hid (U2.out.below b3);have Db:=hid Q3;have FJ:=hid P3;have EC:=hid (kM name a2 a3 n2 n3 c2 c3 w3);clear hrow3 b3 Q3 P3 LC U2;refine hK.out _ _ (fun _=>S3) (fun hH2=>?_);clear hK KQ hH;have hH:=hH2 (by decide);clear hH2;try simp only [Act.put,jlk,jlq,jlx]
    refine Gi (i:=7) rfl (by kernel_rfl) (fun KQ hK=>?_);go_simp;go_at_call 40
    (with_reducible refine EC.out.mono ?_)
    rintro e w4 ⟨rfl,b4⟩;have B4:=hid (aP B3.out b4);have U4:=hid (U3.out.below b4);have Q4:=Db.out.below b4;have P4:=FJ.out.below b4;have S4:w4.cell? ⟨Q,3,none⟩=some (.slice av m cv)/\w4.cell? ⟨p,9,none⟩=some (.slice CF CG CJ):=⟨Q4.cell 3 _ rfl,P4.cell 9 _ rfl⟩;have TT:=hid Q4;have Q9:=hid P4;have hz4:=B4.out.size;have XD:=hid (show Rd (fun b=>False\/U<=b) w4 (aQ name (jL yK (fT c)) (kG Kk)).d [.string name,.string ⟨#[]⟩,.slice a2 n2 c2,.slice a3 n3 c3] from Nd.eH name ⟨#[]⟩ ⟨Rd.weaken ((PR.out.aY B3.out).aY b4) (fun b hb=>.inr (by omega)),Rd.weaken (KS3.out.aY b4) (fun b hb=>.inr (by omega))⟩);clear b4 Q4 P4 EC U3 KS3 Db FJ;refine hK.out _ _ (fun _=>S4) (fun hH2=>?_);clear hK KQ hH;have hH:=hH2 (by decide);clear hH2;try simp only [Act.put,jlk,jlq,jlx]
    refine Gi (i:=8) rfl (by kernel_rfl) (fun KQ hK=>?_);go_simp;refine hK.out _ _ (fun _=>⟨past S4.1 _,past S4.2 _⟩) (fun hH2=>?_);clear hK KQ hH;have hH:=hH2 (by decide);clear hH2;try simp only [Act.put,jlk,jlq,jlx]
    refine Gi (i:=9) rfl (by kernel_rfl) (fun KQ hK=>?_);refine vw rfl (.tmp 36) (.tmp 43) 28 rfl iN _ 80 Tryz.underlying28 FH nW og oh rfl (by decide) U4.out (fun _=>False.elim) (aQ name (jL yK (fT c)) (kG Kk)).d [.string name,.string ⟨#[]⟩,.slice a2 n2 c2,.slice a3 n3 c3] XD.out rfl jO HM.out (by omega) (by decide) rfl rfl ?_;intro a5 c5 w5 bK hg5;have hz5:w4.heap.size+1<=w5.heap.size:=by have h:=hg5.size;simp at h;exact h
    have hvQ:some Q≠(Value.slice av m cv).ownBlock:=fun e=>by have:=(U4.out.own.lt Q e.symm).1;have:=CY.out;omega
    have hvp:some p≠(Value.slice av m cv).ownBlock:=fun e=>by have:=U4.out.oU p e.symm;omega
    have q5:CB 35 Q [.string ⟨#[116,114]⟩,.string ⟨#[]⟩,.slice none 0 0,.slice av m cv] w5:=(hg5.block Q (by simp;omega) hvQ).trans ((jmj w4 _ Q TT.out.lt).trans TT.out);have p5:CB 48 p [.int .i64 yk,.int .i64 IZ,.string yi,.string yt,.string yd,.string I5,.string Gd.id,.slice MO MP MQ,.slice MR MS MU,.slice CF CG CJ,.slice MV MW MX] w5:=(hg5.block p (by simp;omega) hvp).trans ((jmj w4 _ p Q9.out.lt).trans Q9.out);have S5:w5.cell? ⟨Q,3,none⟩=some (.slice av m cv)/\w5.cell? ⟨p,9,none⟩=some (.slice CF CG CJ):=⟨q5.cell 3 _ rfl,p5.cell 9 _ rfl⟩;have fz:=mg q5;have e3:=q5.cell 3 _ rfl;have HQ5:=hid q5;have U5:=hid bK;have TJ:=hid hg5;clear bK hg5 q5 p5 hvp XD;refine hK.out _ _ (fun _=>S5) (fun hH2=>?_);clear hK KQ hH;have hH:=hH2 (by decide);clear hH2;try simp only [Act.put,jlk,jlq,jlx]
    refine Gi (i:=10) rfl (by kernel_rfl) (fun KQ hK=>?_);go_simp;refine hK.out _ _ (fun _=>S5) (fun hH2=>?_);clear hK KQ hH;have hH:=hH2 (by decide);clear hH2;try simp only [Act.put,jlk,jlq,jlx]
    refine Gi (i:=11) rfl (by kernel_rfl) (fun KQ hK=>?_);go_simp;refine hK.out _ _ (fun h=>absurd rfl h) (fun _=>?_);clear hK KQ;refine mO (by kernel_rfl) ?_ _;obtain ⟨w6,jH⟩:∃ w6,w6=w5.setCell ⟨Q,3,none⟩ (.slice a5 (m+1) c5):=⟨_,rfl⟩;rw [<- jH];have g6:w5.grownBy w6 (some Q):=by rw [jH];exact ⟨rfl,rfl,rfl,by simp [jn9],fun b _ hb=>jm9 w5 ⟨Q,3,none⟩ _ b (fun e=>hb (by rw [e]))⟩
    have q6:CB 35 Q [.string ⟨#[116,114]⟩,.string ⟨#[]⟩,.slice none 0 0,.slice a5 (m+1) c5] w6:=by rw [jH];exact dx HQ5.out 3 _
    have VO:w6.heap.size=w5.heap.size:=by rw [jH];simp [jn9]
    obtain ⟨wB6,hB6,qm⟩:=U5.out.hop2 (p:=Q) (by have:=CY.out;omega) g6;have HF:Hid (Nj Q w1 name letters.data.toList ks (.int .i64 ((j+1:Nat):Int)) w6):=by
     have h1:=qm.up (U':=w6.heap.size) (by omega) (jm1 _);rw [<- AZ.out] at h1;refine ⟨j+1,_,_,w6.heap.size,wB6,by have:=IY.out;omega,rfl,hB6.trans CY.out,h1,q6,?_⟩;have VZ:Q<=wr.heap.size:=by omega
     refine dD.out.trans ((BA.out.mono VZ).trans ((B2.out.mono (by have:=BA.out.size;omega)).trans ((B4.out.mono (by omega)).trans ?_)));exact ((jm0 _ _).alloc (by omega) _ |>.grown TJ.out (by simp;omega) (fun g hg=>by have:=(U4.out.own.lt g hg).1;have:=CY.out;omega)).trans ((jm0 Q w5).grown g6 (by omega) (fun g hg=>by have:=Option.some.inj hg;omega))
    clear jH g6 q6 qm hB6 U5 TJ HQ5 hH S0 S3 S4 S5 fz e3 hvQ;go_wp2;go_roundw;case rel=>exact HF.out
    case measure=>simp [intOf];omega
  ·have hkl:j=nk:=by have:=IY.out;omega
   have hjk:j=ks.length:=by have:=IY.out;omega
   have hll:letters.data.toList.length=letters.size:=by simp
   have Zu:Hid (kZ (W0.heap.size<=·) wr [] (oZ name letters.data.toList ks) (.slice none 0 0) (.slice av m cv)):=by have h:=bV.out.fD;rw [FD.out,jn3 (by rw [hll];have:=xQ.out;omega),jn3 (by omega)] at h;exact ⟨Rd.aD _ _ _,h.weaken (fun b hb=>by have:=CY.out;omega)⟩
   have BL:=hid (B1.out.trans (dD.out.mono hWQ));obtain ⟨x0,x1,x2,x3,xf⟩:=pY (K1.out.below BL.out);obtain ⟨y0,y1,y2,y3,-⟩:=cb4 PU.out;clear hll hjk;go_upto_region 15 with (fail)
   obtain ⟨w9,bM⟩:∃ w9,w9=four wr (S+1) (.string ⟨#[116,114]⟩) (.string ⟨#[]⟩) (.slice none 0 0) (.slice av m cv):=⟨_,rfl⟩;have hf:=fE ⟨#[116,114]⟩ ⟨#[]⟩ [] (oZ name letters.data.toList ks) Da.out Z0.out B0.out K1.out BL.out Zu.out;rw [<- bM] at hf;have iZ:=hid hf.1;have Bz:=hid hf.2;clear hf;have hw8:=bM;simp only [four] at hw8;clear bM;go_wp2;rw [<- hw8];have r0:=iZ.out.cell 0 _ rfl;have r1:=iZ.out.cell 1 _ rfl;have r2:=iZ.out.cell 2 _ rfl;have r3:=iZ.out.cell 3 _ rfl;exact bodyPost_ret (v:=.agg #[.string ⟨#[116,114]⟩,.string ⟨#[]⟩,.slice none 0 0,.slice av m cv]) (by simp [results,Tryz.results174,go_sem,r0,r1,r2,r3]) rfl Bz.out
end Go.Proofs.YtkfnkeflalcphaaGreatDoor

