/- Contract of html.line: the nodes of inlines. Contracts of publisherref34.some, element, texts, attrs, joined. Contract of publisherref34.joined: neighbouring texts are joined. Contract of html.row: the node of a row of a table. -/
import Derived.Test.YtkfnkeflalcphaaGreatDoorKHsm
import Derived.Test.YtkfnkeflalcphaaGreatDoorKHtF
import Derived.Test.YtkfnkeflalcphaaGreatDoorKPlMk
set_option maxHeartbeats 8000000
set_option maxRecDepth 100000
open Go.Lib (hid)
namespace Go.Proofs.YtkfnkeflalcphaaGreatDoor
open List renaming setIfInBounds_toArray->jn7,set_cons_zero->jn8,set_cons_succ->jn9,getElem?_eq_getElem->jnj,length_append->jo1,length_map->jo2,length_cons->jo3,mem_of_getElem?->jo8,take_of_length_le->joz
open Go.RowKit.Below renaming refl->jnk,heap_setCell->jo5,heap_alloc->jo6
open Nat renaming le_refl->jnq
open Go.World renaming cell?->jp5,setCell->jp6
open Go renaming World->jqz,Value->jr1
open Go.RowKit
set_option linter.unusedVariables false
set_option linter.unusedSimpArgs false
theorem ja4 (x:aj) (h:x.small):x.nd.tx.size<=300:=by
 obtain ⟨k,t,d,ti,a,ar,ci,ks⟩:=x;rw [aj.small] at h;have h1:=h.1;have e0:(⟨#[]⟩:ByteArray).size=0:=rfl;have e1:MX.size=1:=rfl;rw [aj.nd];have key:∀ (c:Prop) [Decidable c] (a b:Nd),a.tx.size<=300->b.tx.size<=300->(if c then a else b).tx.size<=300:=by
  intro c _ a b h1 h2;split
  ·exact h1
  ·exact h2
 have el:∀ (n:ByteArray) (a:List Pr) (ks:List Nd),(aO n a ks).tx.size<=300:=fun _ _ _=>by show (⟨#[]⟩:ByteArray).size<=300;omega
 refine key _ _ _ (by show MX.size<=300;omega) ?_;refine key _ _ _ (el _ _ _) (key _ _ _ (el _ _ _) (key _ _ _ (el _ _ _) (key _ _ _ (el _ _ _) (key _ _ _ (el _ _ _) (key _ _ _ (el _ _ _) (key _ _ _ (el _ _ _) (key _ _ _ (el _ _ _) (key _ _ _ (el _ _ _) (key _ _ _ (el _ _ _) (key _ _ _ (el _ _ _) h1))))))))))
theorem aj.qd:∀ (l:List aj),aj.ay l->∀ x∈l,x.small
 | [],_,x,hx=>by cases hx
 | y::l,h,x,hx=>by
  rw [aj.ay] at h;rcases List.mem_cons.1 hx with rfl | hx
  ·exact h.1
  ·exact aj.qd l h.2 x hx
theorem Fu:∀ (l:List Nd) (p:List Nd × ByteArray),(l.foldl dZ p).1.length<=p.1.length+2*l.length
 | [],p=>by simp
 | x::l,p=>by
  have h:=Fu l (dZ p x);have h2:(dZ p x).1.length<=p.1.length+2:=by
   unfold dZ;split
   ·show p.1.length<=_;omega
   ·show (p.1++bM p.2++[x]).length<=_;rw [jo1,jo1];have:(bM p.2).length<=1:=by unfold bM;split<;>simp
    simp;omega
  rw [List.foldl_cons,jo3];omega
theorem J5:∀ (l:List Nd) (p:List Nd × ByteArray),(∀ x∈l,x.tx.size<=300)->(l.foldl dZ p).2.size<=p.2.size+300*l.length
 | [],p,_=>by simp
 | x::l,p,hx=>by
  have h:=J5 l (dZ p x) (fun y hy=>hx y (List.mem_cons_of_mem _ hy));have h1:=hx x (List.mem_cons_self ..);have h2:(dZ p x).2.size<=p.2.size+300:=by
   unfold dZ;split
   ·show (p.2++x.tx).size<=_;rw [ByteArray.size_append];omega
   ·show (⟨#[]⟩:ByteArray).size<=_;have:(⟨#[]⟩:ByteArray).size=0:=rfl;omega
  rw [List.foldl_cons,jo3];omega
theorem Ih (l:List Nd) (k:Nat) (x:Nd) (h:l[k]?=some x):gM (l.take (k+1))=dZ (gM (l.take k)) x:=by rw [List.take_add_one,h];exact Ii _ _
theorem Cz (a b:ByteArray):Lib.strCells (a++b)=Lib.strCells a++Lib.strCells b:=by unfold Lib.strCells;rw [ByteArray.data_append];simp
def qD (w:jqz) (g o:Nat) (c0 c1 c2 c3:jr1):jqz:=(((w.setCell ⟨g,o,none⟩ c0).setCell ⟨g,o+1,none⟩ c1).setCell ⟨g,o+2,none⟩ c2).setCell ⟨g,o+3,none⟩ c3
theorem gZ (w:jqz) (g o:Nat) (c0 c1 c2 c3:jr1) (b:Nat) (h:b≠g):(qD w g o c0 c1 c2 c3).heap[b]?=w.heap[b]?:=by unfold qD;rw [jo5 _ ⟨g,o+3,none⟩ _ b h,jo5 _ ⟨g,o+2,none⟩ _ b h,jo5 _ ⟨g,o+1,none⟩ _ b h,jo5 _ ⟨g,o,none⟩ _ b h]
theorem kF (w:jqz) (b b' o o':Nat) (u v:jr1) (h:b≠b'):(w.setCell ⟨b,o,none⟩ u).setCell ⟨b',o',none⟩ v=(w.setCell ⟨b',o',none⟩ v).setCell ⟨b,o,none⟩ u:=by
 unfold jp6;simp only [World.mk.injEq,and_true];apply Array.ext_getElem?;intro i;simp only [Array.getElem?_modify];by_cases h1:b=i
 ·subst h1;have hb:¬ b'=b:=fun e=>h e.symm
  simp [hb]
 ·simp [h1]
theorem oI (w:jqz) (S g o:Nat) (V c0 c1 c2 c3:jr1) (h:S≠g):qD (w.setCell ⟨S,0,none⟩ V) g o c0 c1 c2 c3=(qD w g o c0 c1 c2 c3).setCell ⟨S,0,none⟩ V:=by unfold qD;rw [kF w S g,kF _ S g,kF _ S g,kF _ S g]<;>exact h
theorem Vg {w:jqz} {g o:Nat} {c0 c1 c2 c3:jr1} {b j:Nat} {v:jr1} (h:w.cell? ⟨b,j,none⟩=some v) (hb:b≠g):(qD w g o c0 c1 c2 c3).cell? ⟨b,j,none⟩=some v:=by rw [jG (gZ w g o c0 c1 c2 c3 b hb)];exact h
section
variable {T:TypeId} {U:Nat} {ok:Nat->Prop} {w0 w:jqz} {ds:List D} {rows:List (List jr1)} {v:jr1}
theorem aH.Vh {g n c:Nat} {d0 d1:D} {a0 a1 a2 a3:jr1} (h:aH T 4 ok U w0 (ds++[d0]) (rows++[[a0,a1,a2,a3]]) (.slice (some ⟨g,0,none⟩) (n+1) c) w) (hn:ds.length=n) (c0 c1 c2 c3:jr1) (hd:Rd (fun b=>(ok b\/w0.heap.size<=b)/\g≠b/\b<U) w d1 [c0,c1,c2,c3]):aH T 4 ok U w0 (ds++[d1]) (rows++[[c0,c1,c2,c3]]) (.slice (some ⟨g,0,none⟩) (n+1) c) (qD w g (n*4) c0 c1 c2 c3):=by
 have hl:rows.length=n:=by have:=h.red.len;simp at this;omega
 have hfl:rows.flatten.length=n*4:=by rw [kY 4 rows (fun r hr=>h.len r (by simp [hr])),hl]
 have hown:=h.own;have e1:(rows++[[a0,a1,a2,a3]]).flatten=rows.flatten++[a0,a1,a2,a3]:=by simp
 rw [e1,jo1,List.length_singleton,hn] at hown;have st:∀ (W:jqz) (zs:List jr1),W.ownsRow w0.heap.size T 4 (.slice (some ⟨g,0,none⟩) (n+1) c) (n+1) (rows.flatten++zs)->∀ (j:Nat) (u:jr1),(W.setCell ⟨g,n*4+j,none⟩ u).ownsRow w0.heap.size T 4 (.slice (some ⟨g,0,none⟩) (n+1) c) (n+1) (rows.flatten++zs.set j u):=by intro W zs hW j u;have:=(hW.stored (n*4+j) u).1;rw [List.set_append_right _ _ (by omega),hfl,Nat.add_sub_cancel_left] at this;exact this
 have o4:=st _ _ (st _ _ (st _ _ (st _ _ hown 0 c0) 1 c1) 2 c2) 3 c3;have hb:∀ b,b≠g->(qD w g (n*4) c0 c1 c2 c3).heap[b]?=w.heap[b]?:=fun b hb=>gZ w g _ _ _ _ _ b hb
 have hz:(qD w g (n*4) c0 c1 c2 c3).heap.size=w.heap.size:=by simp [qD,jp6]
 have hg0:w0.heap.size<=g:=(h.own.lt g rfl).1;refine ⟨?_,?_,?_,?_,h.oU,h.H6,by rw [hz];exact h.Lv⟩
 ·rw [show (rows++[[c0,c1,c2,c3]]).flatten=rows.flatten++[c0,c1,c2,c3] by simp,jo1,List.length_singleton,hn];exact o4
 ·obtain ⟨rA,rB,e2,hA,hB⟩:∃ rA rB,rows++[[a0,a1,a2,a3]]=rA++[rB]/\aQ (fun b=>(ok b\/w0.heap.size<=b)/\(Value.slice (some ⟨g,0,none⟩) (n+1) c).ownBlock≠some b/\b<U) w ds rA/\True:=by
   refine ⟨rows,_,rfl,?_,trivial⟩;have h0:=h.red;clear st o4 hown;generalize hP:(fun b=>(ok b\/w0.heap.size<=b)/\(Value.slice (some ⟨g,0,none⟩) (n+1) c).ownBlock≠some b/\b<U)=P at h0;have gen:∀ (ds:List D) (rows:List (List jr1)) (d0:D) (r0:List jr1),aQ P w (ds++[d0]) (rows++[r0])->rows.length=ds.length->aQ P w ds rows:=by
    intro ds;induction ds with
    | nil=>intro rows d0 r0 _ hl;rw [List.eq_nil_of_length_eq_zero hl];exact aQ.none
    | cons x ds ih=>
     intro rows d0 r0 hr hl;cases rows with
     | nil=>simp at hl
     | cons r rows=>
      obtain ⟨r',rs,e,h1,h2⟩:=hr.aG;have e':r'=r/\rs=rows++[r0]:=by simp at e;exact ⟨e.1.symm,e.2.symm⟩
      obtain ⟨rfl,rfl⟩:=e';exact aQ.cons h1 (ih rows d0 r0 h2 (by simpa using hl))
   exact gen ds rows d0 _ h0 (by omega)
  have e3:rA=rows:=by have:=congrArg List.dropLast e2;simpa using this.symm
  subst e3;refine aQ.app (aQ.keep (fun b hb' _=>⟨hb',hb b (fun e=>by subst e;exact hb'.2.1 rfl)⟩) _ _ hA) (aQ.one (Rd.keep (fun b hb' _=>⟨⟨hb'.1,fun e=>hb'.2.1 (by simpa [Value.ownBlock] using e),hb'.2.2⟩,hb b (fun e=>hb'.2.1 e.symm)⟩) _ _ hd))
 ·intro r hr;rcases List.mem_append.1 hr with hr | hr
  ·exact h.len r (by simp [hr])
  ·simp at hr;subst hr;rfl
 ·have hbel:=h.aN;exact (((hbel.setCell (p:=⟨g,n*4,none⟩) hg0 c0).setCell (p:=⟨g,n*4+1,none⟩) hg0 c1).setCell (p:=⟨g,n*4+2,none⟩) hg0 c2).setCell (p:=⟨g,n*4+3,none⟩) hg0 c3
theorem aH.J6 {g n c:Nat} {d0:D} {a0 a1 a2 a3:jr1} (h:aH T 4 ok U w0 (ds++[d0]) (rows++[[a0,a1,a2,a3]]) (.slice (some ⟨g,0,none⟩) (n+1) c) w) (hn:ds.length=n) : w.cell? ⟨g,n*4,none⟩=some a0/\w.cell? ⟨g,n*4+1,none⟩=some a1/\w.cell? ⟨g,n*4+2,none⟩=some a2/\w.cell? ⟨g,n*4+3,none⟩=some a3/\∀ j,w.frozen? ⟨g,j,none⟩=false:=by
 have hl:rows.length=n:=by have:=h.red.len;simp at this;omega
 have hfl:rows.flatten.length=n*4:=by rw [kY 4 rows (fun r hr=>h.len r (by simp [hr])),hl]
 have hc:∀ i u,[a0,a1,a2,a3][i]?=some u->w.cell? ⟨g,n*4+i,none⟩=some u:=by
  intro i u hu;have:=h.own.cells (g:=g) rfl (n*4+i) u (by
   rw [show (rows++[[a0,a1,a2,a3]]).flatten=rows.flatten++[a0,a1,a2,a3] by simp,List.getElem?_append_right (by omega),hfl,Nat.add_sub_cancel_left];exact hu)
  have e:((⟨g,0,none⟩:Addr).add (n*4+i))=⟨g,n*4+i,none⟩:=by unfold Addr.add;split<;>simp_all
  rwa [e] at this
 refine ⟨hc 0 _ rfl,hc 1 _ rfl,hc 2 _ rfl,hc 3 _ rfl,fun j=>?_⟩;rcases h.own.2 with ⟨h1,-⟩ | ⟨g',cap,cur,h1,-,h2,-⟩
 ·cases h1
 ·injection h1 with h1
  injection h1 with h1
  injection h1 with h1
  subst h1;simp [World.frozen?,h2]
theorem LH {k n:Nat} {ops:Array Oper} {o:Oper} {a:Act} {K:Act->jqz->Prop} {Q:Exit->Act->jqz->Prop} {E:Prop} (hgd:o.guard=none) (s x:Operand) (t:TypeId) (ho:o.op=.call { callee:=.builtin .append,args:=#[s,x],argTypes:=#[t,t] }) (i:TypeInfo) (z:jr1) (bytes:Nat) (ht:Tryz.prog.underlying t=some (.slice T)) (hi:Tryz.prog.info? T=some i) (hz:i.zero=some z) (hsize:i.size=k) (hby:i.bytes=bytes) (hzs:z.cells.size=k) (hsz:0<k) (h:aH T k ok U w0 ds rows v w) (hB:∀ b,ok b->b<w0.heap.size) (d:D) (r:List jr1) (hx:Rd (fun b=>ok b\/U<=b) w d r) (hr:r.length=k) (h1:∀ u∈r,u.oneCell'=true) (hdn:ds.length=n) (hn:n<=10000000) (lI:bytes<=1000) (hs:a.eval s=v) (hxe:a.eval x=.slice (some ⟨w.heap.size,0,none⟩) 1 1) (hK:∀ g c' w',aH T k ok w'.heap.size w0 (ds++[d]) (rows++[r]) (.slice (some ⟨g,0,none⟩) (n+1) c') w'->(w.alloc (.cells r.toArray T)).grownBy w' v.ownBlock->(v.ownBlock=some g\/w.heap.size<g)->n+1<=c'->K (a.put o.dst (.slice (some ⟨g,0,none⟩) (n+1) c')) w') : if Region.wanted o (yielded ops a.tmps)=true then Oper.wp Tryz.prog o a (w.alloc (.cells r.toArray T)) K Q else E:=by
 subst hdn;have hmul:(ds.length+1)*bytes<=140737488355328:=Nat.le_trans (Nat.mul_le_mul (show ds.length+1<=10000001 by omega) lI) (by omega);refine step_append_lies _ hgd s x t ho w0.heap.size T i z k bytes ht hi hz hsize hby hzs hsz v ds.length rows.flatten hs (h.own.alloc _) ⟨w.heap.size,0,none⟩ 1 1 r hxe (by omega) (Om w r T) h1 (by omega) (by unfold maxLen;omega) hmul (by have:=h.aN.size;simp;omega) (w.heap.size+1) (by simp) ?_;intro g cap w' hown hg hat _;have Sz:v.ownBlock=some g\/w.heap.size<g:=hat.elim (fun e=>.inl (by rw [e])) (fun e=>.inr (by omega));have hcp:ds.length+1<=cap:=by obtain ⟨g',cap',he,hle⟩:=qZ hown (by omega);injection he with _ _ he;omega
 refine hK _ _ w' ?_ hg Sz hcp;refine h.put hB (bE:=[r]) (es:=[d]) (aQ.one (Rd.keep (fun b hb hlt=>⟨hb,jo6 w _ b hlt⟩) _ _ hx)) (by simp [hr]) (World.grownBy_alloc w _ none) (by simpa using hown) hg (hat.elim (fun e=>.inl (by rw [e];rfl)) (fun e=>.inr (by rw [e];simp [Value.ownBlock])))
end
def CF (S:Nat) (w:jqz) (N:List Nd) (vi:jr1) (wr:jqz):Prop:=
 ∃ (k:Nat) (rows:List (List jr1)) (v:jr1) (U:Nat) (wB:jqz),k<=N.length/\vi=.int .i64 k/\wB.heap.size=S+2/\aH 35 4 (fun _=>False) U wB ((gM (N.take k)).1.map Nd.d) rows v wr /\
  aF S v 28 wr/\Cx (S+1) U (Lib.strCells (gM (N.take k)).2) wr/\Below S w wr
theorem Ny {p:Nat} {w:jqz} {c0 c1 c2 c3 c4 c5 c6 c7 c8 c9:jr1} (h:PB p [c0,c1,c2,c3,c4,c5,c6,c7,c8,c9] w) : w.cell? ⟨p,0,none⟩=some c0/\w.cell? ⟨p,1,none⟩=some c1/\w.cell? ⟨p,2,none⟩=some c2/\w.cell? ⟨p,3,none⟩=some c3/\w.cell? ⟨p,4,none⟩=some c4/\w.cell? ⟨p,5,none⟩=some c5 /\ w.cell? ⟨p,6,none⟩=some c6/\w.cell? ⟨p,7,none⟩=some c7/\w.cell? ⟨p,8,none⟩=some c8/\w.cell? ⟨p,9,none⟩=some c9:=
 ⟨h.cell 0 _ rfl,h.cell 1 _ rfl,h.cell 2 _ rfl,h.cell 3 _ rfl,h.cell 4 _ rfl,h.cell 5 _ rfl,h.cell 6 _ rfl,h.cell 7 _ rfl,h.cell 8 _ rfl,h.cell 9 _ rfl⟩
theorem wI.ja5 {S:Nat} {w w':jqz} {at_:At} {ar:List ByteArray} {ci:List Ci} {ks:List aj} {vc vp va vi vk:jr1} (h:wI (·<S) w at_ ar ci ks vc vp va vi vk) (hb:Below S w w') (hS:S<=w'.heap.size):wI (·<w'.heap.size) w' at_ ar ci ks vc vp va vi vk:=
 have hs:AJ (·<S) (·<w'.heap.size) w w':=fun b (h1:b<S) _=>⟨by omega,hb.block b h1⟩
 ⟨⟨Rd.keep hs _ _ h.at_.cls,Rd.keep hs _ _ h.at_.aP⟩,Rd.keep hs _ _ h.args,Rd.keep hs _ _ h.jh,Rd.keep hs _ _ h.kids⟩
theorem wm (s:ByteArray):s.toList.isEmpty=q01 s:=by rw [Lib.toList_data,Bool.eq_iff_iff,List.isEmpty_iff,q01,decide_eq_true_iff]
theorem Oo {s:ByteArray} (h:q01 s=false):0<s.size:=by
 unfold q01 at h;rw [decide_eq_false_iff_not] at h;have:s.data.toList.length≠0:=fun e=>h (List.eq_nil_of_length_eq_zero e)
 have e2:s.data.toList.length=s.size:=by simp
 omega
theorem Cx.SA {b U U':Nat} {w w':jqz} (h:Cx b U [] w) (hs:w'.heap[b]?=w.heap[b]?) (hU:b<U'):Cx b U' [] w':=
 h.imp (fun ⟨_,v,h2,_,h4⟩=>⟨hU,v,hs.trans h2,by rw [h4 rfl];exact World.ownsRowF_nil _ _ _ _,h4⟩) (fun ⟨_,v,h2,_,h4⟩=>⟨hU,v,hs.trans h2,by rw [h4 rfl];exact World.ownsRowF_nil _ _ _ _,h4⟩)
theorem sJ (n:Nat):∀ (l:List aj) (v:jr1) (w:jqz),aj.aW l<=n->n<=1000000->Rd (·<w.heap.size) w (bq l) [v]->aj.ay l->aj.Ij l -> Calls Tryz.prog 78 #[v] w (cO w (iY l)):=by
 induction n using Nat.strongRecOn with
 | _ n ih=>
  intro l v w hn hnm hrd hsm htf;obtain ⟨iN,GR,oQ,oV,oW⟩:=info_parts nM;obtain ⟨a,cap,hv,hs⟩:=Rd.aC hrd;obtain rfl:v=.slice a l.length cap:=by simpa using hv
  have hcap:l.length<=cap:=by simpa using hs.le
  have hll:=aj.iZ l;have hmx:=hs.max;unfold maxLen at hmx;obtain ⟨N,hN⟩:∃ N,N=aj.zw l:=⟨_,rfl⟩;have hNl:N.length=l.length:=by rw [hN,ru,jo2]
  have hNt:∀ x∈N,x.tx.size<=300:=by intro x hx;rw [hN,ru] at hx;obtain ⟨y,hy,rfl⟩:=List.mem_map.1 hx;exact ja4 y (aj.qd l hsm y hy)
  have hNf:∀ x∈N,x.full:=by rw [hN];exact Fv l htf
  have ja6:iY l=(gM N).1++bM (gM N).2:=by rw [hN];exact Oq l htf
  obtain ⟨S,hS⟩:∃ S,S=w.heap.size:=⟨_,rfl⟩;obtain ⟨W0,hW0⟩:∃ W,W=(w.alloc (.cells #[.slice none 0 0] 28)).alloc (.cells #[.pointer none,.slice none 0 0] 104):=⟨_,rfl⟩;have z0:W0.heap.size=S+2:=by rw [hW0,hS];simp
  have k0:aF S (.slice none 0 0) 28 W0:=by rw [hW0,hS];exact (aF.new w _ _).alloc _
  have k1:W0.heap[S+1]?=some (.cells #[.pointer none,.slice none 0 0] 104 (0,0)):=by
   rw [hW0,hS];have:=heap_alloc_new (w.alloc (.cells #[.slice none 0 0] 28)) (.cells #[.pointer none,.slice none 0 0] 104)
   rwa [World.size_alloc] at this
  have b0:Below S w W0:=by rw [hW0,hS];exact ((jnk _ _).alloc (jnq _) _).alloc (by simp) _
  have R0:Hid (CF S w N (.int .i64 0) W0):=⟨0,[],_,S+2,W0,Nat.zero_le _,rfl,z0,by rw [<- z0];exact aH.nil _ _ _ _,k0,Cx.new k1 (by omega),b0⟩;have HS:=hid hs;have IH:=hid ih;have jO:=hid hsm;have HTF:=hid htf;have HN:=hid hN;have SB:=hid hNl;have HNT:=hid hNt;have HNF:=hid hNf;have sM:=hid ja6;have NG:=hid hS;have HW0:=hid hW0;clear hs hv hrd ih hsm htf hN hNl hNt hNf ja6 hS hW0 z0 k0 k1 b0;go_enter Tryz.func78,Tryz.ntmps78;go_upto_region 3 with (fail)
  rw [<- NG.out,<- HW0.out];go_wp2
  go_loopw [12] (fun vi wr=>CF S w N vi wr) (fun i _=>l.length-(intOf i).toNat)
  case atStart=>exact R0.out
  case round=>
   clear R0 HW0;obtain ⟨k,rows,v,U,wB,hk,rfl,Vi,hrow,hbx,hbd,hbel⟩:=hrel;rw [SB.out] at hk;obtain ⟨P,hP⟩:∃ P,P=gM (N.take k):=⟨_,rfl⟩;rw [<- hP] at hrow hbd;obtain ⟨m,hm⟩:∃ m,m=(P.1.map Nd.d).length:=⟨_,rfl⟩;have hm2:m<=2*k:=by
    have h:=Fu (N.take k) ([],⟨#[]⟩);have h2:(N.take k).length<=k:=List.length_take_le _ _;have h3:P.1=((N.take k).foldl dZ ([],⟨#[]⟩)).1:=by rw [hP];rfl
    rw [<- h3] at h;rw [hm,jo2];simp at h;omega
   have hpt:P.2.size<=300*k:=by
    have h:=J5 (N.take k) ([],⟨#[]⟩) (fun x hx=>HNT.out x (List.mem_of_mem_take hx));have h2:(N.take k).length<=k:=List.length_take_le _ _;have h3:P.2=((N.take k).foldl dZ ([],⟨#[]⟩)).2:=by rw [hP];rfl
    rw [<- h3] at h;have h4:(([]:List Nd),(⟨#[]⟩:ByteArray)).2.size=0:=rfl;omega
   obtain ⟨av,cv,rfl,-,-⟩:=hrow.cap hm.symm;have HM:=hid hm.symm;have HP:=hid hP;have bU:=hid hrow;have oz:=hid hbx;have mZ:=hid hbd;have Ej:=hid Vi;have hUr:=hrow.Lv;have hSU:S+2<=U:=by have:=hrow.H6;omega
   have Y8:Hid (P.1.length=m):=by show _=_;rw [hm,jo2]
   clear hrow hbx hbd hm hP Vi;by_cases hlt:k<l.length
   ·obtain ⟨x,hx⟩:∃ x,l[k]?=some x:=⟨_,jnj hlt⟩;have hNk:N[k]?=some x.nd:=by rw [HN.out,ru,List.getElem?_map,hx];rfl
    have hst:=Ih N k x.nd hNk;rw [<- HP.out] at hst;have hfull:=HNF.out x.nd (jo8 hNk);have htx:=HNT.out x.nd (jo8 hNk);have hxs:=aj.qd l jO.out x (jo8 hx);have hxt:=CG l HTF.out x (jo8 hx);have hsz:=aj.aZ l k _ hx;obtain ⟨X,hX⟩:∃ X,X=x.nd:=⟨_,rfl⟩;rw [<- hX] at hst hfull htx;obtain ⟨kd,t,d,ti,at_,ar,ci,ks⟩:=x;obtain ⟨g,off,vc,vp,va,vi,vk,rfl,hok,hbl,hc,hR⟩:=jl HS.out hx;obtain ⟨c0,c1,c2,c3,c4,c5,c6,c7,c8,c9⟩:=hc.below (show Below w.heap.size w wr by rw [<- NG.out];exact hbel);rw [aj.sz] at hsz;obtain ⟨ac,nc,cc,rfl⟩:=Rd.au hR.at_.cls
    obtain ⟨ap,np,cp,rfl⟩:=Rd.au hR.at_.aP
    obtain ⟨aa,na,ca,rfl⟩:=Rd.au hR.args;obtain ⟨ai,ni,uP,rfl⟩:=Rd.au hR.jh;obtain ⟨ak,nk,ck,rfl⟩:=Rd.au hR.kids;have HR:Hid (wI (·<S) w at_ ar ci ks (.slice ac nc cc) (.slice ap np cp) (.slice aa na ca) (.slice ai ni uP) (.slice ak nk ck)):=by rw [NG.out];exact hR
    have HST:=hid hst;have HX:=hid hX;have Ot:=hid hfull;have HXS:=hid hxs;have HXT:=hid hxt;have gI:=hid hbel;have hSr:S<=wr.heap.size:=by have:=hbel.size;have:=NG.out;omega
    clear hc hok hbl hR hst hX hfull hxs hxt hNk hx hbel;go_upto_region 7 with (fail)
    obtain ⟨p,hp⟩:∃ p,p=wr.heap.size:=⟨_,rfl⟩;obtain ⟨wA,gD⟩:∃ wA,wA=wr.alloc (.cells #[.int .i64 kd,.string t,.string d,.string ti,.string at_.id,.slice ac nc cc,.slice ap np cp,.slice aa na ca,.slice ai ni uP,.slice ak nk ck] 66):=⟨_,rfl⟩;have PA:PB p [.int .i64 kd,.string t,.string d,.string ti,.string at_.id,.slice ac nc cc,.slice ap np cp,.slice aa na ca,.slice ai ni uP,.slice ak nk ck] wA:=by rw [gD,hp];exact heap_alloc_new wr _
    have bA:Below wr.heap.size wr wA:=by rw [gD];exact (jnk _ _).alloc (jnq _) _
    rw [<- gD,<- hp];obtain ⟨e0,e1,e2,e3,e4,e5,e6,e7,e8,e9⟩:=Ny PA;have zA:=bA.size;have BA:=hid (gI.out.trans (bA.mono hSr));have HRA:=HR.out.ja5 BA.out (by omega);have LC:Fb wA ks (.slice ak nk ck):=fun W hW=>by
     have hsk:=HXS.out;rw [aj.small] at hsk;have htk:=HXT.out;rw [aj.tf] at htk;exact IH.out (aj.aW ks) (by omega) ks _ W (jnq _) (by omega) (HRA.kids.up hW) hsk.2.2.2.2.2.2.2.2 htk.2
    have IC:=Hy kd t d ti at_ ar ci ks _ _ _ _ _ wA HRA HXS.out LC (by omega)
    rw [<- HX.out] at IC;have IL:=hid IC;have zo:=hid bA;clear gD hp c0 c1 c2 c3 c4 c5 c6 c7 c8 c9 HRA LC IC PA bA;go_wp2_with fail
    (with_reducible refine IL.out.mono ?_)
    rintro e w1 ⟨vA,vK,rfl,hNd,b1⟩;obtain ⟨aA,nA,cA,rfl⟩:=Rd.au hNd.at_
    obtain ⟨aK,nK,cK,rfl⟩:=Rd.au hNd.ks;have HND:=hid hNd;have B1:=hid b1;have z1:=b1.size;clear e0 e1 e2 e3 e4 e5 e6 e7 e8 e9 hNd b1 IL;obtain ⟨nm,tx,XA,XK⟩:=X;dsimp only [Nd.nm,Nd.tx,Nd.at_,Nd.ks] at htx HND;dsimp only [Nd.nm,Nd.tx];go_upto_region 8 with (fail)
    obtain ⟨q,hq⟩:∃ q,q=w1.heap.size:=⟨_,rfl⟩;obtain ⟨wN,hwN⟩:∃ wN,wN=w1.alloc (.cells #[.string nm,.string tx,.slice aA nA cA,.slice aK nK cK] 35):=⟨_,rfl⟩;have KN:CB 35 q [.string nm,.string tx,.slice aA nA cA,.slice aK nK cK] wN:=by rw [hwN,hq];exact CB.new _ _ w1
    have bN:Below w1.heap.size w1 wN:=by rw [hwN];exact (jnk _ _).alloc (jnq _) _
    have zN:wN.heap.size=q+1:=by rw [hwN,hq];simp
    have hqr:wA.heap.size<=q:=by rw [hq];exact z1
    have HQ:=hid hq;rw [<- hwN,<- hq];have BN:=hid (aU zo.out (aU B1.out bN));have Lu:=hid bN;have f0:=KN.cell 0 _ rfl;have f1:=KN.cell 1 _ rfl;have HKN:=hid KN;have ZN:=hid zN;have hzr:=BN.out.size;clear hwN hq KN bN zN;by_cases hem:q01 nm=true
    ·have q1:nm.toList.isEmpty=true:=by rw [wm];exact hem
     have q2:nm.toList=[]:=by rw [List.isEmpty_iff] at q1;exact q1
     have htp:0<tx.size:=Oo (Ot.out hem).2;have Ou:Hid (gM (N.take (k+1))=(P.1,P.2++tx)):=by show _=_;rw [HST.out];unfold dZ;rw [if_pos (show q01 (Nd.mk nm tx XA XK).nm=true from hem)];rfl
     have WS:=hid (zP (S+1) U (Lib.strCells P.2) tx wN (mZ.out.below BN.out) (by rw [Lib.strCells_length];omega) (by omega) htp);clear hem HST Ot;go_wp2_with fail
     (with_reducible refine WS.out.mono ?_)
     rintro e w2 ⟨rfl,ja7,hb2⟩;have hR2:=bU.out.reU (w':=w2) (by have:=hb2.size;omega) (fun b h1 h2=>(hb2.blk b h2 (by have:=Ej.out;omega)).trans (BN.out.block b (by omega)));obtain ⟨wB2,ja8,hrow2⟩:=hR2;have HF:Hid (CF S w N (.int .i64 ((k+1:Nat):Int)) w2):=by
      refine ⟨k+1,rows,.slice av m cv,U,wB2,by rw [SB.out];omega,rfl,ja8.trans Ej.out,?_,?_,?_,?_⟩
      ·rw [Ou.out];exact hrow2
      ·exact (hb2.blk S (by omega) (by omega)).trans ((BN.out.block S (by omega)).trans oz.out)
      ·rw [Ou.out,Cz];exact ja7
      ·exact gI.out.trans ((BN.out.mono hSr).trans (hb2.below (by omega) (by omega)))
     clear ja7 hb2 ja8 hrow2 WS f0 f1 q1 q2;go_wp2;go_roundw;case rel=>exact HF.out
     case measure=>simp [intOf];omega
    ·have q1:nm.toList.isEmpty=false:=by rw [wm];simpa using hem
     have Ou:Hid (gM (N.take (k+1))=(P.1++bM P.2++[.mk nm tx XA XK],⟨#[]⟩)):=by show _=_;rw [HST.out];unfold dZ;rw [if_neg (show ¬ q01 (Nd.mk nm tx XA XK).nm=true from hem)]
     have FC:=Au S U P.2.data.toList P.1 rows (.slice av m cv) wr wN wB (by have:=Ej.out;omega) bU.out oz.out mZ.out BN.out (by rw [Y8.out];omega);rw [Cv] at FC;have FL:=hid FC;clear hem HST Ot FC;go_wp2_with fail
     (with_reducible refine FL.out.mono ?_)
     rintro e w3 ⟨rfl,gL,v3,wB3,Xp,hrow3,LJ,SE,uQ,hkp3,hb3⟩;obtain ⟨m3,MZ⟩:∃ m,m=(List.map Nd.d (P.1++bM P.2)).length:=⟨_,rfl⟩;have jf8:m3<=m+1:=by
      rw [MZ,jo2,jo1,Y8.out];have:(bM P.2).length<=1:=by unfold bM;split<;>simp
      omega
     obtain ⟨a3,c3,rfl,hc3,jfx⟩:=hrow3.cap MZ.symm;unfold maxLen at jfx;have Y4:=hid MZ.symm;have U3:=hid hrow3.drew;have Y9:CB 35 q [.string nm,.string tx,.slice aA nA cA,.slice aK nK cK] w3:=(hkp3 q (by omega) (by have:=ZN.out;omega)).trans HKN.out;have NR3:Hid (Rd (fun b=>wA.heap.size<=b/\b<q) w3 (Nd.mk nm tx XA XK).d [.string nm,.string tx,.slice aA nA cA,.slice aK nK cK]):=
      Nd.iH nm tx (HND.out.keep (fun b (h1:wA.heap.size<=b) h2=>⟨⟨h1,by rw [HQ.out];exact h2⟩,(hkp3 b (by omega) (by have:=ZN.out;have:=HQ.out;omega)).trans (Lu.out.block b h2)⟩))
     have S0:w3.drew.cell? ⟨S,0,none⟩=some (.slice a3 m3 c3)/\w3.drew.cell? ⟨q,0,none⟩=some (.string nm)/\w3.drew.cell? ⟨q,1,none⟩=some (.string tx)/\w3.drew.cell? ⟨q,2,none⟩=some (.slice aA nA cA)/\w3.drew.cell? ⟨q,3,none⟩=some (.slice aK nK cK):=⟨LJ.cell,Y9.cell 0 _ rfl,Y9.cell 1 _ rfl,Y9.cell 2 _ rfl,Y9.cell 3 _ rfl⟩;have hov:∀ g,(Value.slice a3 m3 c3).ownBlock=some g->S+2<=g/\(g<wr.heap.size\/wN.heap.size<=g):=fun g hg=>⟨by have:=(hrow3.own.lt g hg).1;have:=Ej.out;omega,uQ g hg⟩
     have H8:=hid hov;have jfz:=hid LJ;have Xq:=hid SE;have HB3:=hid hb3;have SG:=hid Xp;have HKQ:=hid Y9;have hz3:=hb3.size;have jg0:S<w3.heap.size:=LJ.lt;clear MZ hrow3 LJ SE hb3 Xp uQ hkp3 Y9 hov FL f0 f1 q1;go_upto_region 11 with (fail)
     refine M4 7 (fun w'=>w'.cell? ⟨S,0,none⟩=some (.slice a3 m3 c3)/\w'.cell? ⟨q,0,none⟩=some (.string nm)/\w'.cell? ⟨q,1,none⟩=some (.string tx)/\w'.cell? ⟨q,2,none⟩=some (.slice aA nA cA)/\w'.cell? ⟨q,3,none⟩=some (.slice aK nK cK)) (by kernel_rfl) S0 ?_;intro hH;refine dw 0 rfl (by kernel_rfl) hH (by rfl) (by intro wv hSw;(try dsimp only at hSw);go_simp;try with_reducible rfl) ?_;refine dw 1 rfl (by kernel_rfl) hH (by rfl) (by intro wv hSw;(try dsimp only at hSw);go_simp;try with_reducible rfl) ?_;refine dw 2 rfl (by kernel_rfl) hH (by rfl) (by intro wv hSw;(try dsimp only at hSw);go_simp;try with_reducible rfl) ?_;try simp only [Act.put,jn7,jn8,jn9]
     refine dO (i:=3) rfl (by kernel_rfl) (fun KQ hK=>?_);go_simp;refine hK.out _ _ (fun _ _=>⟨past S0.1 _,past S0.2.1 _,past S0.2.2.1 _,past S0.2.2.2.1 _,past S0.2.2.2.2 _⟩) (fun hH2=>?_);clear hK KQ hH;have hH:=hH2 (by decide) (by kernel_rfl);clear hH2;try simp only [Act.put,jn7,jn8,jn9]
     refine dO (i:=4) rfl (by kernel_rfl) (fun KQ hK=>?_);refine LH rfl (.tmp 26) (.tmp 29) 28 rfl iN _ 80 Tryz.underlying28 GR oQ oV oW rfl (by decide) U3.out (fun _=>False.elim) (Nd.mk ⟨#[]⟩ ⟨#[]⟩ [] []).d [.string ⟨#[]⟩,.string ⟨#[]⟩,.slice none 0 0,.slice none 0 0] (Nd.iH ⟨#[]⟩ ⟨#[]⟩ ⟨Rd.aD _ _ _,Rd.aD _ _ _⟩) rfl kE Y4.out (by omega) (by decide) rfl rfl ?_;intro g5 c5 w5 cu hg5 Ov MQ;have hgS:S+2<=g5/\g5≠q/\(g5<wr.heap.size\/wN.heap.size<=g5):=by
      have hz9:w3.drew.heap.size=w3.heap.size:=rfl;rcases Ov with h | h
      ·have:=H8.out g5 h;have:=ZN.out;omega
      ·have:=ZN.out;omega
     have M6:∀ b,b=S\/b=q->some b≠(Value.slice a3 m3 c3).ownBlock:=fun b hb e=>by
      have:=H8.out b e.symm;have:=ZN.out;omega
     have S5:w5.cell? ⟨S,0,none⟩=some (.slice a3 m3 c3)/\w5.cell? ⟨q,0,none⟩=some (.string nm)/\w5.cell? ⟨q,1,none⟩=some (.string tx)/\w5.cell? ⟨q,2,none⟩=some (.slice aA nA cA)/\w5.cell? ⟨q,3,none⟩=some (.slice aK nK cK):=⟨(World.grownBy.cell_far hg5 ⟨S,0,none⟩ (by simp;omega) (M6 S (.inl rfl))).trans (past S0.1 _),(World.grownBy.cell_far hg5 ⟨q,0,none⟩ (by simp;have:=ZN.out;omega) (M6 q (.inr rfl))).trans (past S0.2.1 _),(World.grownBy.cell_far hg5 ⟨q,1,none⟩ (by simp;have:=ZN.out;omega) (M6 q (.inr rfl))).trans (past S0.2.2.1 _),(World.grownBy.cell_far hg5 ⟨q,2,none⟩ (by simp;have:=ZN.out;omega) (M6 q (.inr rfl))).trans (past S0.2.2.2.1 _),(World.grownBy.cell_far hg5 ⟨q,3,none⟩ (by simp;have:=ZN.out;omega) (M6 q (.inr rfl))).trans (past S0.2.2.2.2 _)⟩;obtain ⟨y0,y1,y2,y3,yf⟩:=cu.J6 Y4.out;have t0:(0:Int)<=(m3:Int):=by omega
     have t1:(m3:Int)<((m3+1:Nat):Int):=by omega
     have t2:(m3:Int)<(m3:Int)+1:=by omega
     have t3:m3<m3+1:=by omega
     have U5:=hid cu;have Vj:=hid hg5;have hz5:w3.heap.size+1<=w5.heap.size:=by have:=hg5.size;simp at this;exact this
     have Vk:S≠g5:=by omega
     have hqg:q≠g5:=fun e=>hgS.2.1 e.symm
     have SH:aF S (.slice a3 m3 c3) 28 w5:=(hg5.block S (by simp;omega) (M6 S (.inl rfl))).trans ((jo6 w3 _ S jg0).trans jfz.out);have zf5:=SH.free;have z5:=SH.cell;obtain ⟨wZ,hzZ,Fw⟩:=cu.hop2 (p:=S) (by have:=SG.out;have:=Ej.out;omega) (show w5.grownBy (w5.setCell ⟨S,0,none⟩ (.slice (some ⟨g5,0,none⟩) (m3+1) c5)) (some S) from ⟨rfl,rfl,rfl,by simp [jp6],fun b _ hb=>jo5 w5 ⟨S,0,none⟩ _ b (fun e=>hb (by rw [e]))⟩);obtain ⟨u0,u1,u2,u3,uf⟩:=Fw.J6 Y4.out;have BX5:=hid SH;clear Fw hzZ SH cu hg5 Ov M6 S0;refine hK.out _ _ (fun _ _=>S5) (fun hH2=>?_);clear hK KQ hH;have hH:=hH2 (by decide) (by kernel_rfl);clear hH2;try simp only [Act.put,jn7,jn8,jn9]
     apply ja9;case hm=>
      intro REST;refine J7 (i:=5) (j:=7) rfl rfl (by kernel_rfl) (fun KQ hK=>?_) (fun KQ hK=>?_);rotate_left
      ·go_simp;refine hK.out _ _ (fun h=>absurd rfl h) (fun _=>?_);clear hK KQ;try simp only [Act.put,jn7,jn8,jn9]
       refine dO (i:=5) rfl (by kernel_rfl) (fun KQ hK=>?_);go_simp;refine hK.out _ _ (fun _ h=>absurd h (by decide)) (fun _=>?_);clear hK KQ;try simp only [Act.put,jn7,jn8,jn9]
       refine dO (i:=6) rfl (by kernel_rfl) (fun KQ hK=>?_);go_simp;refine hK.out _ _ (fun _ h=>absurd h (by decide)) (fun _=>?_);clear hK KQ;try simp only [Act.put,jn7,jn8,jn9]
       refine Fx (by kernel_rfl) ?_ _;have hsw:=oI w5 S g5 (m3*4) (.slice (some ⟨g5,0,none⟩) (m3+1) c5) (.string nm) (.string tx) (.slice aA nA cA) (.slice aK nK cK) Vk;simp only [qD] at hsw;rw [hsw];clear hsw;exact REST
      go_simp;refine hK.out _ _ (fun _ _=>S5) (fun hH2=>?_);clear hK KQ;have hH:=hH2 (by decide) (by kernel_rfl);clear hH2;try simp only [Act.put,jn7,jn8,jn9]
      refine J7 (i:=6) (j:=7) rfl rfl (by kernel_rfl) (fun KQ hK=>?_) (fun KQ hK=>?_)
      ·go_simp;have S6:jp5 ((((w5.setCell ⟨g5,m3*4,none⟩ (.string nm)).setCell ⟨g5,m3*4+1,none⟩ (.string tx)).setCell ⟨g5,m3*4+2,none⟩ (.slice aA nA cA)).setCell ⟨g5,m3*4+3,none⟩ (.slice aK nK cK)) ⟨S,0,none⟩=some (.slice a3 m3 c3)/\jp5 ((((w5.setCell ⟨g5,m3*4,none⟩ (.string nm)).setCell ⟨g5,m3*4+1,none⟩ (.string tx)).setCell ⟨g5,m3*4+2,none⟩ (.slice aA nA cA)).setCell ⟨g5,m3*4+3,none⟩ (.slice aK nK cK)) ⟨q,0,none⟩=some (.string nm)/\jp5 ((((w5.setCell ⟨g5,m3*4,none⟩ (.string nm)).setCell ⟨g5,m3*4+1,none⟩ (.string tx)).setCell ⟨g5,m3*4+2,none⟩ (.slice aA nA cA)).setCell ⟨g5,m3*4+3,none⟩ (.slice aK nK cK)) ⟨q,1,none⟩=some (.string tx)/\jp5 ((((w5.setCell ⟨g5,m3*4,none⟩ (.string nm)).setCell ⟨g5,m3*4+1,none⟩ (.string tx)).setCell ⟨g5,m3*4+2,none⟩ (.slice aA nA cA)).setCell ⟨g5,m3*4+3,none⟩ (.slice aK nK cK)) ⟨q,2,none⟩=some (.slice aA nA cA)/\jp5 ((((w5.setCell ⟨g5,m3*4,none⟩ (.string nm)).setCell ⟨g5,m3*4+1,none⟩ (.string tx)).setCell ⟨g5,m3*4+2,none⟩ (.slice aA nA cA)).setCell ⟨g5,m3*4+3,none⟩ (.slice aK nK cK)) ⟨q,3,none⟩=some (.slice aK nK cK):=show jp5 (qD w5 g5 (m3*4) (.string nm) (.string tx) (.slice aA nA cA) (.slice aK nK cK)) ⟨S,0,none⟩=some (.slice a3 m3 c3)/\jp5 (qD w5 g5 (m3*4) (.string nm) (.string tx) (.slice aA nA cA) (.slice aK nK cK)) ⟨q,0,none⟩=some (.string nm)/\jp5 (qD w5 g5 (m3*4) (.string nm) (.string tx) (.slice aA nA cA) (.slice aK nK cK)) ⟨q,1,none⟩=some (.string tx)/\jp5 (qD w5 g5 (m3*4) (.string nm) (.string tx) (.slice aA nA cA) (.slice aK nK cK)) ⟨q,2,none⟩=some (.slice aA nA cA)/\jp5 (qD w5 g5 (m3*4) (.string nm) (.string tx) (.slice aA nA cA) (.slice aK nK cK)) ⟨q,3,none⟩=some (.slice aK nK cK) from ⟨Vg S5.1 Vk,Vg S5.2.1 hqg,Vg S5.2.2.1 hqg,Vg S5.2.2.2.1 hqg,Vg S5.2.2.2.2 hqg⟩
       have z6:=S6.1;have Xr:aF S (.slice a3 m3 c3) 28 ((((w5.setCell ⟨g5,m3*4,none⟩ (.string nm)).setCell ⟨g5,m3*4+1,none⟩ (.string tx)).setCell ⟨g5,m3*4+2,none⟩ (.slice aA nA cA)).setCell ⟨g5,m3*4+3,none⟩ (.slice aK nK cK)):=(gZ w5 g5 (m3*4) (.string nm) (.string tx) (.slice aA nA cA) (.slice aK nK cK) S Vk).trans BX5.out;have zf:=Xr.free;refine hK.out _ _ (fun _ _=>S6) (fun hH2=>?_);clear hK KQ hH;have hH:=hH2 (by decide) (by kernel_rfl);clear hH2;try simp only [Act.put,jn7,jn8,jn9]
       refine dO (i:=7) rfl (by kernel_rfl) (fun KQ hK=>?_);go_simp;refine hK.out _ _ (fun h=>absurd rfl h) (fun _=>?_);clear hK KQ hH;try simp only [Act.put,jn7,jn8,jn9]
       refine Fx (by kernel_rfl) ?_ _;clear S6 z6 Xr zf;exact REST
      ·go_simp;refine hK.out _ _ (fun h=>absurd rfl h) (fun _=>?_);clear hK KQ hH;try simp only [Act.put,jn7,jn8,jn9]
       refine dO (i:=6) rfl (by kernel_rfl) (fun KQ hK=>?_);go_simp;refine hK.out _ _ (fun _ h=>absurd h (by decide)) (fun _=>?_);clear hK KQ;try simp only [Act.put,jn7,jn8,jn9]
       refine Fx (by kernel_rfl) ?_ _;have hsw:=oI w5 S g5 (m3*4) (.slice (some ⟨g5,0,none⟩) (m3+1) c5) (.string nm) (.string tx) (.slice aA nA cA) (.slice aK nK cK) Vk;simp only [qD] at hsw;rw [hsw];clear hsw;exact REST
     case hr=>
      clear S5 y0 y1 y2 y3 yf u0 u1 u2 u3 uf zf5 z5 t0 t1 t2 t3;have Za:=U5.out.Vh Y4.out (.string nm) (.string tx) (.slice aA nA cA) (.slice aK nK cK) (d1:=(Nd.mk nm tx XA XK).d) (Rd.keep (fun b hb hlt=>⟨⟨.inr (by have:=SG.out;have:=Ej.out;omega),(fun e=>by subst e;have:=ZN.out;omega),by omega⟩,(Vj.out.block b (by simp;omega) (fun e=>by have:=H8.out b e.symm;have:=ZN.out;omega)).trans (jo6 w3 _ b hlt)⟩) _ _ NR3.out);obtain ⟨w6,mJ⟩:∃ w6,w6=qD w5 g5 (m3*4) (.string nm) (.string tx) (.slice aA nA cA) (.slice aK nK cK):=⟨_,rfl⟩;have hb6:∀ b,b≠g5->w6.heap[b]?=w5.heap[b]?:=fun b hb=>by rw [mJ];exact gZ _ _ _ _ _ _ _ b hb
      have jaj:aF S (.slice a3 m3 c3) 28 w6:=(hb6 S Vk).trans BX5.out;rw [<- mJ] at Za;have Xt:=mJ;simp only [qD] at Xt;rw [<- Xt];clear Xt;have hz6:w6.heap.size=w5.heap.size:=by rw [mJ];simp [qD,jp6]
      obtain ⟨w7,hw7⟩:∃ w7,w7=w6.setCell ⟨S,0,none⟩ (.slice (some ⟨g5,0,none⟩) (m3+1) c5):=⟨_,rfl⟩;rw [<- hw7];have bx7:aF S (.slice (some ⟨g5,0,none⟩) (m3+1) c5) 28 w7:=by rw [hw7];exact jaj.set _
      have g7:w6.grownBy w7 (some S):=by rw [hw7];exact ⟨rfl,rfl,rfl,by simp [jp6],fun b _ hb=>jo5 w6 ⟨S,0,none⟩ _ b (fun e=>hb (by rw [e]))⟩
      have hz7:w7.heap.size=w6.heap.size:=by rw [hw7];simp [jp6]
      obtain ⟨wB7,hB7,nV⟩:=Za.hop2 (p:=S) (by have:=SG.out;have:=Ej.out;omega) g7;have Xu:∀ b,b<w3.heap.size->b≠S->b≠g5->(∀ g,(Value.slice a3 m3 c3).ownBlock=some g->b≠g)->w7.heap[b]?=w3.heap[b]?:=fun b h1 h2 h3 h4=>
       (g7.block b (by omega) (fun e=>h2 (Option.some.inj e))).trans ((hb6 b h3).trans ((Vj.out.block b (by simp;omega) (fun e=>h4 b e.symm rfl)).trans (jo6 w3 _ b h1)))
      have hr7:aH 35 4 (fun _=>False) w7.heap.size wB7 ((gM (N.take (k+1))).1.map Nd.d) (gL++[[.string nm,.string tx,.slice aA nA cA,.slice aK nK cK]]) (.slice (some ⟨g5,0,none⟩) (m3+1) c5) w7:=by rw [Ou.out];show aH _ _ _ _ _ (List.map Nd.d (P.1++bM P.2++[.mk nm tx XA XK])) _ _ _;rw [List.map_append];exact nV.up (by omega) (jnq _)
      have HF:Hid (CF S w N (.int .i64 ((k+1:Nat):Int)) w7):=by
       refine ⟨k+1,_,.slice (some ⟨g5,0,none⟩) (m3+1) c5,w7.heap.size,wB7,by rw [SB.out];omega,rfl,hB7.trans (SG.out.trans Ej.out),hr7,bx7,?_,?_⟩
       ·rw [Ou.out];exact Xq.out.SA (Xu (S+1) (by have:=Xq.out.lt;exact this) (by omega) (by omega) (fun g hg=>by have:=(H8.out g hg).1;omega)) (by have:=Xq.out.lt;omega)
       ·refine gI.out.trans ((BN.out.mono hSr).trans (HB3.out.trans ⟨?_,?_,?_,by omega,fun b hb=>Xu b (by omega) (by omega) (by omega) (fun g hg=>by have:=(H8.out g hg).1;omega)⟩))
        ·rw [hw7,mJ];exact Vj.out.os
        ·rw [hw7,mJ];exact Vj.out.tape
        ·rw [hw7,mJ];exact Vj.out.output
      clear Za hr7 nV hB7 g7 bx7 hw7 jaj mJ hb6 Xu;go_wp2;go_roundw;case rel=>exact HF.out
      case measure=>simp [intOf];omega
   ·have hkl:k=l.length:=by omega
    subst hkl;have hPN:P=gM N:=by rw [HP.out,joz (by rw [SB.out];exact jnq _)]
    have FC:=Au S U P.2.data.toList P.1 rows (.slice av m cv) wr wr wB (by have:=Ej.out;omega) bU.out oz.out mZ.out (jnk _ _) (by rw [Y8.out];omega);rw [Cv,hPN,<- sM.out] at FC;have FL:=hid FC;clear FC;go_wp2_with fail
    (with_reducible refine FL.out.mono ?_)
    rintro e w3 ⟨rfl,gL,v3,wB3,Xp,hrow3,LJ,SE,uQ,hkp3,hb3⟩;have x0:=LJ.cell;have HF:Hid (cO w (iY l) (.returned v3) w3):=by
     refine ⟨gL,v3,rfl,hrow3.sG ?_ ?_⟩
     ·have:=NG.out;have:=Ej.out;omega
     ·rw [<- NG.out];exact hbel.trans hb3
    clear hrow3 SE hb3 uQ hkp3 FL;go_wp2;go_ret;exact HF.out
open Go.RowKit
open Go.RowKit
theorem aQ.init {P:Nat->Prop} {w:jqz}:∀ (ds:List D) (rows:List (List jr1)) (d0:D) (r0:List jr1),aQ P w (ds++[d0]) (rows++[r0])->rows.length=ds.length->aQ P w ds rows/\Rd P w d0 r0
 | [],rows,d0,r0,hr,hl=>by
  rw [List.eq_nil_of_length_eq_zero hl] at hr ⊢;obtain ⟨r,rs,e,h1,h2⟩:=hr.aG;have e1:r=r0:=by simp at e;exact e.1.symm
  subst e1;exact ⟨aQ.none,h1⟩
 | x::ds,[],d0,r0,hr,hl=>by simp at hl
 | x::ds,r::rows,d0,r0,hr,hl=>by
  obtain ⟨r',rs,e,h1,h2⟩:=hr.aG;have e':r'=r/\rs=rows++[r0]:=by simp at e;exact ⟨e.1.symm,e.2.symm⟩
  obtain ⟨rfl,rfl⟩:=e';obtain ⟨h3,h4⟩:=aQ.init ds rows d0 r0 h2 (by simpa using hl);exact ⟨aQ.cons h1 h3,h4⟩
section
variable {T:TypeId} {U:Nat} {ok:Nat->Prop} {w0 w:jqz} {ds:List D} {rows:List (List jr1)} {v:jr1}
theorem aH.LM {d:D} (h:aH T 4 ok U w0 (ds++[d]) rows v w):∃ rows' a0 a1 a2 a3,rows=rows'++[[a0,a1,a2,a3]]/\Rd (fun b=>(ok b\/w0.heap.size<=b)/\v.ownBlock≠some b/\b<U) w d [a0,a1,a2,a3]:=by
 have hl:=h.red.len;rw [jo1,List.length_singleton] at hl;have hne:rows≠[]:=fun e=>by rw [e] at hl;simp at hl
 obtain ⟨rows',r,rfl⟩:∃ rows' r,rows=rows'++[r]:=⟨_,_,(List.dropLast_concat_getLast hne).symm⟩;have hr:=h.len r (by simp)
 match r,hr with
 | [a0,a1,a2,a3],_=>exact ⟨rows',a0,a1,a2,a3,rfl,(aQ.init ds rows' d _ h.red (by simp at hl;exact hl)).2⟩
end
open Go.RowKit
structure LnW (li:List aj):Prop where
 sz:aj.aW li<=900000
 sm:aj.ay li
 tf:aj.Ij li
theorem uh (name:ByteArray):∀ (cs:List UInt8) (l:List ah) (k:Nat) (c:UInt8) (b:ah),cs[k]?=some c->l[k]?=some b->aT name (cs.take (k+1)) (l.take (k+1))=aT name (cs.take k) (l.take k)++[Ow name c b]
 | [],_,_,_,_,h,_=>by simp at h
 | _::_,[],_,_,_,_,h=>by simp at h
 | c0::cs,b0::l,0,c,b,h1,h2=>by
  simp at h1 h2;subst h1 h2;simp [aT]
 | c0::cs,b0::l,k+1,c,b,h1,h2=>by
  rw [List.take_succ_cons,List.take_succ_cons,List.take_succ_cons,List.take_succ_cons,aT,aT,uh name cs l k c b (by simpa using h1) (by simpa using h2)];rfl
theorem wW (name:ByteArray):∀ (cs:List UInt8) (l:List ah),(aT name cs l).length<=l.length
 | [],l=>by simp [aT]
 | _::_,[]=>by simp [aT]
 | c::cs,b::l=>by rw [aT,jo3,jo3];have:=wW name cs l;omega
def Ox (Q:Nat) (w1:jqz) (name:ByteArray) (cs:List UInt8) (ks:List ah) (vi:jr1) (wr:jqz):Prop:=
 ∃ (k:Nat) (rows:List (List jr1)) (v:jr1) (U:Nat) (wB:jqz),k<=ks.length/\vi=.int .i64 k/\wB.heap.size=Q+1/\aH 35 4 (fun _=>False) U wB ((aT name (cs.take k) (ks.take k)).map Nd.d) rows v wr /\
  CB 35 Q [.string ⟨#[116,114]⟩,.string ⟨#[]⟩,.slice none 0 0,v] wr/\Below Q w1 wr
theorem cb4 {p:Nat} {w:jqz} {c0 c1 c2 c3:jr1} (h:CB 35 p [c0,c1,c2,c3] w):w.cell? ⟨p,0,none⟩=some c0/\w.cell? ⟨p,1,none⟩=some c1/\w.cell? ⟨p,2,none⟩=some c2/\w.cell? ⟨p,3,none⟩=some c3/\∀ j,w.frozen? ⟨p,j,none⟩=false:=
 ⟨h.cell 0 _ rfl,h.cell 1 _ rfl,h.cell 2 _ rfl,h.cell 3 _ rfl,kS h⟩
theorem Fy (k lv:Int) (i t d ti:ByteArray) (at_:At) (li:List aj) (ks:List ah) (vc vp vl vk:jr1) (name letters:ByteArray) (w:jqz) (hR:mg (·<w.heap.size) w at_ li ks vc vp vl vk) (hlen:ks.length=letters.size) (hk1:ks.length<=1000000) (hc:∀ c∈ks,LnW c.mI) : Calls Tryz.prog 174 #[.agg #[.int .i64 k,.int .i64 lv,.string i,.string t,.string d,.string ti,.string at_.id,vc,vp,vl,vk],.string name,.string letters] w (uR w (aO wX [] (aT name letters.data.toList ks))):=by
 obtain ⟨iN,GR,oQ,oV,oW⟩:=info_parts nM;obtain ⟨ac,nc,cc,rfl⟩:=Rd.au hR.at_.cls
 obtain ⟨ap,np,cp,rfl⟩:=Rd.au hR.at_.aP
 obtain ⟨al,nl,cl,rfl⟩:=Rd.au hR.line;obtain ⟨ak,ck,hvk,hs⟩:=Rd.aC hR.kids;obtain ⟨nk,hnk⟩:∃ nk,nk=ks.length:=⟨_,rfl⟩;obtain rfl:vk=.slice ak nk ck:=by rw [hnk];simpa using hvk
 have hcap:nk<=ck:=by have:=hs.le;rw [jo2] at this;omega
 have hmx:=hs.max;unfold maxLen at hmx;have hnl:nk=letters.size:=by rw [hnk,hlen]
 obtain ⟨S,W0,hS,hW0,z0,k0,k1,b0⟩:=wG 48 w [.int .i64 k,.int .i64 lv,.string i,.string t,.string d,.string ti,.string at_.id,.slice ac nc cc,.slice ap np cp,.slice al nl cl,.slice ak nk ck];have KX:Hid (∀ w':jqz,Below W0.heap.size W0 w'->w'.cell? ⟨S,10,none⟩=some (.slice ak nk ck)):=fun w' hb=>(k0.below hb).cell 10 _ rfl
 have HS2:Hid (mo (·<S) W0 11 (ks.map ah.d) ak ck):=by subst hS;exact hs.below b0
 have GU:=hid hS;have HW0:=hid hW0;have Z0:=hid z0;have B0:=hid b0;have K1:=hid k1;have HC:=hid hc;have EW:=hid hnk;have SB:=hid hnl;have EC:=hid (lD ⟨#[116,114]⟩ none none 0 0 0 0 W0);have ja1:nk<=1000000:=by omega
 have hls:letters.size<=1000000:=by omega
 clear hR hvk hs hnk hnl hlen hS hW0 z0 k0 k1 b0 hc hk1;go_enter Tryz.func174,Tryz.ntmps174;go_upto_region 1 with (fail)
 rw [<- GU.out];have hk0:=HW0.out;simp only [fP] at hk0;rw [<- hk0];clear hk0;go_wp2_with fail
 (with_reducible refine EC.out.mono ?_)
 rintro e w1 ⟨rfl,b1⟩;go_upto_region 2 with (fail)
 obtain ⟨Q,hQ⟩:∃ Q,Q=w1.heap.size:=⟨_,rfl⟩;obtain ⟨wQ,Xv⟩:∃ wQ,wQ=w1.alloc (.cells #[.string ⟨#[116,114]⟩,.string ⟨#[]⟩,.slice none 0 0,.slice none 0 0] 35):=⟨_,rfl⟩;have zQ:wQ.heap.size=Q+1:=by rw [Xv,hQ];simp
 have kQ:CB 35 Q [.string ⟨#[116,114]⟩,.string ⟨#[]⟩,.slice none 0 0,.slice none 0 0] wQ:=by rw [Xv,hQ];exact CB.new _ _ w1
 have bQ:Below Q w1 wQ:=by rw [Xv,hQ];exact (jnk _ _).alloc (jnq _) _
 have hWQ:W0.heap.size<=Q:=by rw [hQ];exact b1.size
 have R0:Hid (Ox Q w1 name letters.data.toList ks (.int .i64 0) wQ):=⟨0,[],_,Q+1,wQ,Nat.zero_le _,rfl,zQ,by rw [<- zQ];exact aH.nil _ _ _ _,kQ,bQ⟩;have B1:=hid b1;have g10:=KX.out wQ (b1.trans (bQ.mono hWQ));rw [<- Xv,<- hQ];clear Xv zQ kQ bQ b1 EC hQ;go_wp2
 go_loopw [15] (fun vi wr=>Ox Q w1 name letters.data.toList ks vi wr) (fun i _=>nk-(intOf i).toNat)
 case atStart=>exact R0.out
 case round=>
  clear R0 g10;obtain ⟨j,rows,v,U,wB,hj,rfl,Vi,hrow,hcb,hbel⟩:=hrel;obtain ⟨ds,hds⟩:∃ ds,ds=(aT name (letters.data.toList.take j) (ks.take j)).map Nd.d:=⟨_,rfl⟩;rw [<- hds] at hrow;obtain ⟨m,hm⟩:∃ m,m=ds.length:=⟨_,rfl⟩;have hmj:m<=1000000:=by have h:=wW name (letters.data.toList.take j) (ks.take j);have h2:(ks.take j).length<=ks.length:=List.length_take_le' _ _;rw [hm,hds,jo2];have:=EW.out;omega
  obtain ⟨av,cv,rfl,-,-⟩:=hrow.cap hm.symm;have HM:=hid hm.symm;have GQ:=hid hds;have bU:=hid hrow;have Rl:=hid hcb;have Ej:=hid Vi;have gI:=hid hbel;have hUr:=hrow.Lv;have hQU:Q+1<=U:=by have:=hrow.H6;omega
  clear hrow hcb hm hds Vi hbel;by_cases hlt:j<nk
  ·obtain ⟨y,hy⟩:∃ y,ks[j]?=some y:=⟨_,jnj (by have:=EW.out;omega)⟩;have hjs:j<letters.size:=by have:=SB.out;omega
   obtain ⟨c,hcx⟩:∃ c,letters.data.toList[j]?=some c:=⟨_,jnj (by simpa using hjs)⟩;have hsn:=uh name _ _ _ _ _ hcx hy;have hlw:=HC.out y (jo8 hy);obtain ⟨yk,J3,yi,yt,yd,J4,Ie,LD,EY⟩:=y;have hlw:LnW LD:=hlw;obtain ⟨g,off,vc,vp,vl,vk,rfl,hok,hbl,hc,hR⟩:=iA HS2.out hy;have Xw:Below S W0 wr:=((jnk _ _).trans (B1.out.mono (by have:=Z0.out;omega))).trans (gI.out.mono (by have:=Z0.out;omega));obtain ⟨c0,c1,c2,c3,c4,c5,c6,c7,c8,c9,c10⟩:=hc.at2 (w':=wr) (Xw.block g hok);obtain ⟨Oa,Ob,Oc,rfl⟩:=Rd.au hR.at_.cls
   obtain ⟨Od,Oe,Og,rfl⟩:=Rd.au hR.at_.aP
   obtain ⟨Ee,Ef,Eh,rfl⟩:=Rd.au hR.line;obtain ⟨Oh,Oi,Oj,rfl⟩:=Rd.au hR.kids;have HLI:Hid (Rd (·<S) W0 (bq LD) [.slice Ee Ef Eh]):=hR.line;have HLW:=hid hlw;have rX:=hid (show (aT name (letters.data.toList.take (j+1)) (ks.take (j+1))).map Nd.d=ds++[(aO name (iJ wY (AL c)) (iY LD)).d] by rw [hsn,List.map_append,GQ.out];rfl);have HCX:=hid hcx;have jg1:=hid Xw;have hlet:(letters[j]'hjs)=c:=by have h:=hcx;rw [jnj (by simpa using hjs)] at h;exact Option.some.inj h
   have t7:(j:Int)<(letters.size:Int):=by omega
   clear hc hok hbl hR hsn hlw hy hcx Xw;go_upto_region 5 with (fail)
   obtain ⟨p,hp⟩:∃ p,p=wr.heap.size:=⟨_,rfl⟩;obtain ⟨wA,gD⟩:∃ wA,wA=wr.alloc (.cells #[.int .i64 yk,.int .i64 J3,.string yi,.string yt,.string yd,.string J4,.string Ie.id,.slice Oa Ob Oc,.slice Od Oe Og,.slice Ee Ef Eh,.slice Oh Oi Oj] 48):=⟨_,rfl⟩;have PA:CB 48 p [.int .i64 yk,.int .i64 J3,.string yi,.string yt,.string yd,.string J4,.string Ie.id,.slice Oa Ob Oc,.slice Od Oe Og,.slice Ee Ef Eh,.slice Oh Oi Oj] wA:=by rw [gD,hp];exact CB.new _ _ wr
   have bA:Below wr.heap.size wr wA:=by rw [gD];exact (jnk _ _).alloc (jnq _) _
   have zA:wA.heap.size=p+1:=by rw [gD,hp];simp
   rw [<- gD,<- hp];have hpr:wr.heap.size<=p:=by omega
   have hzA:wr.heap.size+1<=wA.heap.size:=by omega
   have hzp:p+1<=wA.heap.size:=by omega
   have hSW:S+2<=W0.heap.size:=Nat.le_of_eq Z0.out.symm;have BA:=hid bA;have HPA:=hid PA;have ZA:=hid zA;clear gD hp c0 c1 c2 c3 c4 c5 c6 c7 c8 c9 c10 PA bA zA;have q7:letters[j]?=some c:=by rw [<- hlet];exact getElem?_pos letters j hjs
   apply jak (α1:=jqz) (α2:=Option Addr) (α3:=Nat) (α4:=Nat) (α5:=Nat->jr1) (R:=fun w2 a2 n2 c2 f=>Hid (Below wA.heap.size wA w2)/\Hid (Rd (wA.heap.size<=·) w2 (bD (iJ wY (AL c))) [.slice a2 n2 c2]));case hm=>
    intro REST;go_upto_region 7 with (fail)
    by_cases Oy:c=108
    ·have q1:((c.toNat:Int)==108)=true:=by rw [Oy];rfl
     have hal:iJ wY (AL c)=[⟨wY,⟨#[108,101,102,116]⟩⟩]:=by rw [Oy];rfl
     have PC:Hid (Calls Tryz.prog 41 #[.slice (some ⟨wA.heap.size,0,none⟩) 2 2] (wA.alloc (.cells #[.string ⟨#[97,108,105,103,110]⟩,.string ⟨#[108,101,102,116]⟩] 9)) (bI (wA.alloc (.cells #[.string ⟨#[97,108,105,103,110]⟩,.string ⟨#[108,101,102,116]⟩] 9)) [⟨wY,⟨#[108,101,102,116]⟩⟩])):=RZ wY ⟨#[108,101,102,116]⟩ wA;go_wp2_with fail
     (with_reducible refine PC.out.mono ?_)
     rintro e w2 ⟨bE,v2,rfl,hrow2⟩;obtain ⟨a2,n2,c2,rfl⟩:=hrow2.slice3;have bl:Below wA.heap.size wA (wA.alloc (.cells #[.string ⟨#[97,108,105,103,110]⟩,.string ⟨#[108,101,102,116]⟩] 9)):=(jnk _ _).alloc (jnq _) _;have PR:=hid (show Rd (wA.heap.size<=·) w2 (bD (iJ wY (AL c))) [.slice a2 n2 c2] by rw [hal];exact hrow2.eP.weaken (fun b hb=>Nat.le_trans bl.size hb));have B2:=hid (bl.trans (hrow2.aN.mono bl.size));clear hrow2 bl PC hal;go_upto_region 13 with (fail)
     refine oJ [22,23,24,25,26,27,28,29,30,31,32,33,34] (fun f=>?_);simp only [List.foldl_cons,List.foldl_nil,jn9,jn8];exact REST w2 a2 n2 c2 f ⟨B2,PR⟩
    by_cases Zb:c=99
    ·have jg2:((c.toNat:Int)==108)=false:=by rw [Zb];rfl
     have q1:((c.toNat:Int)==99)=true:=by rw [Zb];rfl
     have hal:iJ wY (AL c)=[⟨wY,⟨#[99,101,110,116,101,114]⟩⟩]:=by rw [Zb];rfl
     have PC:Hid (Calls Tryz.prog 41 #[.slice (some ⟨wA.heap.size,0,none⟩) 2 2] (wA.alloc (.cells #[.string ⟨#[97,108,105,103,110]⟩,.string ⟨#[99,101,110,116,101,114]⟩] 9)) (bI (wA.alloc (.cells #[.string ⟨#[97,108,105,103,110]⟩,.string ⟨#[99,101,110,116,101,114]⟩] 9)) [⟨wY,⟨#[99,101,110,116,101,114]⟩⟩])):=RZ wY ⟨#[99,101,110,116,101,114]⟩ wA;go_wp2_with fail
     (with_reducible refine PC.out.mono ?_)
     rintro e w2 ⟨bE,v2,rfl,hrow2⟩;obtain ⟨a2,n2,c2,rfl⟩:=hrow2.slice3;have bl:Below wA.heap.size wA (wA.alloc (.cells #[.string ⟨#[97,108,105,103,110]⟩,.string ⟨#[99,101,110,116,101,114]⟩] 9)):=(jnk _ _).alloc (jnq _) _;have PR:=hid (show Rd (wA.heap.size<=·) w2 (bD (iJ wY (AL c))) [.slice a2 n2 c2] by rw [hal];exact hrow2.eP.weaken (fun b hb=>Nat.le_trans bl.size hb));have B2:=hid (bl.trans (hrow2.aN.mono bl.size));clear hrow2 bl PC hal;go_upto_region 13 with (fail)
     refine oJ [22,23,24,25,26,27,28,29,30,31,32,33,34] (fun f=>?_);simp only [List.foldl_cons,List.foldl_nil,jn9,jn8];exact REST w2 a2 n2 c2 f ⟨B2,PR⟩
    by_cases Ik:c=114
    ·have q99:((c.toNat:Int)==99)=false:=by rw [Ik];rfl
     have jg2:((c.toNat:Int)==108)=false:=by rw [Ik];rfl
     have q1:((c.toNat:Int)==114)=true:=by rw [Ik];rfl
     have hal:iJ wY (AL c)=[⟨wY,⟨#[114,105,103,104,116]⟩⟩]:=by rw [Ik];rfl
     have PC:Hid (Calls Tryz.prog 41 #[.slice (some ⟨wA.heap.size,0,none⟩) 2 2] (wA.alloc (.cells #[.string ⟨#[97,108,105,103,110]⟩,.string ⟨#[114,105,103,104,116]⟩] 9)) (bI (wA.alloc (.cells #[.string ⟨#[97,108,105,103,110]⟩,.string ⟨#[114,105,103,104,116]⟩] 9)) [⟨wY,⟨#[114,105,103,104,116]⟩⟩])):=RZ wY ⟨#[114,105,103,104,116]⟩ wA;go_wp2_with fail
     (with_reducible refine PC.out.mono ?_)
     rintro e w2 ⟨bE,v2,rfl,hrow2⟩;obtain ⟨a2,n2,c2,rfl⟩:=hrow2.slice3;have bl:Below wA.heap.size wA (wA.alloc (.cells #[.string ⟨#[97,108,105,103,110]⟩,.string ⟨#[114,105,103,104,116]⟩] 9)):=(jnk _ _).alloc (jnq _) _;have PR:=hid (show Rd (wA.heap.size<=·) w2 (bD (iJ wY (AL c))) [.slice a2 n2 c2] by rw [hal];exact hrow2.eP.weaken (fun b hb=>Nat.le_trans bl.size hb));have B2:=hid (bl.trans (hrow2.aN.mono bl.size));clear hrow2 bl PC hal;go_upto_region 13 with (fail)
     refine oJ [22,23,24,25,26,27,28,29,30,31,32,33,34] (fun f=>?_);simp only [List.foldl_cons,List.foldl_nil,jn9,jn8];exact REST w2 a2 n2 c2 f ⟨B2,PR⟩
    have q1:((c.toNat:Int)==108)=false:=by rw [beq_eq_false_iff_ne];intro h;exact Oy (UInt8.toNat_inj.1 (show c.toNat=108 by omega))
    have q2:((c.toNat:Int)==99)=false:=by rw [beq_eq_false_iff_ne];intro h;exact Zb (UInt8.toNat_inj.1 (show c.toNat=99 by omega))
    have q3:((c.toNat:Int)==114)=false:=by rw [beq_eq_false_iff_ne];intro h;exact Ik (UInt8.toNat_inj.1 (show c.toNat=114 by omega))
    have hal:AL c=⟨#[]⟩:=by unfold AL;rw [if_neg Oy,if_neg Zb,if_neg Ik]
    have PR:Hid (Rd (wA.heap.size<=·) wA (bD (iJ wY (AL c))) [.slice none 0 0]):=by rw [hal];exact Rd.aD _ _ _
    clear Oy Zb Ik hal;go_upto_region 13 with (fail)
    refine oJ [22,23,24,25,26,27,28,29,30,31,32,33,34] (fun f=>?_);simp only [List.foldl_cons,List.foldl_nil,jn9,jn8];exact REST wA none 0 0 f ⟨jnk _ _,PR⟩
   case hr=>
    intro w2 a2 n2 c2 f ⟨B2,PR⟩;have U2:=hid ((bU.out.below BA.out).below B2.out);have CQ2:=hid ((Rl.out.below BA.out).below B2.out);have Rm:=hid (HPA.out.below B2.out);have hz2:=B2.out.size;have LC:=hid (sJ 900000 LD (.slice Ee Ef Eh) w2.drew HLW.out.sz (by decide) (Rd.keep (w:=W0) (w':=w2.drew) (ok:=(·<S)) (fun b (hb:b<S) hlt=>⟨by show b<w2.heap.size;have:=Z0.out;omega,(show w2.heap[b]?=W0.heap[b]? from (B2.out.block b (by have:=Z0.out;omega)).trans ((BA.out.block b (by have:=Z0.out;omega)).trans (jg1.out.block b hb)))⟩) _ _ HLI.out) HLW.out.sm HLW.out.tf);have S0:w2.drew.cell? ⟨Q,3,none⟩=some (.slice av m cv)/\w2.drew.cell? ⟨p,9,none⟩=some (.slice Ee Ef Eh):=⟨CQ2.out.cell 3 _ rfl,Rm.out.cell 9 _ rfl⟩;refine nT 11 (fun w'=>w'.cell? ⟨Q,3,none⟩=some (.slice av m cv)/\w'.cell? ⟨p,9,none⟩=some (.slice Ee Ef Eh)) (by kernel_rfl) S0 ?_;intro hH;refine Rk 0 rfl (by kernel_rfl) hH (by rfl) (by intro wv hSw;(try dsimp only at hSw);go_simp;try with_reducible rfl) ?_;refine Rk 1 rfl (by kernel_rfl) hH (by rfl) (by intro wv hSw;(try dsimp only at hSw);go_simp;try with_reducible rfl) ?_;refine Rk 2 rfl (by kernel_rfl) hH (by rfl) (by intro wv hSw;(try dsimp only at hSw);go_simp;try with_reducible rfl) ?_;refine Rk 3 rfl (by kernel_rfl) hH (by rfl) (by intro wv hSw;(try dsimp only at hSw);go_simp;try with_reducible rfl) ?_;refine Rk 4 rfl (by kernel_rfl) hH (by rfl) (by intro wv hSw;(try dsimp only at hSw);go_simp;try with_reducible rfl) ?_;refine Rk 5 rfl (by kernel_rfl) hH (by rfl) (by intro wv hSw;(try dsimp only at hSw);go_simp;try with_reducible rfl) ?_;try simp only [Act.put,jn7,jn8,jn9]
    refine H9 (i:=6) rfl (by kernel_rfl) (fun KQ hK=>?_);go_simp;go_at_call 78
    (with_reducible refine LC.out.mono ?_)
    rintro e w3 ⟨gL,v3,rfl,hrow3⟩;obtain ⟨a3,n3,c3,rfl⟩:=hrow3.slice3;have b3:Below w2.heap.size w2 w3:=((jnk _ _).drew).trans hrow3.aN;have B3:=hid b3;have KS3:=hid (show Rd (w2.heap.size<=·) w3 (dh (iY LD)) [.slice a3 n3 c3] from hrow3.eP);have Q3:=CQ2.out.below b3;have P3:=Rm.out.below b3;have S3:w3.cell? ⟨Q,3,none⟩=some (.slice av m cv)/\w3.cell? ⟨p,9,none⟩=some (.slice Ee Ef Eh):=⟨Q3.cell 3 _ rfl,P3.cell 9 _ rfl⟩;have U3:=hid (U2.out.below b3);have Rn:=hid Q3;have Ro:=hid P3;have EC:=hid (lD name a2 a3 n2 n3 c2 c3 w3);clear hrow3 b3 Q3 P3 LC U2;refine hK.out _ _ (fun _=>S3) (fun hH2=>?_);clear hK KQ hH;have hH:=hH2 (by decide);clear hH2;try simp only [Act.put,jn7,jn8,jn9]
    refine H9 (i:=7) rfl (by kernel_rfl) (fun KQ hK=>?_);go_simp;go_at_call 40
    (with_reducible refine EC.out.mono ?_)
    rintro e w4 ⟨rfl,b4⟩;have B4:=hid (aU B3.out b4);have U4:=hid (U3.out.below b4);have Q4:=Rn.out.below b4;have P4:=Ro.out.below b4;have S4:w4.cell? ⟨Q,3,none⟩=some (.slice av m cv)/\w4.cell? ⟨p,9,none⟩=some (.slice Ee Ef Eh):=⟨Q4.cell 3 _ rfl,P4.cell 9 _ rfl⟩;have HQ4:=hid Q4;have Vl:=hid P4;have hz4:=B4.out.size;have XD:=hid (show Rd (fun b=>False\/U<=b) w4 (aO name (iJ wY (AL c)) (iY LD)).d [.string name,.string ⟨#[]⟩,.slice a2 n2 c2,.slice a3 n3 c3] from Nd.iH name ⟨#[]⟩ ⟨Rd.weaken ((PR.out.aV B3.out).aV b4) (fun b hb=>.inr (by omega)),Rd.weaken (KS3.out.aV b4) (fun b hb=>.inr (by omega))⟩);clear b4 Q4 P4 EC U3 KS3 Rn Ro;refine hK.out _ _ (fun _=>S4) (fun hH2=>?_);clear hK KQ hH;have hH:=hH2 (by decide);clear hH2;try simp only [Act.put,jn7,jn8,jn9]
    refine H9 (i:=8) rfl (by kernel_rfl) (fun KQ hK=>?_);go_simp;refine hK.out _ _ (fun _=>⟨past S4.1 _,past S4.2 _⟩) (fun hH2=>?_);clear hK KQ hH;have hH:=hH2 (by decide);clear hH2;try simp only [Act.put,jn7,jn8,jn9]
    refine H9 (i:=9) rfl (by kernel_rfl) (fun KQ hK=>?_);refine wE rfl (.tmp 36) (.tmp 43) 28 rfl iN _ 80 Tryz.underlying28 GR oQ oV oW rfl (by decide) U4.out (fun _=>False.elim) (aO name (iJ wY (AL c)) (iY LD)).d [.string name,.string ⟨#[]⟩,.slice a2 n2 c2,.slice a3 n3 c3] XD.out rfl kE HM.out (by omega) (by decide) rfl rfl ?_;intro a5 c5 w5 cu hg5;have hz5:w4.heap.size+1<=w5.heap.size:=by have h:=hg5.size;simp at h;exact h
    have hvQ:some Q≠(Value.slice av m cv).ownBlock:=fun e=>by have:=(U4.out.own.lt Q e.symm).1;have:=Ej.out;omega
    have hvp:some p≠(Value.slice av m cv).ownBlock:=fun e=>by have:=U4.out.oU p e.symm;omega
    have q5:CB 35 Q [.string ⟨#[116,114]⟩,.string ⟨#[]⟩,.slice none 0 0,.slice av m cv] w5:=(hg5.block Q (by simp;omega) hvQ).trans ((jo6 w4 _ Q HQ4.out.lt).trans HQ4.out);have p5:CB 48 p [.int .i64 yk,.int .i64 J3,.string yi,.string yt,.string yd,.string J4,.string Ie.id,.slice Oa Ob Oc,.slice Od Oe Og,.slice Ee Ef Eh,.slice Oh Oi Oj] w5:=(hg5.block p (by simp;omega) hvp).trans ((jo6 w4 _ p Vl.out.lt).trans Vl.out);have S5:w5.cell? ⟨Q,3,none⟩=some (.slice av m cv)/\w5.cell? ⟨p,9,none⟩=some (.slice Ee Ef Eh):=⟨q5.cell 3 _ rfl,p5.cell 9 _ rfl⟩;have fz:=kS q5;have e3:=q5.cell 3 _ rfl;have HQ5:=hid q5;have U5:=hid cu;have Vj:=hid hg5;clear cu hg5 q5 p5 hvp XD;refine hK.out _ _ (fun _=>S5) (fun hH2=>?_);clear hK KQ hH;have hH:=hH2 (by decide);clear hH2;try simp only [Act.put,jn7,jn8,jn9]
    refine H9 (i:=10) rfl (by kernel_rfl) (fun KQ hK=>?_);go_simp;refine hK.out _ _ (fun _=>S5) (fun hH2=>?_);clear hK KQ hH;have hH:=hH2 (by decide);clear hH2;try simp only [Act.put,jn7,jn8,jn9]
    refine H9 (i:=11) rfl (by kernel_rfl) (fun KQ hK=>?_);go_simp;refine hK.out _ _ (fun h=>absurd rfl h) (fun _=>?_);clear hK KQ;refine nU (by kernel_rfl) ?_ _;obtain ⟨w6,mJ⟩:∃ w6,w6=w5.setCell ⟨Q,3,none⟩ (.slice a5 (m+1) c5):=⟨_,rfl⟩;rw [<- mJ];have g6:w5.grownBy w6 (some Q):=by rw [mJ];exact ⟨rfl,rfl,rfl,by simp [jp6],fun b _ hb=>jo5 w5 ⟨Q,3,none⟩ _ b (fun e=>hb (by rw [e]))⟩
    have q6:CB 35 Q [.string ⟨#[116,114]⟩,.string ⟨#[]⟩,.slice none 0 0,.slice a5 (m+1) c5] w6:=by rw [mJ];exact nO HQ5.out 3 _
    have hz6:w6.heap.size=w5.heap.size:=by rw [mJ];simp [jp6]
    obtain ⟨wB6,hB6,eu⟩:=U5.out.hop2 (p:=Q) (by have:=Ej.out;omega) g6;have HF:Hid (Ox Q w1 name letters.data.toList ks (.int .i64 ((j+1:Nat):Int)) w6):=by
     have h1:=eu.up (U':=w6.heap.size) (by omega) (jnq _);rw [<- rX.out] at h1;refine ⟨j+1,_,_,w6.heap.size,wB6,by have:=EW.out;omega,rfl,hB6.trans Ej.out,h1,q6,?_⟩;have Xv:Q<=wr.heap.size:=by omega
     refine gI.out.trans ((BA.out.mono Xv).trans ((B2.out.mono (by have:=BA.out.size;omega)).trans ((B4.out.mono (by omega)).trans ?_)));exact ((jnk _ _).alloc (by omega) _ |>.grown Vj.out (by simp;omega) (fun g hg=>by have:=(U4.out.own.lt g hg).1;have:=Ej.out;omega)).trans ((jnk Q w5).grown g6 (by omega) (fun g hg=>by have:=Option.some.inj hg;omega))
    clear mJ g6 q6 eu hB6 U5 Vj HQ5 hH S0 S3 S4 S5 fz e3 hvQ;go_wp2;go_roundw;case rel=>exact HF.out
    case measure=>simp [intOf];omega
  ·have hkl:j=nk:=by have:=EW.out;omega
   have hjk:j=ks.length:=by have:=EW.out;omega
   have hll:letters.data.toList.length=letters.size:=by simp
   have HNR:Hid (gF (W0.heap.size<=·) wr [] (aT name letters.data.toList ks) (.slice none 0 0) (.slice av m cv)):=by have h:=bU.out.eP;rw [GQ.out,joz (by rw [hll];have:=SB.out;omega),joz (by omega)] at h;exact ⟨Rd.aD _ _ _,h.weaken (fun b hb=>by have:=Ej.out;omega)⟩
   have BL:=hid (B1.out.trans (gI.out.mono hWQ));obtain ⟨x0,x1,x2,x3,xf⟩:=oC (K1.out.below BL.out);obtain ⟨y0,y1,y2,y3,-⟩:=cb4 Rl.out;clear hll hjk;go_upto_region 15 with (fail)
   obtain ⟨w9,dU⟩:∃ w9,w9=dY wr (S+1) (.string ⟨#[116,114]⟩) (.string ⟨#[]⟩) (.slice none 0 0) (.slice av m cv):=⟨_,rfl⟩;have hf:=gK ⟨#[116,114]⟩ ⟨#[]⟩ [] (aT name letters.data.toList ks) GU.out Z0.out B0.out K1.out BL.out HNR.out;rw [<- dU] at hf;have mK:=hid hf.1;have Il:=hid hf.2;clear hf;have hw8:=dU;simp only [dY] at hw8;clear dU;go_wp2;rw [<- hw8];have r0:=mK.out.cell 0 _ rfl;have r1:=mK.out.cell 1 _ rfl;have r2:=mK.out.cell 2 _ rfl;have r3:=mK.out.cell 3 _ rfl;exact bodyPost_ret (v:=.agg #[.string ⟨#[116,114]⟩,.string ⟨#[]⟩,.slice none 0 0,.slice av m cv]) (by simp [results,Tryz.results174,go_sem,r0,r1,r2,r3]) rfl Il.out
end Go.Proofs.YtkfnkeflalcphaaGreatDoor

