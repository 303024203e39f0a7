/- Contract of html.line: the nodes of inlines. Contracts of publisherref34.some, element, texts, attrs, joined. Contract of publisherref34.joined: neighbouring texts are joined. Contracts of slides.block.title, begins and of the function finish of slides.parts. Contract of html.row: the node of a row of a table. Contract of html.table: the node of a table. A literal of two nodes; what Page leaves. -/
import Derived.Test.YtkfnkeflalcphaaGreatDoorMHtX
import Derived.Test.YtkfnkeflalcphaaGreatDoorMHtF
set_option maxHeartbeats 8000000
set_option maxRecDepth 100000
open Go.Lib (hid)
namespace Go.Proofs.YtkfnkeflalcphaaGreatDoor
open Tryz
open List renaming getElem?_eq_getElem->jK6,length_append->jKq,length_map->jKx,length_cons->jKz,mem_of_getElem?->jL4,map_append->jL8,take_of_length_le->jLj
open Go.RowKit.Below renaming refl->jK7,heap_setCell->jL1,heap_alloc->jL2
open Nat renaming le_refl->jK8,le_trans->jK9
open Option.some renaming inj->jL0
open Go.World renaming cell?->jM0,setCell->jM1
open Go renaming World->jN9,Value->jNk
open Go.RowKit renaming Below->jNj
open Go.RowKit
set_option linter.unusedVariables false
set_option linter.unusedSimpArgs false
theorem jyz (x:aj) (h:x.small):x.nd.tx.size<=300:=by
  obtain ⟨k,t,d,ti,a,ar,ci,ks⟩:=x;rw [aj.small] at h;have h1:=h.1;have e0:(⟨#[]⟩:ByteArray).size=0:=rfl;have e1:TA.size=1:=rfl;rw [aj.nd];have key:∀ (c:Prop) [Decidable c] (a b:Nd),a.tx.size<=300->b.tx.size<=300->(if c then a else b).tx.size<=300:=by
    intro c _ a b h1 h2;split
    ·exact h1
    ·exact h2
  have el:∀ (n:ByteArray) (a:List Pr) (ks:List Nd),(aW n a ks).tx.size<=300:=fun _ _ _=>by show (⟨#[]⟩:ByteArray).size<=300;omega
  refine key _ _ _ (by show TA.size<=300;omega) ?_;refine key _ _ _ (el _ _ _) (key _ _ _ (el _ _ _) (key _ _ _ (el _ _ _) (key _ _ _ (el _ _ _) (key _ _ _ (el _ _ _) (key _ _ _ (el _ _ _) (key _ _ _ (el _ _ _) (key _ _ _ (el _ _ _) (key _ _ _ (el _ _ _) (key _ _ _ (el _ _ _) (key _ _ _ (el _ _ _) h1))))))))))
theorem aj.rM:∀ (l:List aj),aj.ay l->∀ x∈l,x.small
  | [],_,x,hx=>by cases hx
  | y::l,h,x,hx=>by
    rw [aj.ay] at h;rcases List.mem_cons.1 hx with rfl | hx
    ·exact h.1
    ·exact aj.rM l h.2 x hx
theorem JC:∀ (l:List Nd) (p:List Nd × ByteArray),(l.foldl eO p).1.length<=p.1.length+2*l.length
  | [],p=>by simp
  | x::l,p=>by
    have h:=JC l (eO p x);have h2:(eO p x).1.length<=p.1.length+2:=by
      unfold eO;split
      ·show p.1.length<=_;omega
      ·show (p.1++bY p.2++[x]).length<=_;rw [jKq,jKq];have:(bY p.2).length<=1:=by unfold bY;split<;>simp
       simp;omega
    rw [List.foldl_cons,jKz];omega
theorem Po:∀ (l:List Nd) (p:List Nd × ByteArray),(∀ x∈l,x.tx.size<=300)->(l.foldl eO p).2.size<=p.2.size+300*l.length
  | [],p,_=>by simp
  | x::l,p,hx=>by
    have h:=Po l (eO p x) (fun y hy=>hx y (List.mem_cons_of_mem _ hy));have h1:=hx x (List.mem_cons_self ..);have h2:(eO p x).2.size<=p.2.size+300:=by
      unfold eO;split
      ·show (p.2++x.tx).size<=_;rw [ByteArray.size_append];omega
      ·show (⟨#[]⟩:ByteArray).size<=_;have:(⟨#[]⟩:ByteArray).size=0:=rfl;omega
    rw [List.foldl_cons,jKz];omega
theorem MS (l:List Nd) (k:Nat) (x:Nd) (h:l[k]?=some x):gY (l.take (k+1))=eO (gY (l.take k)) x:=by rw [List.take_add_one,h];exact MU _ _
theorem Gz (a b:ByteArray):Lib.strCells (a++b)=Lib.strCells a++Lib.strCells b:=by unfold Lib.strCells;rw [ByteArray.data_append];simp
def tZ (w:jN9) (g o:Nat) (c0 c1 c2 c3:jNk):jN9:=(((w.setCell ⟨g,o,none⟩ c0).setCell ⟨g,o+1,none⟩ c1).setCell ⟨g,o+2,none⟩ c2).setCell ⟨g,o+3,none⟩ c3
theorem iJ (w:jN9) (g o:Nat) (c0 c1 c2 c3:jNk) (b:Nat) (h:b≠g):(tZ w g o c0 c1 c2 c3).heap[b]?=w.heap[b]?:=by unfold tZ;rw [jL1 _ ⟨g,o+3,none⟩ _ b h,jL1 _ ⟨g,o+2,none⟩ _ b h,jL1 _ ⟨g,o+1,none⟩ _ b h,jL1 _ ⟨g,o,none⟩ _ b h]
theorem kT (w:jN9) (b b' o o':Nat) (u v:jNk) (h:b≠b'):(w.setCell ⟨b,o,none⟩ u).setCell ⟨b',o',none⟩ v=(w.setCell ⟨b',o',none⟩ v).setCell ⟨b,o,none⟩ u:=by
  unfold jM1;simp only [World.mk.injEq,and_true];apply Array.ext_getElem?;intro i;simp only [Array.getElem?_modify];by_cases h1:b=i
  ·subst h1;have hb:¬ b'=b:=fun e=>h e.symm
   simp [hb]
  ·simp [h1]
theorem vU (w:jN9) (S g o:Nat) (V c0 c1 c2 c3:jNk) (h:S≠g):tZ (w.setCell ⟨S,0,none⟩ V) g o c0 c1 c2 c3=(tZ w g o c0 c1 c2 c3).setCell ⟨S,0,none⟩ V:=by unfold tZ;rw [kT w S g,kT _ S g,kT _ S g,kT _ S g]<;>exact h
theorem q2u {w:jN9} {g o:Nat} {c0 c1 c2 c3:jNk} {b j:Nat} {v:jNk} (h:w.cell? ⟨b,j,none⟩=some v) (hb:b≠g):(tZ w g o c0 c1 c2 c3).cell? ⟨b,j,none⟩=some v:=by rw [lI (iJ w g o c0 c1 c2 c3 b hb)];exact h
section
variable {T:TypeId} {U:Nat} {ok:Nat->Prop} {w0 w:jN9} {ds:List D} {rows:List (List jNk)} {v:jNk}
theorem aC.jfq {g n c:Nat} {d0 d1:D} {a0 a1 a2 a3:jNk} (h:aC T 4 ok U w0 (ds++[d0]) (rows++[[a0,a1,a2,a3]]) (.slice (some ⟨g,0,none⟩) (n+1) c) w) (hn:ds.length=n) (c0 c1 c2 c3:jNk) (hd:Rd (fun b=>(ok b\/w0.heap.size<=b)/\g≠b/\b<U) w d1 [c0,c1,c2,c3]):aC T 4 ok U w0 (ds++[d1]) (rows++[[c0,c1,c2,c3]]) (.slice (some ⟨g,0,none⟩) (n+1) c) (tZ w g (n*4) c0 c1 c2 c3):=by
  have hl:rows.length=n:=by have:=h.red.len;simp at this;omega
  have hfl:rows.flatten.length=n*4:=by rw [jQ 4 rows (fun r hr=>h.len r (by simp [hr])),hl]
  have hown:=h.own;have e1:(rows++[[a0,a1,a2,a3]]).flatten=rows.flatten++[a0,a1,a2,a3]:=by simp
  rw [e1,jKq,List.length_singleton,hn] at hown;have st:∀ (W:jN9) (zs:List jNk),W.ownsRow w0.heap.size T 4 (.slice (some ⟨g,0,none⟩) (n+1) c) (n+1) (rows.flatten++zs)->∀ (j:Nat) (u:jNk),(W.setCell ⟨g,n*4+j,none⟩ u).ownsRow w0.heap.size T 4 (.slice (some ⟨g,0,none⟩) (n+1) c) (n+1) (rows.flatten++zs.set j u):=by intro W zs hW j u;have:=(hW.stored (n*4+j) u).1;rw [List.set_append_right _ _ (by omega),hfl,Nat.add_sub_cancel_left] at this;exact this
  have o4:=st _ _ (st _ _ (st _ _ (st _ _ hown 0 c0) 1 c1) 2 c2) 3 c3;have hb:∀ b,b≠g->(tZ w g (n*4) c0 c1 c2 c3).heap[b]?=w.heap[b]?:=fun b hb=>iJ w g _ _ _ _ _ b hb
  have hz:(tZ w g (n*4) c0 c1 c2 c3).heap.size=w.heap.size:=by simp [tZ,jM1]
  have hg0:w0.heap.size<=g:=(h.own.lt g rfl).1;refine ⟨?_,?_,?_,?_,h.oU,h.qL,by rw [hz];exact h.CZ⟩
  ·rw [show (rows++[[c0,c1,c2,c3]]).flatten=rows.flatten++[c0,c1,c2,c3] by simp,jKq,List.length_singleton,hn];exact o4
  ·obtain ⟨rA,rB,e2,hA,hB⟩:∃ rA rB,rows++[[a0,a1,a2,a3]]=rA++[rB]/\aO (fun b=>(ok b\/w0.heap.size<=b)/\(Value.slice (some ⟨g,0,none⟩) (n+1) c).ownBlock≠some b/\b<U) w ds rA/\True:=by
     refine ⟨rows,_,rfl,?_,trivial⟩;have h0:=h.red;clear st o4 hown;generalize hP:(fun b=>(ok b\/w0.heap.size<=b)/\(Value.slice (some ⟨g,0,none⟩) (n+1) c).ownBlock≠some b/\b<U)=P at h0;have gen:∀ (ds:List D) (rows:List (List jNk)) (d0:D) (r0:List jNk),aO P w (ds++[d0]) (rows++[r0])->rows.length=ds.length->aO P w ds rows:=by
       intro ds;induction ds with
       | nil=>intro rows d0 r0 _ hl;rw [List.eq_nil_of_length_eq_zero hl];exact aO.none
       | cons x ds ih=>
         intro rows d0 r0 hr hl;cases rows with
         | nil=>simp at hl
         | cons r rows=>
           obtain ⟨r',rs,e,h1,h2⟩:=hr.aF;have e':r'=r/\rs=rows++[r0]:=by simp at e;exact ⟨e.1.symm,e.2.symm⟩
           obtain ⟨rfl,rfl⟩:=e';exact aO.cons h1 (ih rows d0 r0 h2 (by simpa using hl))
     exact gen ds rows d0 _ h0 (by omega)
   have e3:rA=rows:=by have:=congrArg List.dropLast e2;simpa using this.symm
   subst e3;refine aO.app (aO.keep (fun b hb' _=>⟨hb',hb b (fun e=>by subst e;exact hb'.2.1 rfl)⟩) _ _ hA) (aO.one (Rd.keep (fun b hb' _=>⟨⟨hb'.1,fun e=>hb'.2.1 (by simpa [Value.ownBlock] using e),hb'.2.2⟩,hb b (fun e=>hb'.2.1 e.symm)⟩) _ _ hd))
  ·intro r hr;rcases List.mem_append.1 hr with hr | hr
   ·exact h.len r (by simp [hr])
   ·simp at hr;subst hr;rfl
  ·have hbel:=h.aY;exact (((hbel.setCell (p:=⟨g,n*4,none⟩) hg0 c0).setCell (p:=⟨g,n*4+1,none⟩) hg0 c1).setCell (p:=⟨g,n*4+2,none⟩) hg0 c2).setCell (p:=⟨g,n*4+3,none⟩) hg0 c3
theorem aC.Pm {g n c:Nat} {d0:D} {a0 a1 a2 a3:jNk} (h:aC T 4 ok U w0 (ds++[d0]) (rows++[[a0,a1,a2,a3]]) (.slice (some ⟨g,0,none⟩) (n+1) c) w) (hn:ds.length=n) : w.cell? ⟨g,n*4,none⟩=some a0/\w.cell? ⟨g,n*4+1,none⟩=some a1/\w.cell? ⟨g,n*4+2,none⟩=some a2/\w.cell? ⟨g,n*4+3,none⟩=some a3/\∀ j,w.frozen? ⟨g,j,none⟩=false:=by
  have hl:rows.length=n:=by have:=h.red.len;simp at this;omega
  have hfl:rows.flatten.length=n*4:=by rw [jQ 4 rows (fun r hr=>h.len r (by simp [hr])),hl]
  have hc:∀ i u,[a0,a1,a2,a3][i]?=some u->w.cell? ⟨g,n*4+i,none⟩=some u:=by
    intro i u hu;have:=h.own.cells (g:=g) rfl (n*4+i) u (by
      rw [show (rows++[[a0,a1,a2,a3]]).flatten=rows.flatten++[a0,a1,a2,a3] by simp,List.getElem?_append_right (by omega),hfl,Nat.add_sub_cancel_left];exact hu)
    have e:((⟨g,0,none⟩:Addr).add (n*4+i))=⟨g,n*4+i,none⟩:=by unfold Addr.add;split<;>simp_all
    rwa [e] at this
  refine ⟨hc 0 _ rfl,hc 1 _ rfl,hc 2 _ rfl,hc 3 _ rfl,fun j=>?_⟩;rcases h.own.2 with ⟨h1,-⟩ | ⟨g',cap,cur,h1,-,h2,-⟩
  ·cases h1
  ·injection h1 with h1
   injection h1 with h1
   injection h1 with h1
   subst h1;simp [World.frozen?,h2]
theorem EH {k n:Nat} {ops:Array Oper} {o:Oper} {a:Act} {K:Act->jN9->Prop} {Q:Exit->Act->jN9->Prop} {E:Prop} (hgd:o.guard=none) (s x:Operand) (t:TypeId) (ho:o.op=.call { callee:=.builtin .append,args:=#[s,x],argTypes:=#[t,t] }) (i:TypeInfo) (z:jNk) (bytes:Nat) (ht:prog.underlying t=some (.slice T)) (hi:prog.info? T=some i) (hz:i.zero=some z) (hsize:i.size=k) (hby:i.bytes=bytes) (hzs:z.cells.size=k) (hsz:0<k) (h:aC T k ok U w0 ds rows v w) (hB:∀ b,ok b->b<w0.heap.size) (d:D) (r:List jNk) (hx:Rd (fun b=>ok b\/U<=b) w d r) (hr:r.length=k) (h1:∀ u∈r,u.oneCell'=true) (hdn:ds.length=n) (hn:n<=10000000) (tX:bytes<=1000) (hs:a.eval s=v) (hxe:a.eval x=.slice (some ⟨w.heap.size,0,none⟩) 1 1) (hK:∀ g c' w',aC T k ok w'.heap.size w0 (ds++[d]) (rows++[r]) (.slice (some ⟨g,0,none⟩) (n+1) c') w'->(w.alloc (.cells r.toArray T)).grownBy w' v.ownBlock->(v.ownBlock=some g\/w.heap.size<g)->n+1<=c'->K (a.put o.dst (.slice (some ⟨g,0,none⟩) (n+1) c')) w') : if Region.wanted o (yielded ops a.tmps)=true then Oper.wp prog o a (w.alloc (.cells r.toArray T)) K Q else E:=by
  subst hdn;refine JD ?_;intro hmul;refine jg7 ?_;intro g cap w' hown hg hat _;have ZO:v.ownBlock=some g\/w.heap.size<g:=hat.elim (fun e=>.inl (by rw [e])) (fun e=>.inr (by omega));have hcp:ds.length+1<=cap:=by obtain ⟨g',cap',he,hle⟩:=oJ hown (by omega);injection he with _ _ he;omega
  refine hK _ _ w' ?_ hg ZO hcp;exact jg8
end
def GA (S:Nat) (w:jN9) (N:List Nd) (vi:jNk) (wr:jN9):Prop:=
  ∃ (k:Nat) (rows:List (List jNk)) (v:jNk) (U:Nat) (wB:jN9),k<=N.length/\vi=.int .i64 k/\wB.heap.size=S+2/\aC 35 4 (fun _=>False) U wB ((gY (N.take k)).1.map Nd.d) rows v wr /\
    aH S v 28 wr/\Gl (S+1) U (Lib.strCells (gY (N.take k)).2) wr/\jNj S w wr
theorem Mx {p:Nat} {w:jN9} {c0 c1 c2 c3 c4 c5 c6 c7 c8 c9:jNk} (h:PB p [c0,c1,c2,c3,c4,c5,c6,c7,c8,c9] w) : w.cell? ⟨p,0,none⟩=some c0/\w.cell? ⟨p,1,none⟩=some c1/\w.cell? ⟨p,2,none⟩=some c2/\w.cell? ⟨p,3,none⟩=some c3/\w.cell? ⟨p,4,none⟩=some c4/\w.cell? ⟨p,5,none⟩=some c5 /\ w.cell? ⟨p,6,none⟩=some c6/\w.cell? ⟨p,7,none⟩=some c7/\w.cell? ⟨p,8,none⟩=some c8/\w.cell? ⟨p,9,none⟩=some c9:=
  ⟨h.cell 0 _ rfl,h.cell 1 _ rfl,h.cell 2 _ rfl,h.cell 3 _ rfl,h.cell 4 _ rfl,h.cell 5 _ rfl,h.cell 6 _ rfl,h.cell 7 _ rfl,h.cell 8 _ rfl,h.cell 9 _ rfl⟩
theorem vD.jz0 {S:Nat} {w w':jN9} {at_:At} {ar:List ByteArray} {ci:List Ci} {ks:List aj} {vc vp va vi vk:jNk} (h:vD (·<S) w at_ ar ci ks vc vp va vi vk) (hb:jNj S w w') (hS:S<=w'.heap.size):vD (·<w'.heap.size) w' at_ ar ci ks vc vp va vi vk:=
  have hs:xL (·<S) (·<w'.heap.size) w w':=fun b (h1:b<S) _=>⟨by omega,hb.block b h1⟩
  ⟨⟨Rd.keep hs _ _ h.at_.cls,Rd.keep hs _ _ h.at_.aD⟩,Rd.keep hs _ _ h.args,Rd.keep hs _ _ h.dH,Rd.keep hs _ _ h.kids⟩
theorem tJ (s:ByteArray):s.toList.isEmpty=aV s:=by rw [Lib.toList_data,Bool.eq_iff_iff,List.isEmpty_iff,aV,decide_eq_true_iff]
theorem Vv {s:ByteArray} (h:aV s=false):0<s.size:=by
  unfold aV at h;rw [decide_eq_false_iff_not] at h;have:s.data.toList.length≠0:=fun e=>h (List.eq_nil_of_length_eq_zero e)
  have e2:s.data.toList.length=s.size:=by simp
  omega
theorem Gl.Z5 {b U U':Nat} {w w':jN9} (h:Gl b U [] w) (hs:w'.heap[b]?=w.heap[b]?) (hU:b<U'):Gl b U' [] w':=
  h.imp (fun ⟨_,v,h2,_,h4⟩=>⟨hU,v,hs.trans h2,by rw [h4 rfl];exact World.ownsRowF_nil _ _ _ _,h4⟩) (fun ⟨_,v,h2,_,h4⟩=>⟨hU,v,hs.trans h2,by rw [h4 rfl];exact World.ownsRowF_nil _ _ _ _,h4⟩)
theorem bq{P Q:Prop}(q:Q)(h:Nonempty Q->P:=by
 intro qQ;try simp only [Act.put,List.setIfInBounds_toArray,List.set_cons_zero,List.set_cons_succ]
 exact qQ.elim fun x=>x):P:=h ⟨q⟩
theorem Uv{P Q:Prop}(q:Q)(h:Nonempty Q->P:=by
 intro qQ;obtain ⟨p,hp⟩:∃ p,p=wr.heap.size:=⟨_,rfl⟩;obtain ⟨wA,iD⟩:∃ wA,wA=wr.alloc (.cells #[.int .i64 kd,.string t,.string d,.string ti,.string at_.id,.slice ac nc cc,.slice ap np cp,.slice aa na ca,.slice ai ni yx,.slice ak nk ck] 66):=⟨_,rfl⟩;have PA:PB p [.int .i64 kd,.string t,.string d,.string ti,.string at_.id,.slice ac nc cc,.slice ap np cp,.slice aa na ca,.slice ai ni yx,.slice ak nk ck] wA:=by rw [iD,hp];exact heap_alloc_new wr _
 revert p hp wA iD PA;exact qQ.elim fun x=>x):P:=h ⟨q⟩
theorem tL{P:Prop}(h:P:=by
 go_wp2;go_roundw;case rel=>exact HF.out
 case measure=>simp [intOf];omega):P:=h
theorem jg9{P:Prop}(h:P:=by
 refine yF ?_;have hsw:=vU w5 S g5 (m3*4) (.slice (some ⟨g5,0,none⟩) (m3+1) c5) (.string nm) (.string tx) (.slice aA nA cA) (.slice aK nK cK) hSg;simp only [tZ] at hsw;rw [hsw];clear hsw;exact REST):P:=h
theorem JE{P Q:Prop}(q:Q)(h:Nonempty Q->P:=by
 intro qQ;go_simp;refine hK.out _ _ (fun _ h=>absurd h (by decide)) (fun _=>?_);exact qQ.elim fun x=>x):P:=h ⟨q⟩
theorem Em (n:Nat):∀ (l:List aj) (v:Value) (w:World),aj.aU l<=n->n<=1000000->Rd (·<w.heap.size) w (aZ l) [v]->aj.ay l->aj.MV l -> Calls prog 78 #[v] w (dP w (kP l)):=by
  induction n using Nat.strongRecOn with
  | _ n ih=>
    intro l v w hn hnm hrd hsm htf;obtain ⟨iN,LJ,qx,qz,qA⟩:=info_parts oC;obtain ⟨a,cap,hv,hs⟩:=Rd.aB hrd;obtain rfl:v=.slice a l.length cap:=by simpa using hv
    have hcap:l.length<=cap:=by simpa using hs.le
    have hll:=aj.dI l;have hmx:=hs.max;unfold maxLen at hmx;obtain ⟨N,hN⟩:∃ N,N=aj.Da l:=⟨_,rfl⟩;have hNl:N.length=l.length:=by rw [hN,um,List.length_map]
    have hNt:∀ x∈N,x.tx.size<=300:=by intro x hx;rw [hN,um] at hx;obtain ⟨y,hy,rfl⟩:=List.mem_map.1 hx;exact jyz y (aj.rM l hsm y hy)
    have hNf:∀ x∈N,x.full:=by rw [hN];exact JF l htf
    have jz2:kP l=(gY N).1++bY (gY N).2:=by rw [hN];exact Vw l htf
    obtain ⟨S,hS⟩:∃ S,S=w.heap.size:=⟨_,rfl⟩;obtain ⟨W0,hW0⟩:∃ W,W=(w.alloc (.cells #[.slice none 0 0] 28)).alloc (.cells #[.pointer none,.slice none 0 0] 104):=⟨_,rfl⟩;have z0:W0.heap.size=S+2:=by rw [hW0,hS];simp
    have k0:aH S (.slice none 0 0) 28 W0:=by rw [hW0,hS];exact (aH.new w _ _).alloc _
    have k1:W0.heap[S+1]?=some (.cells #[.pointer none,.slice none 0 0] 104 (0,0)):=by
      rw [hW0,hS];have:=heap_alloc_new (w.alloc (.cells #[.slice none 0 0] 28)) (.cells #[.pointer none,.slice none 0 0] 104)
      rwa [World.size_alloc] at this
    have b0:Below S w W0:=by rw [hW0,hS];exact ((Below.refl _ _).alloc (Nat.le_refl _) _).alloc (by simp) _
    have R0:Hid (GA S w N (.int .i64 0) W0):=⟨0,[],_,S+2,W0,Nat.zero_le _,rfl,z0,by rw [<- z0];exact aC.nil _ _ _ _,k0,Gl.new k1 (by omega),b0⟩;have HS:=hid hs;have IH:=hid ih;have jK:=hid hsm;have HTF:=hid htf;have HN:=hid hN;have DI:=hid hNl;have HNT:=hid hNt;have HNF:=hid hNf;have oK:=hid jz2;have O5:=hid hS;have HW0:=hid hW0;clear hs hv hrd ih hsm htf hN hNl hNt hNf jz2 hS hW0 z0 k0 k1 b0;go_enter func78,ntmps78;go_upto_region 3 with (fail)
    rw [<- O5.out,<- HW0.out];go_wp2
    go_loopw [12] (fun vi wr=>GA S w N vi wr) (fun i _=>l.length-(intOf i).toNat)
    case atStart=>exact R0.out
    case round=>
      clear R0 HW0;obtain ⟨k,rows,v,U,wB,hk,rfl,hzB,hrow,hbx,hbd,hbel⟩:=hrel;rw [DI.out] at hk;obtain ⟨P,hP⟩:∃ P,P=gY (N.take k):=⟨_,rfl⟩;rw [<- hP] at hrow hbd;obtain ⟨m,hm⟩:∃ m,m=(P.1.map Nd.d).length:=⟨_,rfl⟩;have hm2:m<=2*k:=by
        have h:=JC (N.take k) ([],⟨#[]⟩);have h2:(N.take k).length<=k:=List.length_take_le _ _;have h3:P.1=((N.take k).foldl eO ([],⟨#[]⟩)).1:=by rw [hP];rfl
        rw [<- h3] at h;rw [hm,List.length_map];simp at h;omega
      have hpt:P.2.size<=300*k:=by
        have h:=Po (N.take k) ([],⟨#[]⟩) (fun x hx=>HNT.out x (List.mem_of_mem_take hx));have h2:(N.take k).length<=k:=List.length_take_le _ _;have h3:P.2=((N.take k).foldl eO ([],⟨#[]⟩)).2:=by rw [hP];rfl
        rw [<- h3] at h;have h4:(([]:List Nd),(⟨#[]⟩:ByteArray)).2.size=0:=rfl;omega
      obtain ⟨av,cv,rfl,-,-⟩:=hrow.cap hm.symm;have HM:=hid hm.symm;have HP:=hid hP;have bR:=hid hrow;have lK:=hid hbx;have mD:=hid hbd;have Ij:=hid hzB;have hUr:=hrow.CZ;have hSU:S+2<=U:=by have:=hrow.qL;omega
      have LM:Hid (P.1.length=m):=by show _=_;rw [hm,List.length_map]
      clear hrow hbx hbd hm hP hzB;by_cases hlt:k<l.length
      ·refine kK ?_;intro x hx;have hNk:N[k]?=some x.nd:=by rw [HN.out,um,List.getElem?_map,hx];rfl
       have hst:=MS N k x.nd hNk;rw [<- HP.out] at hst;have hfull:=HNF.out x.nd (List.mem_of_getElem? hNk);have htx:=HNT.out x.nd (List.mem_of_getElem? hNk);have hxs:=aj.rM l jK.out x (List.mem_of_getElem? hx);have hxt:=GD l HTF.out x (List.mem_of_getElem? hx);have hsz:=aj.bK l k _ hx;obtain ⟨X,hX⟩:∃ X,X=x.nd:=⟨_,rfl⟩;rw [<- hX] at hst hfull htx;obtain ⟨kd,t,d,ti,at_,ar,ci,ks⟩:=x;obtain ⟨g,off,vc,vp,va,vi,vk,rfl,hok,hbl,hc,hR⟩:=fE HS.out hx;obtain ⟨c0,c1,c2,c3,c4,c5,c6,c7,c8,c9⟩:=hc.below (show Below w.heap.size w wr by rw [<- O5.out];exact hbel);rw [aj.sz] at hsz;obtain ⟨ac,nc,cc,rfl⟩:=Rd.au hR.at_.cls
       obtain ⟨ap,np,cp,rfl⟩:=Rd.au hR.at_.aD
       obtain ⟨aa,na,ca,rfl⟩:=Rd.au hR.args;obtain ⟨ai,ni,yx,rfl⟩:=Rd.au hR.dH;obtain ⟨ak,nk,ck,rfl⟩:=Rd.au hR.kids;have HR:Hid (vD (·<S) w at_ ar ci ks (.slice ac nc cc) (.slice ap np cp) (.slice aa na ca) (.slice ai ni yx) (.slice ak nk ck)):=by rw [O5.out];exact hR
       have HST:=hid hst;have HX:=hid hX;have Vx:=hid hfull;have HXS:=hid hxs;have HXT:=hid hxt;have jg:=hid hbel;have hSr:S<=wr.heap.size:=by have:=hbel.size;have:=O5.out;omega
       clear hc hok hbl hR hst hX hfull hxs hxt hNk hx hbel;go_upto_region 7 with (fail)
       refine Uv ?_;intro p hp wA iD PA;have bA:Below wr.heap.size wr wA:=by rw [iD];exact (Below.refl _ _).alloc (Nat.le_refl _) _
       rw [<- iD,<- hp];obtain ⟨e0,e1,e2,e3,e4,e5,e6,e7,e8,e9⟩:=Mx PA;have zA:=bA.size;have BA:=hid (jg.out.trans (bA.mono hSr));have HRA:=HR.out.jz0 BA.out (by omega);have LC:Jr wA ks (.slice ak nk ck):=fun W hW=>by
         have hsk:=HXS.out;rw [aj.small] at hsk;have htk:=HXT.out;rw [aj.tf] at htk;exact IH.out (aj.aU ks) (by omega) ks _ W (Nat.le_refl _) (by omega) (HRA.kids.up hW) hsk.2.2.2.2.2.2.2.2 htk.2
       have IC:=ML kd t d ti at_ ar ci ks _ _ _ _ _ wA HRA HXS.out LC (by omega)
       rw [<- HX.out] at IC;have IL:=hid IC;have I8:=hid bA;clear iD hp c0 c1 c2 c3 c4 c5 c6 c7 c8 c9 HRA LC IC PA bA;go_wp2_with fail
       (with_reducible refine IL.out.mono ?_)
       rintro e w1 ⟨vA,vK,rfl,hNd,b1⟩;obtain ⟨aA,nA,cA,rfl⟩:=Rd.au hNd.at_
       obtain ⟨aK,nK,cK,rfl⟩:=Rd.au hNd.ks;have HND:=hid hNd;have B1:=hid b1;have z1:=b1.size;clear e0 e1 e2 e3 e4 e5 e6 e7 e8 e9 hNd b1 IL;obtain ⟨nm,tx,XA,XK⟩:=X;dsimp only [Nd.nm,Nd.tx,Nd.at_,Nd.ks] at htx HND;dsimp only [Nd.nm,Nd.tx];go_upto_region 8 with (fail)
       obtain ⟨q,hq⟩:∃ q,q=w1.heap.size:=⟨_,rfl⟩;obtain ⟨wN,hwN⟩:∃ wN,wN=w1.alloc (.cells #[.string nm,.string tx,.slice aA nA cA,.slice aK nK cK] 35):=⟨_,rfl⟩;have KN:CB 35 q [.string nm,.string tx,.slice aA nA cA,.slice aK nK cK] wN:=by rw [hwN,hq];exact CB.new _ _ w1
       have bN:Below w1.heap.size w1 wN:=by rw [hwN];exact (Below.refl _ _).alloc (Nat.le_refl _) _
       have zN:wN.heap.size=q+1:=by rw [hwN,hq];simp
       have hqr:wA.heap.size<=q:=by rw [hq];exact z1
       have HQ:=hid hq;rw [<- hwN,<- hq];have BN:=hid (q01 I8.out (q01 B1.out bN));have Zt:=hid bN;have f0:=KN.cell 0 _ rfl;have f1:=KN.cell 1 _ rfl;have HKN:=hid KN;have ZN:=hid zN;have hzr:=BN.out.size;clear hwN hq KN bN zN;by_cases hem:aV nm=true
       ·have q1:nm.toList.isEmpty=true:=by rw [tJ];exact hem
        have q2:nm.toList=[]:=by rw [List.isEmpty_iff] at q1;exact q1
        have htp:0<tx.size:=Vv (Vx.out hem).2;have DJ:Hid (gY (N.take (k+1))=(P.1,P.2++tx)):=by show _=_;rw [HST.out];unfold eO;rw [if_pos (show aV (Nd.mk nm tx XA XK).nm=true from hem)];rfl
        have WS:=hid (Dx (S+1) U (Lib.strCells P.2) tx wN (mD.out.below BN.out) (by rw [Lib.strCells_length];omega) (by omega) htp);clear hem HST Vx;go_wp2_with fail
        (with_reducible refine WS.out.mono ?_)
        rintro e w2 ⟨rfl,jz3,hb2⟩;have hR2:=bR.out.reU (w':=w2) (by have:=hb2.size;omega) (fun b h1 h2=>(hb2.blk b h2 (by have:=Ij.out;omega)).trans (BN.out.block b (by omega)));obtain ⟨wB2,Z6,hrow2⟩:=hR2;have HF:Hid (GA S w N (.int .i64 ((k+1:Nat):Int)) w2):=by
          refine ⟨k+1,rows,.slice av m cv,U,wB2,by rw [DI.out];omega,rfl,Z6.trans Ij.out,?_,?_,?_,?_⟩
          ·rw [DJ.out];exact hrow2
          ·exact (hb2.blk S (by omega) (by omega)).trans ((BN.out.block S (by omega)).trans lK.out)
          ·rw [DJ.out,Gz];exact jz3
          ·exact jg.out.trans ((BN.out.mono hSr).trans (hb2.below (by omega) (by omega)))
        clear jz3 hb2 Z6 hrow2 WS f0 f1 q1 q2;exact tL
       ·have q1:nm.toList.isEmpty=false:=by rw [tJ];simpa using hem
        have DJ:Hid (gY (N.take (k+1))=(P.1++bY P.2++[.mk nm tx XA XK],⟨#[]⟩)):=by show _=_;rw [HST.out];unfold eO;rw [if_neg (show ¬ aV (Nd.mk nm tx XA XK).nm=true from hem)]
        have FC:=Ey S U P.2.data.toList P.1 rows (.slice av m cv) wr wN wB (by have:=Ij.out;omega) bR.out lK.out mD.out BN.out (by rw [LM.out];omega);rw [Gp] at FC;have FL:=hid FC;clear hem HST Vx FC;go_wp2_with fail
        (with_reducible refine FL.out.mono ?_)
        rintro e w3 ⟨rfl,gW,v3,wB3,jsx,hrow3,Rf,Z7,zX,hkp3,hb3⟩;obtain ⟨m3,TF⟩:∃ m,m=(List.map Nd.d (P.1++bY P.2)).length:=⟨_,rfl⟩;have jE0:m3<=m+1:=by
          rw [TF,List.length_map,List.length_append,LM.out];have:(bY P.2).length<=1:=by unfold bY;split<;>simp
          omega
        obtain ⟨a3,c3,rfl,hc3,jE9⟩:=hrow3.cap TF.symm;unfold maxLen at jE9;have HM3:=hid TF.symm;have U3:=hid hrow3.drew;have kq3:CB 35 q [.string nm,.string tx,.slice aA nA cA,.slice aK nK cK] w3:=(hkp3 q (by omega) (by have:=ZN.out;omega)).trans HKN.out;have NR3:Hid (Rd (fun b=>wA.heap.size<=b/\b<q) w3 (Nd.mk nm tx XA XK).d [.string nm,.string tx,.slice aA nA cA,.slice aK nK cK]):=
          Nd.fC nm tx (HND.out.keep (fun b (h1:wA.heap.size<=b) h2=>⟨⟨h1,by rw [HQ.out];exact h2⟩,(hkp3 b (by omega) (by have:=ZN.out;have:=HQ.out;omega)).trans (Zt.out.block b h2)⟩))
        have S0:w3.drew.cell? ⟨S,0,none⟩=some (.slice a3 m3 c3)/\w3.drew.cell? ⟨q,0,none⟩=some (.string nm)/\w3.drew.cell? ⟨q,1,none⟩=some (.string tx)/\w3.drew.cell? ⟨q,2,none⟩=some (.slice aA nA cA)/\w3.drew.cell? ⟨q,3,none⟩=some (.slice aK nK cK):=⟨Rf.cell,kq3.cell 0 _ rfl,kq3.cell 1 _ rfl,kq3.cell 2 _ rfl,kq3.cell 3 _ rfl⟩;have hov:∀ g,(Value.slice a3 m3 c3).ownBlock=some g->S+2<=g/\(g<wr.heap.size\/wN.heap.size<=g):=fun g hg=>⟨by have:=(hrow3.own.lt g hg).1;have:=Ij.out;omega,zX g hg⟩
        have C8:=hid hov;have jEj:=hid Rf;have jsz:=hid Z7;have HB3:=hid hb3;have Z8:=hid jsx;have HKQ:=hid kq3;have hz3:=hb3.size;have jEk:S<w3.heap.size:=Rf.lt;clear TF hrow3 Rf Z7 hb3 jsx zX hkp3 kq3 hov FL f0 f1 q1;go_upto_region 11 with (fail)
        refine q2s 7 (fun w'=>w'.cell? ⟨S,0,none⟩=some (.slice a3 m3 c3)/\w'.cell? ⟨q,0,none⟩=some (.string nm)/\w'.cell? ⟨q,1,none⟩=some (.string tx)/\w'.cell? ⟨q,2,none⟩=some (.slice aA nA cA)/\w'.cell? ⟨q,3,none⟩=some (.slice aK nK cK)) (by kernel_rfl) S0 ?_;intro hH;refine JG 0 hH ?_;refine JG 1 hH ?_;refine JG 2 hH ?_;refine bq ?_;refine fK 3 fun KQ hK=>?_
        go_simp;refine dY hK (⟨past S0.1 _,past S0.2.1 _,past S0.2.2.1 _,past S0.2.2.2.1 _,past S0.2.2.2.2 _⟩) ?_;clear hK KQ hH;intro hH;refine bq ?_;refine fK 4 fun KQ hK=>?_
        refine EH rfl (.tmp 26) (.tmp 29) 28 rfl iN _ 80 underlying28 LJ qx qz qA rfl (by decide) U3.out (fun _=>False.elim) (Nd.mk ⟨#[]⟩ ⟨#[]⟩ [] []).d [.string ⟨#[]⟩,.string ⟨#[]⟩,.slice none 0 0,.slice none 0 0] (Nd.fC ⟨#[]⟩ ⟨#[]⟩ ⟨Rd.aI _ _ _,Rd.aI _ _ _⟩) rfl kR HM3.out (by omega) (by decide) rfl rfl ?_;intro g5 c5 w5 bZ hg5 Gt Q5;have hgS:S+2<=g5/\g5≠q/\(g5<wr.heap.size\/wN.heap.size<=g5):=by
          have hz9:w3.drew.heap.size=w3.heap.size:=rfl;rcases Gt with h | h
          ·have:=C8.out g5 h;have:=ZN.out;omega
          ·have:=ZN.out;omega
        have DK:∀ b,b=S\/b=q->some b≠(Value.slice a3 m3 c3).ownBlock:=fun b hb e=>by
          have:=C8.out b e.symm;have:=ZN.out;omega
        have S5:w5.cell? ⟨S,0,none⟩=some (.slice a3 m3 c3)/\w5.cell? ⟨q,0,none⟩=some (.string nm)/\w5.cell? ⟨q,1,none⟩=some (.string tx)/\w5.cell? ⟨q,2,none⟩=some (.slice aA nA cA)/\w5.cell? ⟨q,3,none⟩=some (.slice aK nK cK):=⟨(World.grownBy.cell_far hg5 ⟨S,0,none⟩ (by simp;omega) (DK S (.inl rfl))).trans (past S0.1 _),(World.grownBy.cell_far hg5 ⟨q,0,none⟩ (by simp;have:=ZN.out;omega) (DK q (.inr rfl))).trans (past S0.2.1 _),(World.grownBy.cell_far hg5 ⟨q,1,none⟩ (by simp;have:=ZN.out;omega) (DK q (.inr rfl))).trans (past S0.2.2.1 _),(World.grownBy.cell_far hg5 ⟨q,2,none⟩ (by simp;have:=ZN.out;omega) (DK q (.inr rfl))).trans (past S0.2.2.2.1 _),(World.grownBy.cell_far hg5 ⟨q,3,none⟩ (by simp;have:=ZN.out;omega) (DK q (.inr rfl))).trans (past S0.2.2.2.2 _)⟩;obtain ⟨y0,y1,y2,y3,yf⟩:=bZ.Pm HM3.out;have t0:(0:Int)<=(m3:Int):=by omega
        have t1:(m3:Int)<((m3+1:Nat):Int):=by omega
        have t2:(m3:Int)<(m3:Int)+1:=by omega
        have t3:m3<m3+1:=by omega
        have U5:=hid bZ;have HG5:=hid hg5;have hz5:w3.heap.size+1<=w5.heap.size:=by have:=hg5.size;simp at this;exact this
        have hSg:S≠g5:=by omega
        have hqg:q≠g5:=fun e=>hgS.2.1 e.symm
        have ZH:aH S (.slice a3 m3 c3) 28 w5:=(hg5.block S (by simp;omega) (DK S (.inl rfl))).trans ((Below.heap_alloc w3 _ S jEk).trans jEj.out);have zf5:=ZH.free;have z5:=ZH.cell;obtain ⟨wZ,hzZ,xJ⟩:=bZ.hop2 (p:=S) (by have:=Z8.out;have:=Ij.out;omega) (show w5.grownBy (w5.setCell ⟨S,0,none⟩ (.slice (some ⟨g5,0,none⟩) (m3+1) c5)) (some S) from ⟨rfl,rfl,rfl,by simp [World.setCell],fun b _ hb=>Below.heap_setCell w5 ⟨S,0,none⟩ _ b (fun e=>hb (by rw [e]))⟩);obtain ⟨u0,u1,u2,u3,uf⟩:=xJ.Pm HM3.out;have BX5:=hid ZH;clear xJ hzZ ZH bZ hg5 Gt DK S0;refine dY hK S5 ?_;clear hK KQ hH;intro hH;refine bq ?_;apply jgj;case hm=>
          intro REST;refine rH 5 7 (fun KQ hK=>?_) (fun KQ hK=>?_);rotate_left
          ·go_simp;refine qB hK ?_;clear hK KQ;refine bq ?_;refine fK 5 fun KQ hK=>?_
           refine JE ?_;clear hK KQ;refine bq ?_;refine fK 6 fun KQ hK=>?_
           refine JE ?_;clear hK KQ;refine bq ?_;exact jg9
          go_simp;refine dY hK S5 ?_;clear hK KQ;intro hH;refine bq ?_;refine rH 6 7 (fun KQ hK=>?_) (fun KQ hK=>?_)
          ·go_simp;have S6:World.cell? ((((w5.setCell ⟨g5,m3*4,none⟩ (.string nm)).setCell ⟨g5,m3*4+1,none⟩ (.string tx)).setCell ⟨g5,m3*4+2,none⟩ (.slice aA nA cA)).setCell ⟨g5,m3*4+3,none⟩ (.slice aK nK cK)) ⟨S,0,none⟩=some (.slice a3 m3 c3)/\World.cell? ((((w5.setCell ⟨g5,m3*4,none⟩ (.string nm)).setCell ⟨g5,m3*4+1,none⟩ (.string tx)).setCell ⟨g5,m3*4+2,none⟩ (.slice aA nA cA)).setCell ⟨g5,m3*4+3,none⟩ (.slice aK nK cK)) ⟨q,0,none⟩=some (.string nm)/\World.cell? ((((w5.setCell ⟨g5,m3*4,none⟩ (.string nm)).setCell ⟨g5,m3*4+1,none⟩ (.string tx)).setCell ⟨g5,m3*4+2,none⟩ (.slice aA nA cA)).setCell ⟨g5,m3*4+3,none⟩ (.slice aK nK cK)) ⟨q,1,none⟩=some (.string tx)/\World.cell? ((((w5.setCell ⟨g5,m3*4,none⟩ (.string nm)).setCell ⟨g5,m3*4+1,none⟩ (.string tx)).setCell ⟨g5,m3*4+2,none⟩ (.slice aA nA cA)).setCell ⟨g5,m3*4+3,none⟩ (.slice aK nK cK)) ⟨q,2,none⟩=some (.slice aA nA cA)/\World.cell? ((((w5.setCell ⟨g5,m3*4,none⟩ (.string nm)).setCell ⟨g5,m3*4+1,none⟩ (.string tx)).setCell ⟨g5,m3*4+2,none⟩ (.slice aA nA cA)).setCell ⟨g5,m3*4+3,none⟩ (.slice aK nK cK)) ⟨q,3,none⟩=some (.slice aK nK cK):=show World.cell? (tZ w5 g5 (m3*4) (.string nm) (.string tx) (.slice aA nA cA) (.slice aK nK cK)) ⟨S,0,none⟩=some (.slice a3 m3 c3)/\World.cell? (tZ w5 g5 (m3*4) (.string nm) (.string tx) (.slice aA nA cA) (.slice aK nK cK)) ⟨q,0,none⟩=some (.string nm)/\World.cell? (tZ w5 g5 (m3*4) (.string nm) (.string tx) (.slice aA nA cA) (.slice aK nK cK)) ⟨q,1,none⟩=some (.string tx)/\World.cell? (tZ w5 g5 (m3*4) (.string nm) (.string tx) (.slice aA nA cA) (.slice aK nK cK)) ⟨q,2,none⟩=some (.slice aA nA cA)/\World.cell? (tZ w5 g5 (m3*4) (.string nm) (.string tx) (.slice aA nA cA) (.slice aK nK cK)) ⟨q,3,none⟩=some (.slice aK nK cK) from ⟨q2u S5.1 hSg,q2u S5.2.1 hqg,q2u S5.2.2.1 hqg,q2u S5.2.2.2.1 hqg,q2u S5.2.2.2.2 hqg⟩
           have z6:=S6.1;have bx6:aH S (.slice a3 m3 c3) 28 ((((w5.setCell ⟨g5,m3*4,none⟩ (.string nm)).setCell ⟨g5,m3*4+1,none⟩ (.string tx)).setCell ⟨g5,m3*4+2,none⟩ (.slice aA nA cA)).setCell ⟨g5,m3*4+3,none⟩ (.slice aK nK cK)):=(iJ w5 g5 (m3*4) (.string nm) (.string tx) (.slice aA nA cA) (.slice aK nK cK) S hSg).trans BX5.out;have zf:=bx6.free;refine dY hK S6 ?_;clear hK KQ hH;intro hH;refine bq ?_;refine fK 7 fun KQ hK=>?_
           go_simp;refine qB hK ?_;clear hK KQ hH;refine bq ?_;refine yF ?_;clear S6 z6 bx6 zf;exact REST
          ·go_simp;refine qB hK ?_;clear hK KQ hH;refine bq ?_;refine fK 6 fun KQ hK=>?_
           refine JE ?_;clear hK KQ;refine bq ?_;exact jg9
        case hr=>
          clear S5 y0 y1 y2 y3 yf u0 u1 u2 u3 uf zf5 z5 t0 t1 t2 t3;have Ig:=U5.out.jfq HM3.out (.string nm) (.string tx) (.slice aA nA cA) (.slice aK nK cK) (d1:=(Nd.mk nm tx XA XK).d) (Rd.keep (fun b hb hlt=>⟨⟨.inr (by have:=Z8.out;have:=Ij.out;omega),(fun e=>by subst e;have:=ZN.out;omega),by omega⟩,(HG5.out.block b (by simp;omega) (fun e=>by have:=C8.out b e.symm;have:=ZN.out;omega)).trans (Below.heap_alloc w3 _ b hlt)⟩) _ _ NR3.out);obtain ⟨w6,ku⟩:∃ w6,w6=tZ w5 g5 (m3*4) (.string nm) (.string tx) (.slice aA nA cA) (.slice aK nK cK):=⟨_,rfl⟩;have hb6:∀ b,b≠g5->w6.heap[b]?=w5.heap[b]?:=fun b hb=>by rw [ku];exact iJ _ _ _ _ _ _ _ b hb
          have jz4:aH S (.slice a3 m3 c3) 28 w6:=(hb6 S hSg).trans BX5.out;rw [<- ku] at Ig;have jt0:=ku;simp only [tZ] at jt0;rw [<- jt0];clear jt0;have hz6:w6.heap.size=w5.heap.size:=by rw [ku];simp [tZ,World.setCell]
          obtain ⟨w7,hw7⟩:∃ w7,w7=w6.setCell ⟨S,0,none⟩ (.slice (some ⟨g5,0,none⟩) (m3+1) c5):=⟨_,rfl⟩;rw [<- hw7];have bx7:aH S (.slice (some ⟨g5,0,none⟩) (m3+1) c5) 28 w7:=by rw [hw7];exact jz4.set _
          have g7:w6.grownBy w7 (some S):=by rw [hw7];exact ⟨rfl,rfl,rfl,by simp [World.setCell],fun b _ hb=>Below.heap_setCell w6 ⟨S,0,none⟩ _ b (fun e=>hb (by rw [e]))⟩
          have hz7:w7.heap.size=w6.heap.size:=by rw [hw7];simp [World.setCell]
          obtain ⟨wB7,hB7,Ao⟩:=Ig.hop2 (p:=S) (by have:=Z8.out;have:=Ij.out;omega) g7;have TG:∀ b,b<w3.heap.size->b≠S->b≠g5->(∀ g,(Value.slice a3 m3 c3).ownBlock=some g->b≠g)->w7.heap[b]?=w3.heap[b]?:=fun b h1 h2 h3 h4=>
            (g7.block b (by omega) (fun e=>h2 (Option.some.inj e))).trans ((hb6 b h3).trans ((HG5.out.block b (by simp;omega) (fun e=>h4 b e.symm rfl)).trans (Below.heap_alloc w3 _ b h1)))
          have hr7:aC 35 4 (fun _=>False) w7.heap.size wB7 ((gY (N.take (k+1))).1.map Nd.d) (gW++[[.string nm,.string tx,.slice aA nA cA,.slice aK nK cK]]) (.slice (some ⟨g5,0,none⟩) (m3+1) c5) w7:=by rw [DJ.out];show aC _ _ _ _ _ (List.map Nd.d (P.1++bY P.2++[.mk nm tx XA XK])) _ _ _;rw [List.map_append];exact Ao.up (by omega) (Nat.le_refl _)
          have HF:Hid (GA S w N (.int .i64 ((k+1:Nat):Int)) w7):=by
            refine ⟨k+1,_,.slice (some ⟨g5,0,none⟩) (m3+1) c5,w7.heap.size,wB7,by rw [DI.out];omega,rfl,hB7.trans (Z8.out.trans Ij.out),hr7,bx7,?_,?_⟩
            ·rw [DJ.out];exact jsz.out.Z5 (TG (S+1) (by have:=jsz.out.lt;exact this) (by omega) (by omega) (fun g hg=>by have:=(C8.out g hg).1;omega)) (by have:=jsz.out.lt;omega)
            ·refine jg.out.trans ((BN.out.mono hSr).trans (HB3.out.trans ⟨?_,?_,?_,by omega,fun b hb=>TG b (by omega) (by omega) (by omega) (fun g hg=>by have:=(C8.out g hg).1;omega)⟩))
             ·rw [hw7,ku];exact HG5.out.os
             ·rw [hw7,ku];exact HG5.out.tape
             ·rw [hw7,ku];exact HG5.out.output
          clear Ig hr7 Ao hB7 g7 bx7 hw7 jz4 ku hb6 TG;exact tL
      ·have hkl:k=l.length:=by omega
       subst hkl;have hPN:P=gY N:=by rw [HP.out,List.take_of_length_le (by rw [DI.out];exact Nat.le_refl _)]
       have FC:=Ey S U P.2.data.toList P.1 rows (.slice av m cv) wr wr wB (by have:=Ij.out;omega) bR.out lK.out mD.out (Below.refl _ _) (by rw [LM.out];omega);rw [Gp,hPN,<- oK.out] at FC;have FL:=hid FC;clear FC;go_wp2_with fail
       (with_reducible refine FL.out.mono ?_)
       rintro e w3 ⟨rfl,gW,v3,wB3,jsx,hrow3,Rf,Z7,zX,hkp3,hb3⟩;have x0:=Rf.cell;have HF:Hid (dP w (kP l) (.returned v3) w3):=by
         refine ⟨gW,v3,rfl,hrow3.Ag ?_ ?_⟩
         ·have:=O5.out;have:=Ij.out;omega
         ·rw [<- O5.out];exact hbel.trans hb3
       clear hrow3 Z7 hb3 zX hkp3 FL;go_wp2;go_ret;exact HF.out
open Go.RowKit
open Go.RowKit
theorem aO.init {P:Nat->Prop} {w:World}:∀ (ds:List D) (rows:List (List Value)) (d0:D) (r0:List Value),aO P w (ds++[d0]) (rows++[r0])->rows.length=ds.length->aO P w ds rows/\Rd P w d0 r0
  | [],rows,d0,r0,hr,hl=>by
    rw [List.eq_nil_of_length_eq_zero hl] at hr ⊢;obtain ⟨r,rs,e,h1,h2⟩:=hr.aF;have e1:r=r0:=by simp at e;exact e.1.symm
    subst e1;exact ⟨aO.none,h1⟩
  | x::ds,[],d0,r0,hr,hl=>by simp at hl
  | x::ds,r::rows,d0,r0,hr,hl=>by
    obtain ⟨r',rs,e,h1,h2⟩:=hr.aF;have e':r'=r/\rs=rows++[r0]:=by simp at e;exact ⟨e.1.symm,e.2.symm⟩
    obtain ⟨rfl,rfl⟩:=e';obtain ⟨h3,h4⟩:=aO.init ds rows d0 r0 h2 (by simpa using hl);exact ⟨aO.cons h1 h3,h4⟩
section
variable {T:TypeId} {U:Nat} {ok:Nat->Prop} {w0 w:World} {ds:List D} {rows:List (List Value)} {v:Value}
theorem aC.Q8 {d:D} (h:aC T 4 ok U w0 (ds++[d]) rows v w):∃ rows' a0 a1 a2 a3,rows=rows'++[[a0,a1,a2,a3]]/\Rd (fun b=>(ok b\/w0.heap.size<=b)/\v.ownBlock≠some b/\b<U) w d [a0,a1,a2,a3]:=by
  have hl:=h.red.len;rw [List.length_append,List.length_singleton] at hl;have hne:rows≠[]:=fun e=>by rw [e] at hl;simp at hl
  obtain ⟨rows',r,rfl⟩:∃ rows' r,rows=rows'++[r]:=⟨_,_,(List.dropLast_concat_getLast hne).symm⟩;have hr:=h.len r (by simp)
  match r,hr with
  | [a0,a1,a2,a3],_=>exact ⟨rows',a0,a1,a2,a3,rfl,(aO.init ds rows' d _ h.red (by simp at hl;exact hl)).2⟩
end
open Go.RowKit
def tB (kd lv:Int):Bool:=decide (kd=2)&&(decide (lv=1)||decide (lv=2))
def bB (kd lv:Int):Bool:=decide (kd=5)||tB kd lv
theorem Z9 (kd lv:Int) (i t d ti:ByteArray) (a:At) (li:List aj) (ks:List ah):vV (.mk kd lv i t d ti a li ks)=tB kd lv:=rfl
theorem ja0 (kd lv:Int) (i t d ti:ByteArray) (a:At) (li:List aj) (ks:List ah):mO (.mk kd lv i t d ti a li ks)=bB kd lv:=rfl
theorem jgk{P Q:Prop}(q:Q)(h:Nonempty Q->P:=by
 intro qQ;obtain ⟨S,hS⟩:∃ S,S=w.heap.size:=⟨_,rfl⟩;obtain ⟨w0,hw0⟩:∃ w0,w0=w.alloc (.cells #[.int .i64 kd,.int .i64 lv,.string i,.string t,.string d,.string ti,.string id,.slice ac nc cc,.slice ap np cp,.slice al nl cl,.slice ak nk ck] 133):=⟨_,rfl⟩;have k0:CB 133 S [.int .i64 kd,.int .i64 lv,.string i,.string t,.string d,.string ti,.string id,.slice ac nc cc,.slice ap np cp,.slice al nl cl,.slice ak nk ck] w0:=by rw [hw0,hS];exact CB.new _ _ w
 have B0:Hid (Below w.heap.size w w0):=by show Below _ _ _;rw [hw0];exact (Below.refl _ _).alloc (Nat.le_refl _) _
 have e0:=k0.cell 0 _ rfl;have e1:=k0.cell 1 _ rfl;revert S hS w0 hw0 k0 B0 e0 e1;exact qQ.elim fun x=>x):P:=h ⟨q⟩
theorem JH{P:Prop}(h:P:=by
 go_wp2;go_ret;exact ⟨by rw [HV.out];rfl,B0.out⟩):P:=h
theorem EI (kd lv:Int) (i t d ti id:ByteArray) (ac ap al ak:Option Addr) (nc cc np cp nl cl nk ck:Nat) (w:jN9) : Calls prog 101 #[.agg #[.int .i64 kd,.int .i64 lv,.string i,.string t,.string d,.string ti,.string id,.slice ac nc cc,.slice ap np cp,.slice al nl cl,.slice ak nk ck]] w (dF (.bool (tB kd lv)) w):=by
  refine jgk ?_;intro S hS w0 hw0 k0 B0 e0 e1;clear k0;go_enter func101,ntmps101;go_upto_region 1 with (fail)
  rw [<- hw0,<- hS];clear hw0 hS;by_cases h2:kd=2
  ·have q2:(kd==2)=true:=by rw [h2];rfl
   by_cases h3:lv=1
   ·have q3:(lv==1)=true:=by rw [h3];rfl
    have HV:Hid (tB kd lv=true):=by show _=_;unfold tB;rw [h2,h3];rfl
    clear h2 h3;exact JH
   ·have q3:(lv==1)=false:=by rw [beq_eq_false_iff_ne];exact h3
    by_cases h4:lv=2
    ·have q4:(lv==2)=true:=by rw [h4];rfl
     have HV:Hid (tB kd lv=true):=by show _=_;unfold tB;rw [h2,h4];rfl
     clear h2 h3 h4;exact JH
    ·have q4:(lv==2)=false:=by rw [beq_eq_false_iff_ne];exact h4
     have HV:Hid (tB kd lv=false):=by show _=_;unfold tB;simp [h3,h4]
     clear h2 h3 h4;exact JH
  ·have q2:(kd==2)=false:=by rw [beq_eq_false_iff_ne];exact h2
   have HV:Hid (tB kd lv=false):=by show _=_;unfold tB;simp [h2]
   clear h2;exact JH
theorem MW (kd lv:Int) (i t d ti id:ByteArray) (ac ap al ak:Option Addr) (nc cc np cp nl cl nk ck:Nat) (w:jN9) : Calls prog 100 #[.agg #[.int .i64 kd,.int .i64 lv,.string i,.string t,.string d,.string ti,.string id,.slice ac nc cc,.slice ap np cp,.slice al nl cl,.slice ak nk ck]] w (dF (.bool (bB kd lv)) w):=by
  refine jgk ?_;intro S hS w0 hw0 k0 B0 e0 e1;have e2:=k0.cell 2 _ rfl;have e3:=k0.cell 3 _ rfl;have e4:=k0.cell 4 _ rfl;have e5:=k0.cell 5 _ rfl;have e6:=k0.cell 6 _ rfl;have e7:=k0.cell 7 _ rfl;have e8:=k0.cell 8 _ rfl;have e9:=k0.cell 9 _ rfl;have e10:=k0.cell 10 _ rfl;have TC:=hid (EI kd lv i t d ti id ac ap al ak nc cc np cp nl cl nk ck w0);clear k0;go_enter func100,ntmps100;go_upto_region 1 with (fail)
  rw [<- hw0,<- hS];clear hw0 hS;by_cases h5:kd=5
  ·have q5:(kd==5)=true:=by rw [h5];rfl
   have HV:Hid (bB kd lv=true):=by show _=_;unfold bB;rw [h5];rfl
   clear h5;exact JH
  ·have q5:(kd==5)=false:=by rw [beq_eq_false_iff_ne];exact h5
   have HV:Hid (bB kd lv=tB kd lv):=by show _=_;unfold bB;simp [h5]
   clear h5;go_wp2_with fail
   (with_reducible refine TC.out.mono ?_)
   rintro e w1 ⟨rfl,b1⟩;have BF:=hid (q01 B0.out b1);clear b1;go_wp2;go_ret;exact ⟨by rw [HV.out];rfl,BF.out⟩
def Pt.d (p:Pt):D:=.st [.bool p.ti,iC p.bl]
theorem Pt.fC {ok:Nat->Prop} {w:jN9} (p:Pt) {v:jNk} (h:Rd ok w (iC p.bl) [v]):Rd ok w p.d [.bool p.ti,v]:=by have:=Rd.xM (ok:=ok) (w:=w) (aO.cons (Rd.Pp ok w p.ti) (aO.one h));simpa [Pt.d] using this
theorem Pt.open_ {ok:Nat->Prop} {w:jN9} {p:Pt} {cs:List jNk} (h:Rd ok w p.d cs):∃ v,cs=[.bool p.ti,v]/\Rd ok w (iC p.bl) [v]:=by
  obtain ⟨rows,h1,rfl⟩:=Rd.jG h;obtain ⟨r1,rs,rfl,h2,h3⟩:=h1.aF;obtain ⟨r2,rs2,rfl,h4,h5⟩:=h3.aF;obtain rfl:=h5.dw;obtain rfl:=Rd.vW h2;obtain ⟨a,n,c,e⟩:∃ a n c,r2=[.slice a n c]:=by unfold iC at h4;obtain ⟨a,c,e,-⟩:=Rd.aB h4;exact ⟨a,_,c,e⟩
  subst e;exact ⟨_,by simp,h4⟩
theorem jt1:(prog.info? 96).map (fun i=>(i.zero,i.size,i.bytes))=some (some (.agg #[.bool false,.slice none 0 0]),2,32):=by kernel_rfl
def fV (ok:Nat->Prop) (p M:Nat) (s:yG) (w:jN9):Prop:=
  ∃ (UA:Nat) (wA wO:jN9) (rA rO:List (List jNk)) (va vo:jNk),wA.heap.size=p+3/\UA<=wO.heap.size/\aC 96 2 ok UA wA (s.all.map Pt.d) rA va w/\aC 48 11 ok M wO (s.op.bl.map ah.d) rO vo w /\
    aH p va 93 w/\CB 96 (p+1) [.bool s.op.ti,vo] w/\aH (p+2) (.bool s.some_) 4 w/\(s.op.bl=[]->vo.ownBlock=none)
theorem fV.below {ok:Nat->Prop} {p M:Nat} {s:yG} {w w':jN9} (h:fV ok p M s w) (hb:jNj w.heap.size w w'):fV ok p M s w':=by
  obtain ⟨UA,wA,wO,rA,rO,va,vo,h1,h2,h3,h4,h5,h6,h7,h8⟩:=h;have hp:p+3<=w.heap.size:=by have:=h3.qL;have:=h3.CZ;omega
  exact ⟨UA,wA,wO,rA,rO,va,vo,h1,h2,h3.below hb,h4.below hb,(hb.block p (by omega)).trans h5,(hb.block (p+1) (by omega)).trans h6,(hb.block (p+2) (by omega)).trans h7,h8⟩
theorem fV.sz {ok:Nat->Prop} {p M:Nat} {s:yG} {w:jN9} (h:fV ok p M s w):p+3<=M/\M<=w.heap.size:=by obtain ⟨UA,wA,wO,rA,rO,va,vo,h1,h2,h3,h4,h5,h6,h7,h8⟩:=h;have:=h3.qL;have:=h4.qL;have:=h4.CZ;omega
theorem fV.top {ok:Nat->Prop} {p M:Nat} {s:yG} {w:jN9} (h:fV ok p M s w):fV ok p w.heap.size s w:=by obtain ⟨UA,wA,wO,rA,rO,va,vo,h1,h2,h3,h4,h5,h6,h7,h8⟩:=h;exact ⟨UA,wA,wO,rA,rO,va,vo,h1,h2,h3,h4.top,h5,h6,h7,h8⟩
theorem fV.opc {ok:Nat->Prop} {p M:Nat} {s:yG} {w:jN9} (h:fV ok p M s w):∃ vo,CB 96 (p+1) [.bool s.op.ti,vo] w/\∃ a n c,vo=.slice a n c:=by obtain ⟨UA,wA,wO,rA,rO,va,vo,h1,h2,h3,h4,h5,h6,h7,h8⟩:=h;exact ⟨vo,h6,h4.sl3⟩
theorem fV.smc {ok:Nat->Prop} {p M:Nat} {s:yG} {w:jN9} (h:fV ok p M s w):aH (p+2) (.bool s.some_) 4 w:=by obtain ⟨UA,wA,wO,rA,rO,va,vo,h1,h2,h3,h4,h5,h6,h7,h8⟩:=h;exact h7
def vX (ok:Nat->Prop) (p M:Nat) (s:yG) (w:jN9) (e:Ending) (w':jN9):Prop:=e=.returned (.tuple #[])/\fV ok p w'.heap.size s w'/\jNj p w w'/\∀ b,M<=b->b<w.heap.size->w'.heap[b]?=w.heap[b]?
theorem fV.jz5 {ok:Nat->Prop} {p M:Nat} {al:List Pt} {ti:Bool} {bl:List ah} {sm:Bool} {w:jN9} (hok:∀ b,ok b->b<p) (h:fV ok p M ⟨al,⟨ti,bl⟩,sm⟩ w) (u:Bool):fV ok p M ⟨al,⟨u,bl⟩,sm⟩ (w.setCell ⟨p+1,0,none⟩ (.bool u)):=by
  obtain ⟨UA,wA,wO,rA,rO,va,vo,h1,h2,h3,h4,h5,h6,h7,h8⟩:=h;have hA:=h3.qL;have k2:∀ b,b≠p+1->(w.setCell ⟨p+1,0,none⟩ (.bool u)).heap[b]?=w.heap[b]?:=fun b hb=>jL1 _ ⟨p+1,0,none⟩ _ b hb
  have g2:w.grownBy (w.setCell ⟨p+1,0,none⟩ (.bool u)) (some (p+1)):=⟨rfl,rfl,rfl,by simp [jM1],fun b _ hb=>k2 b (fun e=>hb (by rw [e]))⟩;obtain ⟨wA2,e2,r2⟩:=h3.DL (p:=p+1) (by omega) (fun h=>by have:=hok _ h;omega) g2;obtain ⟨wO2,e3,r3⟩:=h4.DL (p:=p+1) (by omega) (fun h=>by have:=hok _ h;omega) g2;exact ⟨UA,wA2,wO2,rA,rO,va,vo,by omega,by omega,r2,r3,(k2 p (by omega)).trans h5,dS h6 0 _,(k2 (p+2) (by omega)).trans h7,h8⟩
theorem fV.setSm {ok:Nat->Prop} {p M:Nat} {al:List Pt} {op:Pt} {sm:Bool} {w:jN9} (hok:∀ b,ok b->b<p) (h:fV ok p M ⟨al,op,sm⟩ w) (u:Bool):fV ok p M ⟨al,op,u⟩ (w.setCell ⟨p+2,0,none⟩ (.bool u)):=by
  obtain ⟨UA,wA,wO,rA,rO,va,vo,h1,h2,h3,h4,h5,h6,h7,h8⟩:=h;have hA:=h3.qL;have k2:∀ b,b≠p+2->(w.setCell ⟨p+2,0,none⟩ (.bool u)).heap[b]?=w.heap[b]?:=fun b hb=>jL1 _ ⟨p+2,0,none⟩ _ b hb
  have g2:w.grownBy (w.setCell ⟨p+2,0,none⟩ (.bool u)) (some (p+2)):=⟨rfl,rfl,rfl,by simp [jM1],fun b _ hb=>k2 b (fun e=>hb (by rw [e]))⟩;obtain ⟨wA2,e2,r2⟩:=h3.DL (p:=p+2) (by omega) (fun h=>by have:=hok _ h;omega) g2;obtain ⟨wO2,e3,r3⟩:=h4.DL (p:=p+2) (by omega) (fun h=>by have:=hok _ h;omega) g2;exact ⟨UA,wA2,wO2,rA,rO,va,vo,by omega,by omega,r2,r3,(k2 p (by omega)).trans h5,(k2 (p+1) (by omega)).trans h6,aH.set h7 _,h8⟩
theorem EJ {ok:Nat->Prop} {p U M:Nat} {L:List Pt} {wA w:jN9} {rA:List (List jNk)} {va u0 u1:jNk} {sm:jNk} (h1:wA.heap.size=p+3) (hok:∀ b,ok b->b<p) (h3:aC 96 2 ok U wA (L.map Pt.d) rA va w) (h5:aH p va 93 w) (h6:CB 96 (p+1) [u0,u1] w) (h7:aH (p+2) sm 4 w) (hM:p+3<=M) : vX ok p M ⟨L,⟨false,[]⟩,true⟩ w (.returned (.tuple #[])) (((w.setCell ⟨p+1,0,none⟩ (.bool false)).setCell ⟨p+1,0+1,none⟩ (.slice none 0 0)).setCell ⟨p+2,0,none⟩ (.bool true)):=by
  have hu:=h3.CZ;have hu0:=h3.qL;obtain ⟨w1,hw1⟩:∃ w1,w1=(w.setCell ⟨p+1,0,none⟩ (.bool false)).setCell ⟨p+1,0+1,none⟩ (.slice none 0 0):=⟨_,rfl⟩;rw [<- hw1];have k1:∀ b,b≠p+1->w1.heap[b]?=w.heap[b]?:=fun b hb=>by
    rw [hw1,jL1 _ ⟨p+1,0+1,none⟩ _ b hb,jL1 _ ⟨p+1,0,none⟩ _ b hb]
  have z1:w1.heap.size=w.heap.size:=by rw [hw1];simp [jM1]
  have g1:w.grownBy w1 (some (p+1)):=⟨by rw [hw1];rfl,by rw [hw1];rfl,by rw [hw1];rfl,by omega,fun b _ hb=>k1 b (fun e=>hb (by rw [e]))⟩;have c1:CB 96 (p+1) [.bool false,.slice none 0 0] w1:=by rw [hw1];exact dS (dS h6 0 _) 1 _
  obtain ⟨wA1,e1,r1⟩:=h3.DL (p:=p+1) (by omega) (fun h=>by have:=hok _ h;omega) g1;obtain ⟨w2,hw2⟩:∃ w2,w2=w1.setCell ⟨p+2,0,none⟩ (.bool true):=⟨_,rfl⟩;rw [<- hw2];have k2:∀ b,b≠p+2->w2.heap[b]?=w1.heap[b]?:=fun b hb=>by rw [hw2,jL1 _ ⟨p+2,0,none⟩ _ b hb]
  have z2:w2.heap.size=w1.heap.size:=by rw [hw2];simp [jM1]
  have g2:w1.grownBy w2 (some (p+2)):=⟨by rw [hw2];rfl,by rw [hw2];rfl,by rw [hw2];rfl,by omega,fun b _ hb=>k2 b (fun e=>hb (by rw [e]))⟩;have b7:aH (p+2) sm 4 w1:=(k1 (p+2) (by omega)).trans h7;obtain ⟨wA2,e2,r2⟩:=r1.DL (p:=p+2) (by omega) (fun h=>by have:=hok _ h;omega) g2;refine ⟨rfl,⟨U,wA2,w2,rA,[],va,.slice none 0 0,by omega,by omega,r2,aC.nil _ _ _ _,?_,(k2 (p+1) (by omega)).trans c1,by rw [hw2];exact b7.set _,fun _=>rfl⟩,?_,fun b hb _=>(k2 b (by omega)).trans (k1 b (by omega))⟩
  ·exact (k2 p (by omega)).trans ((k1 p (by omega)).trans h5)
  ·exact ⟨g2.os.trans g1.os,g2.tape.trans g1.tape,g2.output.trans g1.output,by omega,fun b hb=>(k2 b (by omega)).trans (k1 b (by omega))⟩
theorem Az (ok:Nat->Prop) (p M:Nat) (s:yG) (w:jN9) (hok:∀ b,ok b->b<p) (h:fV ok p M s w) (hl:s.all.length<=3000000) : Calls prog 102 #[.pointer (some ⟨p+2,0,none⟩),.pointer (some ⟨p,0,none⟩),.pointer (some ⟨p+1,0,none⟩)] w (vX ok p M (dZ s) w):=by
  have hsz:=h.sz;obtain ⟨UA,wA,wO,rA,rO,va,vo,h1,h2,h3,h4,h5,h6,h7,h8⟩:=h;obtain ⟨iP,hiP,Du,Dv,Dw⟩:=info_parts jt1;obtain ⟨n,hn⟩:∃ n,n=(s.all.map Pt.d).length:=⟨_,rfl⟩;obtain ⟨av,cv,rfl,-,-⟩:=h3.cap hn.symm;obtain ⟨ao,no,co,rfl⟩:=h4.sl3;have hn1:n<=3000000:=by rw [hn,jKx];exact hl
  have hz:=h3.qL;have hz2:=h3.CZ;obtain ⟨al,⟨ot,ob⟩,sm⟩:=s;have c0:=h5.cell;have f0:=h5.free;have d0:=h6.cell 0 _ rfl;have d1:=h6.cell 1 _ rfl;have df:=Aj h6;have b0:=h7.cell;have bf:=h7.free;have C8:Hid (∀ g,(Value.slice av n cv).ownBlock=some g->wA.heap.size<=g/\g<M):=fun g hg=>⟨(h3.own.lt g hg).1,by have:=h3.oU g hg;have:=h4.qL;omega⟩
  have EK:=hid hok;have H1:=hid h1;have H2:=hid h2;have H3:=hid h3;have H4:=hid h4;have H5:=hid h5;have H6:=hid h6;have H7:=hid h7;have HN:=hid hn.symm;cases sm with
  | false=>
    have HF:Hid (vX ok p M (dZ ⟨al,⟨ot,ob⟩,false⟩) w (.returned (.tuple #[])) (((w.setCell ⟨p+1,0,none⟩ (.bool false)).setCell ⟨p+1,0+1,none⟩ (.slice none 0 0)).setCell ⟨p+2,0,none⟩ (.bool true))):=EJ (L:=al) h1 hok h3 h5 h6 h7 hsz.1;clear h1 h2 h3 h4 h5 h6 h7 h8 hok hn hl;go_enter func102,ntmps102;go_wp2
    go_end0
    exact HF.out
  | true=>
    have hx:Rd (fun b=>ok b\/UA<=b) w (Pt.d ⟨ot,ob⟩) [.bool ot,.slice ao no co]:=Pt.fC ⟨ot,ob⟩ (h4.rd.weaken (fun b hb=>hb.imp id (fun h=>jK9 h2 h)));have HX:=hid hx;clear h1 h2 h3 h4 h5 h6 h7 h8 hok hn hl hx;go_enter func102,ntmps102;go_wp2_with (at_builtin;refine JI (n:=n) rfl _ _ 93 rfl iP _ 32 underlying93 hiP Du Dv Dw rfl (by decide) H3.out (fun b hb=>by have:=EK.out b hb;have:=H1.out;omega) (Pt.d ⟨ot,ob⟩) [.bool ot,.slice ao no co] HX.out rfl (by intro u hu;simp at hu;rcases hu with rfl | rfl<;>rfl) HN.out (by omega) (by decide) rfl rfl ?_)
    intro a' c' w1 hrow hg hat;have hz1:w.heap.size<=w1.heap.size:=by have:=hg.size;simp at this;omega
    have kb:∀ b,b<p+3->w1.heap[b]?=w.heap[b]?:=fun b hb=>(hg.block b (by have:=H1.out;simp;omega) (fun e=>by have:=(C8.out b e.symm).1;have:=H1.out;omega)).trans (jL2 w _ b (by have:=H1.out;omega))
    have bx1:aH p (.slice av n cv) 93 w1:=(kb p (by omega)).trans H5.out;have cx1:CB 96 (p+1) [.bool ot,.slice ao no co] w1:=(kb (p+1) (by omega)).trans H6.out;have sx1:aH (p+2) (.bool true) 4 w1:=(kb (p+2) (by omega)).trans H7.out;obtain ⟨w2,hw2⟩:∃ w2,w2=w1.setCell ⟨p,0,none⟩ (.slice a' (n+1) c'):=⟨_,rfl⟩;have g2:w1.grownBy w2 (some p):=⟨by rw [hw2];rfl,by rw [hw2];rfl,by rw [hw2];rfl,by rw [hw2];simp [jM1],fun b _ hb=>by rw [hw2];exact jL1 w1 ⟨p,0,none⟩ _ b (fun e=>hb (by rw [e]))⟩;obtain ⟨wA2,e2,r2⟩:=hrow.DL (p:=p) (by have:=H1.out;omega) (fun h=>by have:=EK.out _ h;omega) g2;have kc:∀ b,b≠p->w2.heap[b]?=w1.heap[b]?:=fun b hb=>by rw [hw2];exact jL1 w1 ⟨p,0,none⟩ _ b hb
    have hz3:w1.heap.size<=w2.heap.size:=g2.size;have cx2:=(kc (p+1) (by omega)).trans cx1;have sx2:=(kc (p+2) (by omega)).trans sx1;have HF:=EJ (wA:=wA2) (L:=al++[⟨ot,ob⟩]) (by have:=H1.out;omega) EK.out (by rw [jL8];exact r2) (by rw [hw2];exact bx1.set _) cx2 sx2 hsz.1;have HFF:Hid (vX ok p M (dZ ⟨al,⟨ot,ob⟩,true⟩) w (.returned (.tuple #[])) (((w2.setCell ⟨p+1,0,none⟩ (.bool false)).setCell ⟨p+1,0+1,none⟩ (.slice none 0 0)).setCell ⟨p+2,0,none⟩ (.bool true))):=by obtain ⟨f1,f2,f3,f4⟩:=HF;refine ⟨f1,f2,⟨f3.os.trans (g2.os.trans hg.os),f3.tape.trans (g2.tape.trans hg.tape),f3.output.trans (g2.output.trans hg.output),by have:=f3.size;omega,fun b hb=>((f3.block b hb).trans (kc b (by omega))).trans (kb b (by omega))⟩,fun b hb hlt=>?_⟩;refine ((f4 b hb (by omega)).trans (kc b (by omega))).trans ((hg.block b (by simp;omega) (fun e=>by have:=C8.out b e.symm;omega)).trans (jL2 w _ b hlt))
    have x0:=bx1.cell;have xf:=bx1.free;have y0:=(show CB 96 (p+1) [.bool ot,.slice ao no co] w2 from cx2).cell 0 _ rfl;have y1:=(show CB 96 (p+1) [.bool ot,.slice ao no co] w2 from cx2).cell 1 _ rfl;have yf:=Aj (show CB 96 (p+1) [.bool ot,.slice ao no co] w2 from cx2);have s0:=(show aH (p+2) (.bool true) 4 w2 from sx2).cell;have sf:=(show aH (p+2) (.bool true) 4 w2 from sx2).free;clear hrow hg hat hz1 hsz kb bx1 cx1 sx1 g2 e2 r2 kc hz3 cx2 sx2 HF c0 f0 d0 d1 df b0 bf;go_upto_region 2 with (fail)
    rw [<- hw2];clear hw2 x0 xf;go_wp2
    go_end0
    exact HFF.out
open Go.RowKit
structure LnW (li:List aj):Prop where
  sz:aj.aU li<=900000
  sm:aj.ay li
  tf:aj.MV li
theorem xO (name:ByteArray):∀ (cs:List UInt8) (l:List ah) (k:Nat) (c:UInt8) (b:ah),cs[k]?=some c->l[k]?=some b->bg name (cs.take (k+1)) (l.take (k+1))=bg name (cs.take k) (l.take k)++[Vy name c b]
  | [],_,_,_,_,h,_=>by simp at h
  | _::_,[],_,_,_,_,h=>by simp at h
  | c0::cs,b0::l,0,c,b,h1,h2=>by
    simp at h1 h2;subst h1 h2;simp [bg]
  | c0::cs,b0::l,k+1,c,b,h1,h2=>by
    rw [List.take_succ_cons,List.take_succ_cons,List.take_succ_cons,List.take_succ_cons,bg,bg,xO name cs l k c b (by simpa using h1) (by simpa using h2)];rfl
theorem AA (name:ByteArray):∀ (cs:List UInt8) (l:List ah),(bg name cs l).length<=l.length
  | [],l=>by simp [bg]
  | _::_,[]=>by simp [bg]
  | c::cs,b::l=>by rw [bg,jKz,jKz];have:=AA name cs l;omega
def Vz (Q:Nat) (w1:jN9) (name:ByteArray) (cs:List UInt8) (ks:List ah) (vi:jNk) (wr:jN9):Prop:=
  ∃ (k:Nat) (rows:List (List jNk)) (v:jNk) (U:Nat) (wB:jN9),k<=ks.length/\vi=.int .i64 k/\wB.heap.size=Q+1/\aC 35 4 (fun _=>False) U wB ((bg name (cs.take k) (ks.take k)).map Nd.d) rows v wr /\
    CB 35 Q [.string ⟨#[116,114]⟩,.string ⟨#[]⟩,.slice none 0 0,v] wr/\jNj Q w1 wr
theorem cb4 {p:Nat} {w:jN9} {c0 c1 c2 c3:jNk} (h:CB 35 p [c0,c1,c2,c3] w):w.cell? ⟨p,0,none⟩=some c0/\w.cell? ⟨p,1,none⟩=some c1/\w.cell? ⟨p,2,none⟩=some c2/\w.cell? ⟨p,3,none⟩=some c3/\∀ j,w.frozen? ⟨p,j,none⟩=false:=
  ⟨h.cell 0 _ rfl,h.cell 1 _ rfl,h.cell 2 _ rfl,h.cell 3 _ rfl,Aj h⟩
theorem Pq{P Q:Prop}(q:Q)(h:Nonempty Q->P:=by
 intro qQ;have hk0:=HW0.out;simp only [LQ] at hk0;rw [<- hk0];clear hk0;exact qQ.elim fun x=>x):P:=h ⟨q⟩
theorem UQ{P Q:Prop}(q:Q)(h:Nonempty Q->P:=by
 intro qQ;obtain ⟨p,hp⟩:∃ p,p=wr.heap.size:=⟨_,rfl⟩;obtain ⟨wA,iD⟩:∃ wA,wA=wr.alloc (.cells #[.int .i64 yk,.int .i64 YW,.string yi,.string yt,.string yd,.string YX,.string UO.id,.slice yac ync ycc,.slice yap ynp ycp,.slice OY OZ O4,.slice yak ynk yck] 48):=⟨_,rfl⟩;have PA:CB 48 p [.int .i64 yk,.int .i64 YW,.string yi,.string yt,.string yd,.string YX,.string UO.id,.slice yac ync ycc,.slice yap ynp ycp,.slice OY OZ O4,.slice yak ynk yck] wA:=by rw [iD,hp];exact CB.new _ _ wr
 have bA:Below wr.heap.size wr wA:=by rw [iD];exact (Below.refl _ _).alloc (Nat.le_refl _) _
 revert p hp wA iD PA bA;exact qQ.elim fun x=>x):P:=h ⟨q⟩
theorem VB{P:Prop}(h:P:=by
 have PR:=hid (show Rd (wA.heap.size<=·) w2 (dx (jm DN (Ik c))) [.slice a2 n2 c2] by rw [hal];exact hrow2.iZ.weaken (fun b hb=>Nat.le_trans bl.size hb));have B2:=hid (bl.trans (hrow2.aY.mono bl.size));clear hrow2 bl PC hal;go_upto_region 13 with (fail)
 refine EL [22,23,24,25,26,27,28,29,30,31,32,33,34] (fun f=>?_);simp only [List.foldl_cons,List.foldl_nil,List.set_cons_succ,List.set_cons_zero];exact REST w2 a2 n2 c2 f ⟨B2,PR⟩):P:=h
theorem uo{P Q:Prop}(q:Q)(h:Nonempty Q->P:=by
 intro qQ;rw [<- hw8];have r0:=Db.out.cell 0 _ rfl;have r1:=Db.out.cell 1 _ rfl;have r2:=Db.out.cell 2 _ rfl;have r3:=Db.out.cell 3 _ rfl;revert r0 r1 r2 r3;exact qQ.elim fun x=>x):P:=h ⟨q⟩
theorem jgq{P Q:Prop}(q:Q)(h:Nonempty Q->P:=by
 intro qQ;refine q2j 0 rfl (by kernel_rfl) hH (by rfl) (by intro wv hSw;(try dsimp only at hSw);go_simp;try with_reducible rfl) ?_;refine q2j 1 rfl (by kernel_rfl) hH (by rfl) (by intro wv hSw;(try dsimp only at hSw);go_simp;try with_reducible rfl) ?_;refine q2j 2 rfl (by kernel_rfl) hH (by rfl) (by intro wv hSw;(try dsimp only at hSw);go_simp;try with_reducible rfl) ?_;exact qQ.elim fun x=>x):P:=h ⟨q⟩
theorem xP{P Q:Prop}(q:Q)(h:Nonempty Q->P:=by
 intro qQ;have Db:=hid hf.1;have DR:=hid hf.2;have hw8:=dB;simp only [four] at hw8;revert Db DR hw8;exact qQ.elim fun x=>x):P:=h ⟨q⟩
theorem Pv{P Q:Prop}(q:Q)(h:Nonempty Q->P:=by
 intro qQ;refine hK.out _ _ (fun _=>S5) (fun hH2=>?_);have hH:=hH2 (by decide);clear hH2;revert hH;exact qQ.elim fun x=>x):P:=h ⟨q⟩
theorem UM{P Q:Prop}(q:Q)(h:Nonempty Q->P:=by
 intro qQ;have hcap:nk<=ck:=by have:=hs.le;rw [List.length_map] at this;omega
 have hmx:=hs.max;unfold maxLen at hmx;revert hcap hmx;exact qQ.elim fun x=>x):P:=h ⟨q⟩
theorem JJ (k lv:Int) (i t d ti:ByteArray) (at_:At) (li:List aj) (ks:List ah) (vc vp vl vk:Value) (name letters:ByteArray) (w:World) (hR:kG (·<w.heap.size) w at_ li ks vc vp vl vk) (hlen:ks.length=letters.size) (hk1:ks.length<=1000000) (hc:∀ c∈ks,LnW c.mG) : Calls prog 174 #[.agg #[.int .i64 k,.int .i64 lv,.string i,.string t,.string d,.string ti,.string at_.id,vc,vp,vl,vk],.string name,.string letters] w (q1z w (aW AJ [] (bg name letters.data.toList ks))):=by
  obtain ⟨iN,LJ,qx,qz,qA⟩:=info_parts oC;obtain ⟨ac,nc,cc,rfl⟩:=Rd.au hR.at_.cls
  obtain ⟨ap,np,cp,rfl⟩:=Rd.au hR.at_.aD
  obtain ⟨al,nl,cl,rfl⟩:=Rd.au hR.line;obtain ⟨ak,ck,hvk,hs⟩:=Rd.aB hR.kids;obtain ⟨nk,hnk⟩:∃ nk,nk=ks.length:=⟨_,rfl⟩;obtain rfl:vk=.slice ak nk ck:=by rw [hnk];simpa using hvk
  refine UM ?_;intro hcap hmx;have hnl:nk=letters.size:=by rw [hnk,hlen]
  obtain ⟨S,W0,hS,hW0,z0,k0,k1,b0⟩:=vT 48 w [.int .i64 k,.int .i64 lv,.string i,.string t,.string d,.string ti,.string at_.id,.slice ac nc cc,.slice ap np cp,.slice al nl cl,.slice ak nk ck];have KX:Hid (∀ w':World,Below W0.heap.size W0 w'->w'.cell? ⟨S,10,none⟩=some (.slice ak nk ck)):=fun w' hb=>(k0.below hb).cell 10 _ rfl
  have HS2:Hid (nV (·<S) W0 11 (ks.map ah.d) ak ck):=by subst hS;exact hs.below b0
  have LU:=hid hS;have HW0:=hid hW0;have Z0:=hid z0;have B0:=hid b0;have K1:=hid k1;have HC:=hid hc;have QW:=hid hnk;have DI:=hid hnl;have EC:=hid (ny ⟨#[116,114]⟩ none none 0 0 0 0 W0);have jx4:nk<=1000000:=by omega
  have hls:letters.size<=1000000:=by omega
  clear hR hvk hs hnk hnl hlen hS hW0 z0 k0 k1 b0 hc hk1;go_enter func174,ntmps174;go_upto_region 1 with (fail)
  rw [<- LU.out];refine Pq ?_;go_wp2_with fail
  (with_reducible refine EC.out.mono ?_)
  rintro e w1 ⟨rfl,b1⟩;go_upto_region 2 with (fail)
  obtain ⟨Q,hQ⟩:∃ Q,Q=w1.heap.size:=⟨_,rfl⟩;obtain ⟨wQ,hwQ⟩:∃ wQ,wQ=w1.alloc (.cells #[.string ⟨#[116,114]⟩,.string ⟨#[]⟩,.slice none 0 0,.slice none 0 0] 35):=⟨_,rfl⟩;have zQ:wQ.heap.size=Q+1:=by rw [hwQ,hQ];simp
  have kQ:CB 35 Q [.string ⟨#[116,114]⟩,.string ⟨#[]⟩,.slice none 0 0,.slice none 0 0] wQ:=by rw [hwQ,hQ];exact CB.new _ _ w1
  have bQ:Below Q w1 wQ:=by rw [hwQ,hQ];exact (Below.refl _ _).alloc (Nat.le_refl _) _
  have hWQ:W0.heap.size<=Q:=by rw [hQ];exact b1.size
  have R0:Hid (Vz Q w1 name letters.data.toList ks (.int .i64 0) wQ):=⟨0,[],_,Q+1,wQ,Nat.zero_le _,rfl,zQ,by rw [<- zQ];exact aC.nil _ _ _ _,kQ,bQ⟩;have B1:=hid b1;have g10:=KX.out wQ (b1.trans (bQ.mono hWQ));rw [<- hwQ,<- hQ];clear hwQ zQ kQ bQ b1 EC hQ;go_wp2
  go_loopw [15] (fun vi wr=>Vz Q w1 name letters.data.toList ks vi wr) (fun i _=>nk-(intOf i).toNat)
  case atStart=>exact R0.out
  case round=>
    clear R0 g10;obtain ⟨j,rows,v,U,wB,hj,rfl,hzB,hrow,hcb,hbel⟩:=hrel;obtain ⟨ds,hds⟩:∃ ds,ds=(bg name (letters.data.toList.take j) (ks.take j)).map Nd.d:=⟨_,rfl⟩;rw [<- hds] at hrow;obtain ⟨m,hm⟩:∃ m,m=ds.length:=⟨_,rfl⟩;have hmj:m<=1000000:=by have h:=AA name (letters.data.toList.take j) (ks.take j);have h2:(ks.take j).length<=ks.length:=List.length_take_le' _ _;rw [hm,hds,List.length_map];have:=QW.out;omega
    obtain ⟨av,cv,rfl,-,-⟩:=hrow.cap hm.symm;have HM:=hid hm.symm;have Dp:=hid hds;have bR:=hid hrow;have xQ:=hid hcb;have Ij:=hid hzB;have jg:=hid hbel;have hUr:=hrow.CZ;have hQU:Q+1<=U:=by have:=hrow.qL;omega
    clear hrow hcb hm hds hzB hbel;by_cases hlt:j<nk
    ·obtain ⟨y,hy⟩:∃ y,ks[j]?=some y:=⟨_,List.getElem?_eq_getElem (by have:=QW.out;omega)⟩;have hjs:j<letters.size:=by have:=DI.out;omega
     obtain ⟨c,hcx⟩:∃ c,letters.data.toList[j]?=some c:=⟨_,List.getElem?_eq_getElem (by simpa using hjs)⟩;have hsn:=xO name _ _ _ _ _ hcx hy;have hlw:=HC.out y (List.mem_of_getElem? hy);obtain ⟨yk,YW,yi,yt,yd,YX,UO,QX,OX⟩:=y;have hlw:LnW QX:=hlw;obtain ⟨g,off,vc,vp,vl,vk,rfl,hok,hbl,hc,hR⟩:=Mr HS2.out hy;have jt2:Below S W0 wr:=((Below.refl _ _).trans (B1.out.mono (by have:=Z0.out;omega))).trans (jg.out.mono (by have:=Z0.out;omega));obtain ⟨c0,c1,c2,c3,c4,c5,c6,c7,c8,c9,c10⟩:=hc.at2 (w':=wr) (jt2.block g hok);obtain ⟨yac,ync,ycc,rfl⟩:=Rd.au hR.at_.cls
     obtain ⟨yap,ynp,ycp,rfl⟩:=Rd.au hR.at_.aD
     obtain ⟨OY,OZ,O4,rfl⟩:=Rd.au hR.line;obtain ⟨yak,ynk,yck,rfl⟩:=Rd.au hR.kids;have HLI:Hid (Rd (·<S) W0 (aZ QX) [.slice OY OZ O4]):=hR.line;have HLW:=hid hlw;have kg:=hid (show (bg name (letters.data.toList.take (j+1)) (ks.take (j+1))).map Nd.d=ds++[(aW name (jm DN (Ik c)) (kP QX)).d] by rw [hsn,List.map_append,Dp.out];rfl);have HCX:=hid hcx;have jEq:=hid jt2;have hlet:(letters[j]'hjs)=c:=by have h:=hcx;rw [List.getElem?_eq_getElem (by simpa using hjs)] at h;exact Option.some.inj h
     have t7:(j:Int)<(letters.size:Int):=by omega
     clear hc hok hbl hR hsn hlw hy hcx jt2;go_upto_region 5 with (fail)
     refine UQ ?_;intro p hp wA iD PA bA;have zA:wA.heap.size=p+1:=by rw [iD,hp];simp
     rw [<- iD,<- hp];have hpr:wr.heap.size<=p:=by omega
     have hzA:wr.heap.size+1<=wA.heap.size:=by omega
     have hzp:p+1<=wA.heap.size:=by omega
     have hSW:S+2<=W0.heap.size:=Nat.le_of_eq Z0.out.symm;have BA:=hid bA;have HPA:=hid PA;have ZA:=hid zA;clear iD hp c0 c1 c2 c3 c4 c5 c6 c7 c8 c9 c10 PA bA zA;have q7:letters[j]?=some c:=by rw [<- hlet];exact getElem?_pos letters j hjs
     apply jz6 (α1:=World) (α2:=Option Addr) (α3:=Nat) (α4:=Nat) (α5:=Nat->Value) (R:=fun w2 a2 n2 c2 f=>Hid (Below wA.heap.size wA w2)/\Hid (Rd (wA.heap.size<=·) w2 (dx (jm DN (Ik c))) [.slice a2 n2 c2]));case hm=>
       intro REST;go_upto_region 7 with (fail)
       by_cases VD:c=108
       ·have q1:((c.toNat:Int)==108)=true:=by rw [VD];rfl
        have hal:jm DN (Ik c)=[⟨DN,⟨#[108,101,102,116]⟩⟩]:=by rw [VD];rfl
        have PC:Hid (Calls prog 41 #[.slice (some ⟨wA.heap.size,0,none⟩) 2 2] (wA.alloc (.cells #[.string ⟨#[97,108,105,103,110]⟩,.string ⟨#[108,101,102,116]⟩] 9)) (bV (wA.alloc (.cells #[.string ⟨#[97,108,105,103,110]⟩,.string ⟨#[108,101,102,116]⟩] 9)) [⟨DN,⟨#[108,101,102,116]⟩⟩])):=Zm DN ⟨#[108,101,102,116]⟩ wA;go_wp2_with fail
        (with_reducible refine PC.out.mono ?_)
        rintro e w2 ⟨bI,v2,rfl,hrow2⟩;obtain ⟨a2,n2,c2,rfl⟩:=hrow2.slice3;have bl:Below wA.heap.size wA (wA.alloc (.cells #[.string ⟨#[97,108,105,103,110]⟩,.string ⟨#[108,101,102,116]⟩] 9)):=(Below.refl _ _).alloc (Nat.le_refl _) _;exact VB
       by_cases h99:c=99
       ·have jEx:((c.toNat:Int)==108)=false:=by rw [h99];rfl
        have q1:((c.toNat:Int)==99)=true:=by rw [h99];rfl
        have hal:jm DN (Ik c)=[⟨DN,⟨#[99,101,110,116,101,114]⟩⟩]:=by rw [h99];rfl
        have PC:Hid (Calls prog 41 #[.slice (some ⟨wA.heap.size,0,none⟩) 2 2] (wA.alloc (.cells #[.string ⟨#[97,108,105,103,110]⟩,.string ⟨#[99,101,110,116,101,114]⟩] 9)) (bV (wA.alloc (.cells #[.string ⟨#[97,108,105,103,110]⟩,.string ⟨#[99,101,110,116,101,114]⟩] 9)) [⟨DN,⟨#[99,101,110,116,101,114]⟩⟩])):=Zm DN ⟨#[99,101,110,116,101,114]⟩ wA;go_wp2_with fail
        (with_reducible refine PC.out.mono ?_)
        rintro e w2 ⟨bI,v2,rfl,hrow2⟩;obtain ⟨a2,n2,c2,rfl⟩:=hrow2.slice3;have bl:Below wA.heap.size wA (wA.alloc (.cells #[.string ⟨#[97,108,105,103,110]⟩,.string ⟨#[99,101,110,116,101,114]⟩] 9)):=(Below.refl _ _).alloc (Nat.le_refl _) _;exact VB
       by_cases MX:c=114
       ·have q99:((c.toNat:Int)==99)=false:=by rw [MX];rfl
        have jEx:((c.toNat:Int)==108)=false:=by rw [MX];rfl
        have q1:((c.toNat:Int)==114)=true:=by rw [MX];rfl
        have hal:jm DN (Ik c)=[⟨DN,⟨#[114,105,103,104,116]⟩⟩]:=by rw [MX];rfl
        have PC:Hid (Calls prog 41 #[.slice (some ⟨wA.heap.size,0,none⟩) 2 2] (wA.alloc (.cells #[.string ⟨#[97,108,105,103,110]⟩,.string ⟨#[114,105,103,104,116]⟩] 9)) (bV (wA.alloc (.cells #[.string ⟨#[97,108,105,103,110]⟩,.string ⟨#[114,105,103,104,116]⟩] 9)) [⟨DN,⟨#[114,105,103,104,116]⟩⟩])):=Zm DN ⟨#[114,105,103,104,116]⟩ wA;go_wp2_with fail
        (with_reducible refine PC.out.mono ?_)
        rintro e w2 ⟨bI,v2,rfl,hrow2⟩;obtain ⟨a2,n2,c2,rfl⟩:=hrow2.slice3;have bl:Below wA.heap.size wA (wA.alloc (.cells #[.string ⟨#[97,108,105,103,110]⟩,.string ⟨#[114,105,103,104,116]⟩] 9)):=(Below.refl _ _).alloc (Nat.le_refl _) _;exact VB
       have q1:((c.toNat:Int)==108)=false:=by rw [beq_eq_false_iff_ne];intro h;exact VD (UInt8.toNat_inj.1 (show c.toNat=108 by omega))
       have q2:((c.toNat:Int)==99)=false:=by rw [beq_eq_false_iff_ne];intro h;exact h99 (UInt8.toNat_inj.1 (show c.toNat=99 by omega))
       have q3:((c.toNat:Int)==114)=false:=by rw [beq_eq_false_iff_ne];intro h;exact MX (UInt8.toNat_inj.1 (show c.toNat=114 by omega))
       have hal:Ik c=⟨#[]⟩:=by unfold Ik;rw [if_neg VD,if_neg h99,if_neg MX]
       have PR:Hid (Rd (wA.heap.size<=·) wA (dx (jm DN (Ik c))) [.slice none 0 0]):=by rw [hal];exact Rd.aI _ _ _
       clear VD h99 MX hal;go_upto_region 13 with (fail)
       refine EL [22,23,24,25,26,27,28,29,30,31,32,33,34] (fun f=>?_);simp only [List.foldl_cons,List.foldl_nil,List.set_cons_succ,List.set_cons_zero];exact REST wA none 0 0 f ⟨Below.refl _ _,PR⟩
     case hr=>
       intro w2 a2 n2 c2 f ⟨B2,PR⟩;have U2:=hid ((bR.out.below BA.out).below B2.out);have CQ2:=hid ((xQ.out.below BA.out).below B2.out);have Rh:=hid (HPA.out.below B2.out);have hz2:=B2.out.size;have LC:=hid (Em 900000 QX (.slice OY OZ O4) w2.drew HLW.out.sz (by decide) (Rd.keep (w:=W0) (w':=w2.drew) (ok:=(·<S)) (fun b (hb:b<S) hlt=>⟨by show b<w2.heap.size;have:=Z0.out;omega,(show w2.heap[b]?=W0.heap[b]? from (B2.out.block b (by have:=Z0.out;omega)).trans ((BA.out.block b (by have:=Z0.out;omega)).trans (jEq.out.block b hb)))⟩) _ _ HLI.out) HLW.out.sm HLW.out.tf);have S0:w2.drew.cell? ⟨Q,3,none⟩=some (.slice av m cv)/\w2.drew.cell? ⟨p,9,none⟩=some (.slice OY OZ O4):=⟨CQ2.out.cell 3 _ rfl,Rh.out.cell 9 _ rfl⟩;refine oH 11 (fun w'=>w'.cell? ⟨Q,3,none⟩=some (.slice av m cv)/\w'.cell? ⟨p,9,none⟩=some (.slice OY OZ O4)) (by kernel_rfl) S0 ?_;intro hH;refine jgq ?_;refine q2j 3 rfl (by kernel_rfl) hH (by rfl) (by intro wv hSw;(try dsimp only at hSw);go_simp;try with_reducible rfl) ?_;refine q2j 4 rfl (by kernel_rfl) hH (by rfl) (by intro wv hSw;(try dsimp only at hSw);go_simp;try with_reducible rfl) ?_;refine q2j 5 rfl (by kernel_rfl) hH (by rfl) (by intro wv hSw;(try dsimp only at hSw);go_simp;try with_reducible rfl) ?_;refine bq ?_;refine MJ (i:=6) rfl (by kernel_rfl) (fun KQ hK=>?_);go_simp;go_at_call 78
       (with_reducible refine LC.out.mono ?_)
       rintro e w3 ⟨gW,v3,rfl,hrow3⟩;obtain ⟨a3,n3,c3,rfl⟩:=hrow3.slice3;have b3:Below w2.heap.size w2 w3:=((Below.refl _ _).drew).trans hrow3.aY;have B3:=hid b3;have KS3:=hid (show Rd (w2.heap.size<=·) w3 (dR (kP QX)) [.slice a3 n3 c3] from hrow3.iZ);have Q3:=CQ2.out.below b3;have P3:=Rh.out.below b3;have S3:w3.cell? ⟨Q,3,none⟩=some (.slice av m cv)/\w3.cell? ⟨p,9,none⟩=some (.slice OY OZ O4):=⟨Q3.cell 3 _ rfl,P3.cell 9 _ rfl⟩;have U3:=hid (U2.out.below b3);have Pw:=hid Q3;have MZ:=hid P3;have EC:=hid (ny name a2 a3 n2 n3 c2 c3 w3);clear hrow3 b3 Q3 P3 LC U2;refine hK.out _ _ (fun _=>S3) (fun hH2=>?_);clear hK KQ hH;have hH:=hH2 (by decide);clear hH2;refine bq ?_;refine MJ (i:=7) rfl (by kernel_rfl) (fun KQ hK=>?_);go_simp;go_at_call 40
       (with_reducible refine EC.out.mono ?_)
       rintro e w4 ⟨rfl,b4⟩;have B4:=hid (q01 B3.out b4);have U4:=hid (U3.out.below b4);have Q4:=Pw.out.below b4;have P4:=MZ.out.below b4;have S4:w4.cell? ⟨Q,3,none⟩=some (.slice av m cv)/\w4.cell? ⟨p,9,none⟩=some (.slice OY OZ O4):=⟨Q4.cell 3 _ rfl,P4.cell 9 _ rfl⟩;have HQ4:=hid Q4;have HP4:=hid P4;have hz4:=B4.out.size;have XD:=hid (show Rd (fun b=>False\/U<=b) w4 (aW name (jm DN (Ik c)) (kP QX)).d [.string name,.string ⟨#[]⟩,.slice a2 n2 c2,.slice a3 n3 c3] from Nd.fC name ⟨#[]⟩ ⟨Rd.weaken ((PR.out.bP B3.out).bP b4) (fun b hb=>.inr (by omega)),Rd.weaken (KS3.out.bP b4) (fun b hb=>.inr (by omega))⟩);clear b4 Q4 P4 EC U3 KS3 Pw MZ;refine hK.out _ _ (fun _=>S4) (fun hH2=>?_);clear hK KQ hH;have hH:=hH2 (by decide);clear hH2;refine bq ?_;refine MJ (i:=8) rfl (by kernel_rfl) (fun KQ hK=>?_);go_simp;refine hK.out _ _ (fun _=>⟨past S4.1 _,past S4.2 _⟩) (fun hH2=>?_);clear hK KQ hH;have hH:=hH2 (by decide);clear hH2;refine bq ?_;refine MJ (i:=9) rfl (by kernel_rfl) (fun KQ hK=>?_);refine Ab rfl (.tmp 36) (.tmp 43) 28 rfl iN _ 80 underlying28 LJ qx qz qA rfl (by decide) U4.out (fun _=>False.elim) (aW name (jm DN (Ik c)) (kP QX)).d [.string name,.string ⟨#[]⟩,.slice a2 n2 c2,.slice a3 n3 c3] XD.out rfl kR HM.out (by omega) (by decide) rfl rfl ?_;intro a5 c5 w5 bZ hg5;have hz5:w4.heap.size+1<=w5.heap.size:=by have h:=hg5.size;simp at h;exact h
       have hvQ:some Q≠(Value.slice av m cv).ownBlock:=fun e=>by have:=(U4.out.own.lt Q e.symm).1;have:=Ij.out;omega
       have hvp:some p≠(Value.slice av m cv).ownBlock:=fun e=>by have:=U4.out.oU p e.symm;omega
       have q5:CB 35 Q [.string ⟨#[116,114]⟩,.string ⟨#[]⟩,.slice none 0 0,.slice av m cv] w5:=(hg5.block Q (by simp;omega) hvQ).trans ((Below.heap_alloc w4 _ Q HQ4.out.lt).trans HQ4.out);have p5:CB 48 p [.int .i64 yk,.int .i64 YW,.string yi,.string yt,.string yd,.string YX,.string UO.id,.slice yac ync ycc,.slice yap ynp ycp,.slice OY OZ O4,.slice yak ynk yck] w5:=(hg5.block p (by simp;omega) hvp).trans ((Below.heap_alloc w4 _ p HP4.out.lt).trans HP4.out);have S5:w5.cell? ⟨Q,3,none⟩=some (.slice av m cv)/\w5.cell? ⟨p,9,none⟩=some (.slice OY OZ O4):=⟨q5.cell 3 _ rfl,p5.cell 9 _ rfl⟩;have fz:=Aj q5;have e3:=q5.cell 3 _ rfl;have HQ5:=hid q5;have U5:=hid bZ;have HG5:=hid hg5;clear bZ hg5 q5 p5 hvp XD;refine Pv ?_;clear hK KQ hH;intro hH;refine bq ?_;refine MJ (i:=10) rfl (by kernel_rfl) (fun KQ hK=>?_);go_simp;refine Pv ?_;clear hK KQ hH;intro hH;refine bq ?_;refine MJ (i:=11) rfl (by kernel_rfl) (fun KQ hK=>?_);go_simp;refine hK.out _ _ (fun h=>absurd rfl h) (fun _=>?_);clear hK KQ;refine oI (by kernel_rfl) ?_ _;obtain ⟨w6,ku⟩:∃ w6,w6=w5.setCell ⟨Q,3,none⟩ (.slice a5 (m+1) c5):=⟨_,rfl⟩;rw [<- ku];have g6:w5.grownBy w6 (some Q):=by rw [ku];exact ⟨rfl,rfl,rfl,by simp [World.setCell],fun b _ hb=>Below.heap_setCell w5 ⟨Q,3,none⟩ _ b (fun e=>hb (by rw [e]))⟩
       have q6:CB 35 Q [.string ⟨#[116,114]⟩,.string ⟨#[]⟩,.slice none 0 0,.slice a5 (m+1) c5] w6:=by rw [ku];exact dS HQ5.out 3 _
       have hz6:w6.heap.size=w5.heap.size:=by rw [ku];simp [World.setCell]
       obtain ⟨wB6,hB6,uq⟩:=U5.out.hop2 (p:=Q) (by have:=Ij.out;omega) g6;have HF:Hid (Vz Q w1 name letters.data.toList ks (.int .i64 ((j+1:Nat):Int)) w6):=by
         have h1:=uq.up (U':=w6.heap.size) (by omega) (Nat.le_refl _);rw [<- kg.out] at h1;refine ⟨j+1,_,_,w6.heap.size,wB6,by have:=QW.out;omega,rfl,hB6.trans Ij.out,h1,q6,?_⟩;have hwQ:Q<=wr.heap.size:=by omega
         refine jg.out.trans ((BA.out.mono hwQ).trans ((B2.out.mono (by have:=BA.out.size;omega)).trans ((B4.out.mono (by omega)).trans ?_)));exact ((Below.refl _ _).alloc (by omega) _ |>.grown HG5.out (by simp;omega) (fun g hg=>by have:=(U4.out.own.lt g hg).1;have:=Ij.out;omega)).trans ((Below.refl Q w5).grown g6 (by omega) (fun g hg=>by have:=Option.some.inj hg;omega))
       clear ku g6 q6 uq hB6 U5 HG5 HQ5 hH S0 S3 S4 S5 fz e3 hvQ;exact tL
    ·have hkl:j=nk:=by have:=QW.out;omega
     have hjk:j=ks.length:=by have:=QW.out;omega
     have hll:letters.data.toList.length=letters.size:=by simp
     have HNR:Hid (nC (W0.heap.size<=·) wr [] (bg name letters.data.toList ks) (.slice none 0 0) (.slice av m cv)):=by have h:=bR.out.iZ;rw [Dp.out,List.take_of_length_le (by rw [hll];have:=DI.out;omega),List.take_of_length_le (by omega)] at h;exact ⟨Rd.aI _ _ _,h.weaken (fun b hb=>by have:=Ij.out;omega)⟩
     have BL:=hid (B1.out.trans (jg.out.mono hWQ));obtain ⟨x0,x1,x2,x3,xf⟩:=Ep (K1.out.below BL.out);obtain ⟨y0,y1,y2,y3,-⟩:=cb4 xQ.out;clear hll hjk;go_upto_region 15 with (fail)
     obtain ⟨w9,dB⟩:∃ w9,w9=four wr (S+1) (.string ⟨#[116,114]⟩) (.string ⟨#[]⟩) (.slice none 0 0) (.slice av m cv):=⟨_,rfl⟩;have hf:=gX ⟨#[116,114]⟩ ⟨#[]⟩ [] (bg name letters.data.toList ks) LU.out Z0.out B0.out K1.out BL.out HNR.out;rw [<- dB] at hf;refine xP ?_;clear hf dB;intro Db DR hw8;go_wp2;refine uo ?_;intro r0 r1 r2 r3;exact bodyPost_ret (v:=.agg #[.string ⟨#[116,114]⟩,.string ⟨#[]⟩,.slice none 0 0,.slice av m cv]) (by simp [results,results174,go_sem,r0,r1,r2,r3]) rfl DR.out
open Go.RowKit
structure TbW (i:ByteArray) (ks:List ah):Prop where
  ne:ks≠[]
  len:ks.length<=900000
  row:∀ r∈ks,r.kids.length=i.size/\r.kids.length<=1000000/\∀ c∈r.kids,LnW c.mG
theorem kG.Jc {ok ok':Nat->Prop} {w w':World} {a:At} {li:List aj} {ks:List ah} {vc vp vl vk:Value} (h:kG ok w a li ks vc vp vl vk) (hs:xL ok ok' w w'):kG ok' w' a li ks vc vp vl vk:=
  ⟨⟨Rd.keep hs _ _ h.at_.cls,Rd.keep hs _ _ h.at_.aD⟩,Rd.keep hs _ _ h.line,Rd.keep hs _ _ h.kids⟩
structure Eo (W0:World) (q:Option Nat) (w:World) (d:D) (vs:List Value):Prop where
  aY:Below W0.heap.size W0 w
  cb:∀ p,q=some p->W0.heap.size<=p/\CB 35 p LQ w
  rd:Rd (fun b=>W0.heap.size<=b/\some b≠q) w d vs
theorem Eo.far {W0 w w':World} {q:Option Nat} {d:D} {vs:List Value} (h:Eo W0 q w d vs) (hb:Below w.heap.size w w'):Eo W0 q w' d vs:=
  ⟨h.aY.trans (hb.mono h.aY.size),fun p hp=>⟨(h.cb p hp).1,(h.cb p hp).2.below hb⟩,h.rd.bP hb⟩
theorem Eo.nd {W0 w w':World} {q:Option Nat} {d d':D} {vs vs':List Value} (h:Eo W0 q w d vs) (hb:Below w.heap.size w w') (hr:Rd (w.heap.size<=·) w' d' vs'):Eo W0 q w' d' vs':=
  ⟨(h.far hb).aY,(h.far hb).cb,hr.weaken (fun b hk=>⟨Nat.le_trans h.aY.size hk,fun e=>by have:=(h.cb b e.symm).2.lt;omega⟩)⟩
theorem Eo.zero {W0 w:World} {d:D} {vs:List Value} (h:Eo W0 none w d vs):Eo W0 (some w.heap.size) (w.alloc (.cells #[.string ⟨#[]⟩,.string ⟨#[]⟩,.slice none 0 0,.slice none 0 0] 35)) d vs:=by refine ⟨h.aY.alloc h.aY.size _,fun p hp=>?_,Rd.keep (fun b hb hlt=>⟨⟨hb.1,fun e=>by have:=Option.some.inj e;omega⟩,Below.heap_alloc w _ b hlt⟩) _ _ h.rd⟩;obtain rfl:=Option.some.inj hp;exact ⟨h.aY.size,CB.new _ LQ w⟩
theorem VE {w:World} {g:Nat} {cs:List Value} (h:CB 35 g cs w) (hl:cs.length=4):w.ownsRow g 35 4 (.slice (some ⟨g,0,none⟩) 1 1) 1 ([cs]:List (List Value)).flatten:=by
  refine ⟨by simp [hl],.inr ⟨g,1,cs.toArray,rfl,Nat.le_refl _,h,by simp,by unfold maxLen;omega,?_,?_⟩⟩
  ·simp [hl]
  ·rw [<- hl];simp
theorem Eo.lit {W0 w:World} {q:Option Nat} {x:Nd} {c0 c1 c2 c3:Value} (h:Eo W0 q w x.d [c0,c1,c2,c3]):Eo W0 q (w.alloc (.cells #[c0,c1,c2,c3] 35)) (dR [x]) [.slice (some ⟨w.heap.size,0,none⟩) 1 1]:=by
  have hb:Below w.heap.size w (w.alloc (.cells #[c0,c1,c2,c3] 35)):=(Below.refl _ _).alloc (Nat.le_refl _) _;have h2:=h.far hb;refine ⟨h2.aY,h2.cb,Rd.jl (l:=[x.d]) (rows:=[[c0,c1,c2,c3]]) (VE (CB.new _ [c0,c1,c2,c3] w) rfl) (aO.one h2.rd) (by simp) (fun g hg=>?_)⟩;have e1:w.heap.size=g:=by simpa [Value.ownBlock] using hg
  exact ⟨by rw [<- e1];exact h.aY.size,fun e=>by have:=(h.cb g e.symm).2.lt;omega⟩
theorem Eo.el {W0 w w':World} {q:Option Nat} {ks:List Nd} {v:Value} (h:Eo W0 q w (dR ks) [v]) (hb:Below w.heap.size w w') (n:ByteArray):Eo W0 q w' (aW n [] ks).d [.string n,.string ⟨#[]⟩,.slice none 0 0,v]:=
  ⟨(h.far hb).aY,(h.far hb).cb,Nd.fC n ⟨#[]⟩ ⟨Rd.aI _ _ _,(h.far hb).rd⟩⟩
structure TbE (W0:World) (q:Option Nat) (g:Nat) (w:World) (d:D) (cs:List Value):Prop where
  aY:Below W0.heap.size W0 w
  cb:∀ p,q=some p->W0.heap.size<=p/\CB 35 p LQ w
  hg:W0.heap.size<=g/\some g≠q
  cg:CB 35 g cs w
  rd:Rd (fun b=>(W0.heap.size<=b/\some b≠q)/\b≠g) w d cs
theorem TbE.far {W0 w w':World} {q:Option Nat} {g:Nat} {d:D} {vs:List Value} (h:TbE W0 q g w d vs) (hb:Below w.heap.size w w'):TbE W0 q g w' d vs:=
  ⟨h.aY.trans (hb.mono h.aY.size),fun p hp=>⟨(h.cb p hp).1,(h.cb p hp).2.below hb⟩,h.hg,h.cg.below hb,h.rd.bP hb⟩
theorem TbE.zero {W0 w:World} {g:Nat} {d:D} {vs:List Value} (h:TbE W0 none g w d vs):TbE W0 (some w.heap.size) g (w.alloc (.cells #[.string ⟨#[]⟩,.string ⟨#[]⟩,.slice none 0 0,.slice none 0 0] 35)) d vs:=by refine ⟨h.aY.alloc h.aY.size _,fun p hp=>?_,⟨h.hg.1,fun e=>by have:=Option.some.inj e;have:=h.cg.lt;omega⟩,h.cg.below ((Below.refl _ _).alloc (Nat.le_refl _) _),Rd.keep (fun b hb hlt=>⟨⟨⟨hb.1.1,fun e=>by have:=Option.some.inj e;omega⟩,hb.2⟩,Below.heap_alloc w _ b hlt⟩) _ _ h.rd⟩;obtain rfl:=Option.some.inj hp;exact ⟨h.aY.size,CB.new _ LQ w⟩
theorem Eo.jEz {W0 w:World} {q:Option Nat} {x:Nd} {c0 c1 c2 c3:Value} (h:Eo W0 q w x.d [c0,c1,c2,c3]):TbE W0 q w.heap.size (w.alloc (.cells #[c0,c1,c2,c3] 35)) x.d [c0,c1,c2,c3]:=by have hb:Below w.heap.size w (w.alloc (.cells #[c0,c1,c2,c3] 35)):=(Below.refl _ _).alloc (Nat.le_refl _) _;have h2:=h.far hb;exact ⟨h2.aY,h2.cb,⟨h.aY.size,fun e=>by have:=(h.cb _ e.symm).2.lt;omega⟩,CB.new _ [c0,c1,c2,c3] w,Rd.keep (fun b hk hlt=>⟨⟨hk,by omega⟩,hb.block b hlt⟩) _ _ h.rd⟩
structure TbJ (W0:World) (q g:Nat) (w:World) (d:D) (cs:List Value) (cq:List Value):Prop where
  aY:Below W0.heap.size W0 w
  hq:W0.heap.size<=q
  cq:CB 35 q cq w
  hg:W0.heap.size<=g/\g≠q
  cg:CB 35 g cs w
  rd:Rd (fun b=>W0.heap.size<=b/\b≠q/\b≠g) w d cs
theorem TbE.put {W0 w:World} {g q:Nat} {d:D} {cs:List Value} (h:TbE W0 (some q) g w d cs) (c0 c1 c2 c3:Value):TbJ W0 q g (four w q c0 c1 c2 c3) d cs [c0,c1,c2,c3]:=by
  have h1:=(h.cb q rfl);have hgq:g≠q:=fun e=>h.hg.2 (by rw [e])
  exact ⟨Ah h.aY h1.1 _ _ _ _,h1.1,Pb h1.2 _ _ _ _,⟨h.hg.1,hgq⟩,(iH w q c0 c1 c2 c3 g hgq).trans h.cg,Rd.keep (fun b hb hlt=>⟨⟨hb.1.1,fun e=>hb.1.2 (by rw [e]),hb.2⟩,iH w q c0 c1 c2 c3 b (fun e=>hb.1.2 (by rw [e]))⟩) _ _ h.rd⟩
theorem TbJ.far {W0 w w':World} {q g:Nat} {d:D} {cs cq:List Value} (h:TbJ W0 q g w d cs cq) (hb:Below w.heap.size w w'):TbJ W0 q g w' d cs cq:=
  ⟨h.aY.trans (hb.mono h.aY.size),h.hq,h.cq.below hb,h.hg,h.cg.below hb,h.rd.bP hb⟩
section
variable {T:TypeId} {k:Nat} {ds:List D} {rows:List (List Value)} {v:Value} {w:World}
theorem Ri {n:Nat} {ops:Array Oper} {o:Oper} {a:Act} {K:Act->World->Prop} {Q:Exit->Act->World->Prop} {E:Prop} (hgd:o.guard=none) (s x:Operand) (t:TypeId) (ho:o.op=.call { callee:=.builtin .append,args:=#[s,x],argTypes:=#[t,t] }) (i:TypeInfo) (z:Value) (bytes:Nat) (ht:prog.underlying t=some (.slice T)) (hi:prog.info? T=some i) (hz:i.zero=some z) (hsize:i.size=k) (hby:i.bytes=bytes) (hzs:z.cells.size=k) (hsz:0<k) {B:Nat} {P:Nat->Prop} (hown:w.ownsRow B T k v ds.length rows.flatten) (hB:B<=w.heap.size) (hrd:aO P w ds rows) (hlen:∀ r∈rows,r.length=k) (hP:∀ b,P b->v.ownBlock≠some b) (d:D) (r:List Value) (hx:Rd P w d r) (hr:r.length=k) (h1:∀ u∈r,u.oneCell'=true) (hdn:ds.length=n) (hn:n<=10000000) (tX:bytes<=1000) (hs:a.eval s=v) (hxe:a.eval x=.slice (some ⟨w.heap.size,0,none⟩) 1 1) (hK:∀ a' c' w',Rd (fun b=>P b\/v.ownBlock=some b\/w.heap.size<=b) w' (.sl k (ds++[d])) [.slice a' (n+1) c']->(w.alloc (.cells r.toArray T)).grownBy w' v.ownBlock->K (a.put o.dst (.slice a' (n+1) c')) w') : if Region.wanted o (yielded ops a.tmps)=true then Oper.wp prog o a (w.alloc (.cells r.toArray T)) K Q else E:=by
  subst hdn;refine JD ?_;intro hmul;refine step_append_lies _ hgd s x t ho B T i z k bytes ht hi hz hsize hby hzs hsz v ds.length rows.flatten hs (hown.alloc _) ⟨w.heap.size,0,none⟩ 1 1 r hxe (by omega) (JA w r T) h1 (by omega) (by unfold maxLen;omega) hmul (by simp;omega) (w.heap.size+1) (by simp) ?_;intro g cap w' hown hg hat _;have hh:∀ b,P b->b<w.heap.size->w'.heap[b]?=w.heap[b]?:=fun b hb hlt=>(hg.block b (by simp;omega) (fun e=>hP b hb e.symm)).trans (Below.heap_alloc w _ b hlt)
  have VF:aO (fun b=>P b\/v.ownBlock=some b\/w.heap.size<=b) w' (ds++[d]) (rows++[r]):=aO.app (aO.keep (fun b hb hlt=>⟨.inl hb,hh b hb hlt⟩) _ _ hrd) (aO.one (Rd.keep (fun b hb hlt=>⟨.inl hb,hh b hb hlt⟩) _ _ hx));have EM:∀ q∈rows++[r],q.length=k:=fun q hq=>(List.mem_append.1 hq).elim (hlen q) (fun h=>by rw [List.mem_singleton.1 h];exact hr)
  have hown2:w'.ownsRow B T k (.slice (some ⟨g,0,none⟩) (ds.length+1) cap) (ds++[d]).length (rows++[r]).flatten:=by rw [List.length_append,List.length_singleton,List.flatten_append];simpa using hown
  refine hK _ _ w' (Rd.jl hown2 VF EM (fun g' hg'=>?_)) hg;have e1:g=g':=by simpa [Value.ownBlock] using hg'
  subst e1;exact hat.elim (fun e=>.inr (.inl e)) (fun e=>.inr (.inr (by omega)))
end
theorem jF0 {g b n c:Nat} (h:(Value.slice (some ⟨g,0,none⟩) n c).ownBlock=some b):b=g:=by
  have e:g=b:=by simpa [Value.ownBlock] using h
  exact e.symm
def GH (w1:World) (i:ByteArray) (rs:List ah) (v vi:Value) (wr:World):Prop:=
  ∃ (k:Nat) (rows:List (List Value)),k<=rs.length/\vi=.int .i64 k/\aC 35 4 (fun _=>False) wr.heap.size w1 (((rs.take k).map (lW DU i)).map Nd.d) rows v wr
theorem EO{P Q:Prop}(q:Q)(h:Nonempty Q->P:=by
 intro qQ;go_simp;obtain ⟨q,hf⟩:∃ q,q=y.heap.size:=⟨_,rfl⟩;have qC:=hid HY.out.zero;obtain ⟨y,hN⟩:∃ y2,y2=y.alloc (.cells #[.string ⟨#[]⟩,.string ⟨#[]⟩,.slice none 0 0,.slice none 0 0] 35):=⟨_,rfl⟩;revert q hf qC y hN;exact qQ.elim fun x=>x):P:=h ⟨q⟩
theorem xR{P Q:Prop}(q:Q)(h:Nonempty Q->P:=by
 intro qQ;rw [<- hN,<- hf];refine dY hK qC.out.aY ?_;intro hH;have HY:=qC;revert hH HY;exact qQ.elim fun x=>x):P:=h ⟨q⟩
theorem jf5{P Q:Prop}(q:Q)(h:Nonempty Q->P:=by
 intro qQ;have d0:=PA.cell 0 _ rfl;have d1:=PA.cell 1 _ rfl;have d2:=PA.cell 2 _ rfl;have d3:=PA.cell 3 _ rfl;have d4:=PA.cell 4 _ rfl;have d5:=PA.cell 5 _ rfl;have d6:=PA.cell 6 _ rfl;have d7:=PA.cell 7 _ rfl;have d8:=PA.cell 8 _ rfl;have d9:=PA.cell 9 _ rfl;have d10:=PA.cell 10 _ rfl;revert d0 d1 d2 d3 d4 d5 d6 d7 d8 d9 d10;exact qQ.elim fun x=>x):P:=h ⟨q⟩
theorem jgx{P:Prop}(h:P:=by
 have h2:(rs.take j).length<=rs.length:=List.length_take_le' _ _;rw [hm,hds,List.length_map,List.length_map];have:=Rj.out;omega):P:=h
theorem ME (k lv:Int) (i t d ti:ByteArray) (at_:At) (li:List aj) (ks:List ah) (vc vp vl vk:jNk) (w:jN9) (hR:kG (·<w.heap.size) w at_ li ks vc vp vl vk) (hT:TbW i ks) : Calls prog 138 #[.agg #[.int .i64 k,.int .i64 lv,.string i,.string t,.string d,.string ti,.string at_.id,vc,vp,vl,vk]] w (q1z w (En i ks)):=by
  obtain ⟨ac,nc,cc,rfl⟩:=Rd.au hR.at_.cls
  obtain ⟨ap,np,cp,rfl⟩:=Rd.au hR.at_.aD
  obtain ⟨al,nl,cl,rfl⟩:=Rd.au hR.line;obtain ⟨ak,ck,hvk,hs⟩:=Rd.aB hR.kids;obtain ⟨nk,hnk⟩:∃ nk,nk=ks.length:=⟨_,rfl⟩;obtain rfl:vk=.slice ak nk ck:=by rw [hnk];simpa using hvk
  obtain ⟨x0,rs,rfl⟩:∃ x0 rs,ks=x0::rs:=by
    cases ks with
    | nil=>exact absurd rfl hT.ne
    | cons a b=>exact ⟨a,b,rfl⟩
  refine UM ?_;intro hcap hmx;have jz7:nk=rs.length+1:=by rw [hnk,jKz]
  have jx4:nk<=900000:=by have:=hT.len;omega
  obtain ⟨S,W0,hS,hW0,z0,k0,k1,b0⟩:=vT 48 w [.int .i64 k,.int .i64 lv,.string i,.string t,.string d,.string ti,.string at_.id,.slice ac nc cc,.slice ap np cp,.slice al nl cl,.slice ak nk ck];have hs2:nV (·<S) W0 11 ((x0::rs).map ah.d) ak ck:=by subst hS;exact hs.below b0
  have hT0:=hT.row x0 (List.mem_cons_self ..);have hTR:=fun r hr=>hT.row r (List.mem_cons_of_mem _ hr)
  obtain ⟨xk,xlv,xi,xt,xd,xti,xat,xli,Ic⟩:=x0;obtain ⟨ga,off,xvc,xvp,xvl,xvk,rfl,hok,hbl,hc,hR0⟩:=Mr (k:=0) hs2 rfl;obtain ⟨xac,xnc,xcc,rfl⟩:=Rd.au hR0.at_.cls
  obtain ⟨xap,xnp,xcp,rfl⟩:=Rd.au hR0.at_.aD
  obtain ⟨xal,xnl,xcl,rfl⟩:=Rd.au hR0.line;obtain ⟨xak,xnk,xck,rfl⟩:=Rd.au hR0.kids;have hc:=show dA W0 ga off xk xlv xi xt xd xti xat.id (.slice xac xnc xcc) (.slice xap xnp xcp) (.slice xal xnl xcl) (.slice xak xnk xck) by simpa using hc
  have CX:Hid (∀ w':jN9,jNj W0.heap.size W0 w'->w'.cell? ⟨S,2,none⟩=some (.string i)/\w'.cell? ⟨S,10,none⟩=some (.slice (some ⟨ga,off,none⟩) nk ck)/\dA w' ga off xk xlv xi xt xd xti xat.id (.slice xac xnc xcc) (.slice xap xnp xcp) (.slice xal xnl xcl) (.slice xak xnk xck)):=fun w' hb=>
    ⟨(k0.below hb).cell 2 _ rfl,(k0.below hb).cell 10 _ rfl,hc.at2 (hb.block ga hbl)⟩
  have RC:Hid (∀ w':jN9,jNj W0.heap.size W0 w'->Calls prog 174 #[.agg #[.int .i64 xk,.int .i64 xlv,.string xi,.string xt,.string xd,.string xti,.string xat.id,.slice xac xnc xcc,.slice xap xnp xcp,.slice xal xnl xcl,.slice xak xnk xck],.string ⟨#[116,104]⟩,.string i] w' (q1z w' (aW AJ [] (bg M4 i.data.toList Ic)))):=fun w' hb=>
    JJ xk xlv xi xt xd xti xat xli Ic _ _ _ _ M4 i w' (kG.Jc hR0 (fun b (hb':b<S) hlt=>⟨by show b<w'.heap.size;have:=hb.size;omega,hb.block b (by omega)⟩)) hT0.1 hT0.2.1 hT0.2.2
  have HS2:=hid hs2;have LU:=hid hS;have HW0:=hid hW0;have Z0:=hid z0;have B0:=hid b0;have K1:=hid k1;have HTR:=hid hTR;have QW:=hid jz7;have jJ3:0<nk:=by omega
  have jJ4:(0:Int)<(nk:Int):=by omega
  clear hR hvk hs hs2 hS hW0 z0 k0 k1 b0 hc hT0 hTR hT hnk jz7 hR0;go_enter func138,ntmps138;go_upto_region 1 with (fail)
  rw [<- LU.out];refine Pq ?_
  go_cut [3] (fun s3 wx=>∃ q g f,s3=.pointer (some ⟨q,0,none⟩)/\TbJ W0 q g wx (aW jq [] [aW AJ [] (bg M4 i.data.toList Ic)]).d [.string ⟨#[116,104,101,97,100]⟩,.string ⟨#[]⟩,.slice none 0 0,.slice (some ⟨f,0,none⟩) 1 1] [.string ⟨#[116,97,98,108,101]⟩,.string ⟨#[]⟩,.slice none 0 0,.slice (some ⟨g,0,none⟩) 1 1])
  case first=>
    refine q2s 12 (fun w'=>jNj W0.heap.size W0 w') (by kernel_rfl) (jK7 _ _).drew ?_;intro hH;refine gP 0 rfl hH (by intro wv hSw;obtain ⟨e2,e10,c0,c1,c2,c3,c4,c5,c6,c7,c8,c9,c10⟩:=CX.out wv hSw;go_simp;try with_reducible rfl) ?_;refine gP 1 rfl hH (by intro wv hSw;obtain ⟨e2,e10,c0,c1,c2,c3,c4,c5,c6,c7,c8,c9,c10⟩:=CX.out wv hSw;go_simp;try with_reducible rfl) ?_;refine gP 2 rfl hH (by intro wv hSw;obtain ⟨e2,e10,c0,c1,c2,c3,c4,c5,c6,c7,c8,c9,c10⟩:=CX.out wv hSw;go_simp;try with_reducible rfl) ?_;refine gP 3 rfl hH (by intro wv hSw;obtain ⟨e2,e10,c0,c1,c2,c3,c4,c5,c6,c7,c8,c9,c10⟩:=CX.out wv hSw;go_simp;try with_reducible rfl) ?_;refine gP 4 rfl hH (by intro wv hSw;obtain ⟨e2,e10,c0,c1,c2,c3,c4,c5,c6,c7,c8,c9,c10⟩:=CX.out wv hSw;go_simp;try with_reducible rfl) ?_;refine gP 5 rfl hH (by intro wv hSw;obtain ⟨e2,e10,c0,c1,c2,c3,c4,c5,c6,c7,c8,c9,c10⟩:=CX.out wv hSw;go_simp;try with_reducible rfl) ?_;obtain ⟨y,hy0⟩:∃ y,y=W0.drew:=⟨_,rfl⟩;rw [<- hy0] at hH;rw [<- hy0];clear hy0;have HY:Hid (Eo W0 none y (dR []) [.slice none 0 0]):=⟨hH,fun p hp=>by simp at hp,Rd.aI _ _ _⟩;refine rH 6 11 (fun KQ hK=>?_) (fun KQ hK=>?_);rotate_left;refine EO ?_;intro q hf qC y hN;rw [<- hN,<- hf] at qC;refine xR ?_;clear hN hf hK KQ hH HY;intro hH HY;clear qC;refine fK 6 fun KQ hK=>?_
    all_goals
      go_simp;go_at_call 174
      (with_reducible refine (RC.out _ HY.out.aY).mono ?_)
      rintro e y ⟨va,vk,he,hR,hb⟩;obtain ⟨aA,nA,cA,rfl⟩:=Rd.au hR.at_
      obtain ⟨aK,nK,cK,rfl⟩:=Rd.au hR.ks;have he:e=.returned (.agg #[.string AJ,.string ⟨#[]⟩,.slice aA nA cA,.slice aK nK cK]):=he;subst he;have qC:=hid (HY.out.nd hb (Nd.fC AJ ⟨#[]⟩ hR));clear hb hR;refine dY hK qC.out.aY ?_;clear hK KQ hH;intro hH;clear HY;have HY:=qC;clear qC
    all_goals
      first
        | (refine rH 7 11 (fun KQ hK=>?_) (fun KQ hK=>?_)
           rotate_left;refine EO ?_;intro q hf qC y hN;rw [<- hN,<- hf] at qC;refine xR ?_;clear hN hf hK KQ hH HY;intro hH HY;clear qC;refine fK 7 fun KQ hK=>?_)
        | refine fK 7 fun KQ hK=>?_
    all_goals
      go_simp;obtain ⟨f,hf⟩:∃ f,f=y.heap.size:=⟨_,rfl⟩;have qC:=hid HY.out.lit;obtain ⟨y,hN⟩:∃ y2,y2=y.alloc (.cells #[.string AJ,.string ⟨#[]⟩,.slice aA nA cA,.slice aK nK cK] 35):=⟨_,rfl⟩;rw [<- hN,<- hf] at qC;refine xR ?_;clear hN hf hK KQ hH HY;intro hH HY;clear qC
    all_goals
      first
        | (refine rH 8 11 (fun KQ hK=>?_) (fun KQ hK=>?_)
           rotate_left;refine EO ?_;intro q hf qC y hN;rw [<- hN,<- hf] at qC;refine xR ?_;clear hN hf hK KQ hH HY;intro hH HY;clear qC;refine fK 8 fun KQ hK=>?_)
        | refine fK 8 fun KQ hK=>?_
    all_goals
      go_simp;go_at_call 40
      (with_reducible refine (ny ⟨#[116,104,101,97,100]⟩ none (some ⟨f,0,none⟩) 0 1 0 1 _).mono ?_)
      rintro e y ⟨rfl,hb⟩;have qC:=hid (HY.out.el hb ⟨#[116,104,101,97,100]⟩);clear hb;refine dY hK qC.out.aY ?_;clear hK KQ hH;intro hH;clear HY;have HY:=qC;clear qC
    all_goals
      first
        | (refine rH 9 11 (fun KQ hK=>?_) (fun KQ hK=>?_)
           rotate_left;refine EO ?_;intro q hf qC y hN;rw [<- hN,<- hf] at qC;refine xR ?_;clear hN hf hK KQ hH HY;intro hH HY;clear qC;refine fK 9 fun KQ hK=>?_)
        | refine fK 9 fun KQ hK=>?_
    all_goals
      go_simp;obtain ⟨g,hf⟩:∃ f,f=y.heap.size:=⟨_,rfl⟩;have qC:=hid HY.out.jEz;obtain ⟨y,hN⟩:∃ y2,y2=y.alloc (.cells #[.string ⟨#[116,104,101,97,100]⟩,.string ⟨#[]⟩,.slice none 0 0,.slice (some ⟨f,0,none⟩) 1 1] 35):=⟨_,rfl⟩;rw [<- hN,<- hf] at qC;refine xR ?_;clear hN hf hK KQ hH HY;intro hH HY;clear qC
    all_goals
      first
        | (refine rH 10 11 (fun KQ hK=>?_) (fun KQ hK=>?_)
           rotate_left;refine EO ?_;intro q hf qC y hN;rw [<- hN,<- hf] at qC;refine xR ?_;clear hN hf hK KQ hH HY;intro hH HY;clear qC;refine fK 10 fun KQ hK=>?_)
        | refine fK 10 fun KQ hK=>?_
    all_goals
      go_simp;go_at_call 40
      (with_reducible refine (ny ⟨#[116,97,98,108,101]⟩ none (some ⟨g,0,none⟩) 0 1 0 1 _).mono ?_)
      rintro e y ⟨rfl,hb⟩;have qC:=hid (HY.out.far hb);clear hb;refine dY hK qC.out.aY ?_;clear hK KQ hH;intro hH;clear HY;have HY:=qC;clear qC
    all_goals
      first
        | (refine xS (i:=11) rfl (by decide +kernel) (fun KQ hK=>?_)
           refine EO ?_;intro q hf qC y hN;rw [<- hN,<- hf] at qC;refine xR ?_;clear hN hf hK KQ hH HY;intro hH HY;clear qC)
        | skip
    all_goals
      refine fK 12 fun KQ hK=>?_
      obtain ⟨x0,x1,x2,x3,xf⟩:=Ep (HY.out.cb q rfl).2;go_simp;have HJ:=hid (HY.out.put (.string ⟨#[116,97,98,108,101]⟩) (.string ⟨#[]⟩) (.slice none 0 0) (.slice (some ⟨g,0,none⟩) 1 1));clear x0 x1 x2 x3 xf;refine qB hK ?_;clear hK KQ hH;refine yF ?_;go_wp2
      go_meet
      exact ⟨q,g,f,rfl,HJ.out⟩
  case rest=>
    obtain ⟨q,g,f,rfl,hJ⟩:=hcut;obtain ⟨w1,hw1⟩:∃ w1:jN9,w1=wc:=⟨_,rfl⟩;subst hw1;have HJ:=hid hJ;obtain ⟨-,e10,-⟩:=CX.out w1 hJ.aY;obtain ⟨iN,LJ,qx,qz,qA⟩:=info_parts oC;obtain ⟨nr,hnr⟩:∃ nr,nr=nk-1:=⟨_,rfl⟩;have Rj:Hid (nr=rs.length):=by have:=QW.out;show _=_;omega
    have jJ5:nr<=900000:=by omega
    have R0:Hid (GH w1 i rs (.slice none 0 0) (.int .i64 0) w1):=⟨0,[],Nat.zero_le _,rfl,aC.nil _ _ _ _⟩;have hZ0:W0.heap.size=S+2:=Z0.out;clear hJ;by_cases hck:ck=1
    case' pos=>
      have hnz:nr=0:=by omega
      subst hck;go_upto_region 4 with (fail)
      subst hnz;clear hnr e10
      go_loopw [4,22] (fun v vi wr=>GH w1 i rs v vi wr) (fun _ vi _=>0-(intOf vi).toNat)
      case atStart=>exact R0.out
      case' round=>
        clear R0;obtain ⟨j,rows,hj,rfl,hrow⟩:=hrel;obtain ⟨ds,hds⟩:∃ ds,ds=((rs.take j).map (lW DU i)).map Nd.d:=⟨_,rfl⟩;rw [<- hds] at hrow;obtain ⟨m,hm⟩:∃ m,m=ds.length:=⟨_,rfl⟩;have hmj:m<=1000000:=by exact jgx
        obtain ⟨av,cv,rfl,-,-⟩:=hrow.cap hm.symm;have HM:=hid hm.symm;have Dp:=hid hds;have bR:=hid hrow;clear hrow hm hds;by_cases hlt:j<0
        ·exact absurd hlt (by omega)
        have hkl:j=0:=by have:=Rj.out;omega
    case' neg=>
      obtain ⟨ck2,jz8⟩:∃ ck2,ck2=ck-1:=⟨_,rfl⟩;go_upto_region 4 with (fail)
      rw [<- hnr,<- jz8];have hcc:nr<=ck2:=by omega
      clear hnr e10 jz8 hck
      go_loopw [4,22] (fun v vi wr=>GH w1 i rs v vi wr) (fun _ vi _=>nr-(intOf vi).toNat)
      case atStart=>exact R0.out
      case' round=>
        clear R0;obtain ⟨j,rows,hj,rfl,hrow⟩:=hrel;obtain ⟨ds,hds⟩:∃ ds,ds=((rs.take j).map (lW DU i)).map Nd.d:=⟨_,rfl⟩;rw [<- hds] at hrow;obtain ⟨m,hm⟩:∃ m,m=ds.length:=⟨_,rfl⟩;have hmj:m<=1000000:=by exact jgx
        obtain ⟨av,cv,rfl,-,-⟩:=hrow.cap hm.symm;have HM:=hid hm.symm;have Dp:=hid hds;have bR:=hid hrow;clear hrow hm hds;by_cases hlt:j<nr
        ·obtain ⟨y,hy⟩:∃ y,rs[j]?=some y:=⟨_,jK6 (by have:=Rj.out;omega)⟩;have hsn:=tV (lW DU i) rs j y hy;have hw:=HTR.out y (jL4 hy);obtain ⟨yk,YW,yi,yt,yd,YX,UO,QX,OX⟩:=y;have hw:OX.length=i.size/\OX.length<=1000000/\∀ c∈OX,LnW c.mG:=hw;obtain ⟨g2,off2,vc,vp,vl,vk,hge,hok2,Rk,hc2,hR2⟩:=Mr (k:=j+1) HS2.out (show (ah.mk xk xlv xi xt xd xti xat xli Ic::rs)[j+1]?=some (.mk yk YW yi yt yd YX UO QX OX) by simpa using hy);obtain ⟨rfl,rfl⟩:ga=g2/\off=off2:=by simpa using hge
         have hbr:jNj W0.heap.size W0 wr:=HJ.out.aY.trans (bR.out.aY.mono HJ.out.aY.size);have hc2:dA W0 ga (off+11+j*11) yk YW yi yt yd YX UO.id vc vp vl vk:=by rw [show off+11+j*11=off+(j+1)*11 by omega];exact hc2
         obtain ⟨c0,c1,c2,c3,c4,c5,c6,c7,c8,c9,c10⟩:=hc2.at2 (w':=wr) (hbr.block ga hbl);obtain ⟨yac,ync,ycc,rfl⟩:=Rd.au hR2.at_.cls
         obtain ⟨yap,ynp,ycp,rfl⟩:=Rd.au hR2.at_.aD
         obtain ⟨OY,OZ,O4,rfl⟩:=Rd.au hR2.line;obtain ⟨yak,ynk,yck,rfl⟩:=Rd.au hR2.kids;have RC2:Hid (∀ w':jN9,jNj W0.heap.size W0 w'->Calls prog 174 #[.agg #[.int .i64 yk,.int .i64 YW,.string yi,.string yt,.string yd,.string YX,.string UO.id,.slice yac ync ycc,.slice yap ynp ycp,.slice OY OZ O4,.slice yak ynk yck],.string ⟨#[116,100]⟩,.string i] w' (q1z w' (aW AJ [] (bg DU i.data.toList OX)))):=fun w' hb=>
           JJ yk YW yi yt yd YX UO QX OX _ _ _ _ DU i w' (kG.Jc hR2 (fun b (hb':b<S) hlt=>⟨by show b<w'.heap.size;have:=hb.size;omega,hb.block b (by omega)⟩)) hw.1 hw.2.1 hw.2.2
         have kg:=hid (show ((rs.take (j+1)).map (lW DU i)).map Nd.d=ds++[(aW AJ [] (bg DU i.data.toList OX)).d] by rw [hsn,jL8,Dp.out];rfl);have HBR:=hid hbr;clear hy hsn hw hge hok2 Rk hc2 hR2 hbr;go_upto_region 6 with (fail)
         refine UQ ?_;intro p hp wA iD PA bA;rw [<- iD,<- hp];have BA:=hid bA;have b0A:jNj W0.heap.size W0 wA:=HBR.out.trans (bA.mono HBR.out.size);obtain ⟨e2,-,-⟩:=CX.out wA b0A;refine jf5 ?_;intro d0 d1 d2 d3 d4 d5 d6 d7 d8 d9 d10;have RC3:=hid (RC2.out wA b0A);have hpw:wr.heap.size<=wA.heap.size:=bA.size;clear iD hp c0 c1 c2 c3 c4 c5 c6 c7 c8 c9 c10 PA bA b0A RC2;go_wp2_with fail
         (with_reducible refine RC3.out.mono ?_)
         rintro e w2 ⟨va,vk,he,hR2,hb2⟩;obtain ⟨aA,nA,cA,rfl⟩:=Rd.au hR2.at_
         obtain ⟨aK,nK,cK,rfl⟩:=Rd.au hR2.ks;have he:e=.returned (.agg #[.string AJ,.string ⟨#[]⟩,.slice aA nA cA,.slice aK nK cK]):=he;subst he;have U2:=hid ((bR.out.below BA.out).below hb2);have XD:=hid ((Nd.fC AJ ⟨#[]⟩ hR2).weaken (ok':=fun b=>False\/wr.heap.size<=b) (fun b hb=>.inr (jK9 hpw hb)));clear RC3 hR2 hb2 d0 d1 d2 d3 d4 d5 d6 d7 d8 d9 d10 e2;go_wp2_with (at_builtin;refine fF rfl _ _ 28 rfl iN _ 80 underlying28 LJ qx qz qA rfl (by decide) U2.out (fun _=>False.elim) (aW AJ [] (bg DU i.data.toList OX)).d [.string AJ,.string ⟨#[]⟩,.slice aA nA cA,.slice aK nK cK] XD.out rfl kR HM.out (by omega) (by decide) rfl rfl ?_)
         intro a' c' w5 hrow hg5;have HF:Hid (GH w1 i rs (.slice a' (m+1) c') (.int .i64 ((j+1:Nat):Int)) w5):=⟨j+1,_,by have:=Rj.out;omega,rfl,by rw [kg.out];exact hrow⟩;clear hrow hg5 XD U2 bR;exact tL
        have hkl:j=nr:=by have:=Rj.out;omega
    all_goals
      have hjr:j=rs.length:=by have:=Rj.out;omega
      have HNV:Hid (Rd (w1.heap.size<=·) wr (dR (rs.map (lW DU i))) [.slice av m cv]):=by have h:=bR.out.iZ;rw [Dp.out,hjr,List.take_length] at h;exact h
      have Y1:=hid (HJ.out.far bR.out.aY);have HBJ:Hid (W0.heap.size<=w1.heap.size):=HJ.out.aY.size;have HQ1:Hid (q<w1.heap.size):=HJ.out.cq.lt;have HG1:Hid (g<w1.heap.size):=HJ.out.cg.lt;by_cases hm0:m=0
      ·have HE:Hid (rs=[]):=by
         have:=HM.out;rw [Dp.out,hjr] at this;simp at this;exact List.length_eq_zero_iff.1 (by omega)
       subst hm0;have BL:=Y1.out.aY;have HQ:=hid Y1.out.cq;have HNR:Hid (nC (W0.heap.size<=·) wr [] [aW jq [] [aW AJ [] (bg M4 i.data.toList Ic)]] (.slice none 0 0) (.slice (some ⟨g,0,none⟩) 1 1)):=⟨Rd.aI _ _ _,Rd.jl (l:=[(aW jq [] [aW AJ [] (bg M4 i.data.toList Ic)]).d]) (rows:=[[.string ⟨#[116,104,101,97,100]⟩,.string ⟨#[]⟩,.slice none 0 0,.slice (some ⟨f,0,none⟩) 1 1]]) (VE Y1.out.cg rfl) (aO.one (Y1.out.rd.weaken (fun b hb=>hb.1))) (by simp) (fun b hb=>by
         have e1:g=b:=by simpa [Value.ownBlock] using hb
         rw [<- e1];exact Y1.out.hg.1)⟩
       have HTE:Hid (En i (ah.mk xk xlv xi xt xd xti xat xli Ic::rs)=aW AL [] [aW jq [] [aW AJ [] (bg M4 i.data.toList Ic)]]):=by show _=_;rw [HE.out];rfl
       obtain ⟨x0,x1,x2,x3,xf⟩:=Ep (K1.out.below BL);obtain ⟨y0,y1,y2,y3,-⟩:=cb4 HQ.out;go_upto_region 10 with (fail)
       obtain ⟨w9,dB⟩:∃ w9,w9=four wr (S+1) (.string ⟨#[116,97,98,108,101]⟩) (.string ⟨#[]⟩) (.slice none 0 0) (.slice (some ⟨g,0,none⟩) 1 1):=⟨_,rfl⟩;have hf:=gX ⟨#[116,97,98,108,101]⟩ ⟨#[]⟩ [] ([aW jq [] [aW AJ [] (bg M4 i.data.toList Ic)]]) LU.out Z0.out B0.out K1.out BL HNR.out;rw [<- dB] at hf;refine xP ?_;clear hf dB;intro Db DR hw8;go_wp2;refine uo ?_;intro r0 r1 r2 r3;exact bodyPost_ret (v:=.agg #[.string ⟨#[116,97,98,108,101]⟩,.string ⟨#[]⟩,.slice none 0 0,.slice (some ⟨g,0,none⟩) 1 1]) (by simp [results,results138,go_sem,r0,r1,r2,r3]) rfl (by rw [HTE.out];exact DR.out)
      ·have hm1:0<m:=by omega
       have HE:Hid (rs.isEmpty=false):=by
         show _=_;cases hrs:rs with
         | nil=>
           have:=HM.out;rw [Dp.out,hrs] at this;simp at this;omega
         | cons _ _=>rfl
       have S0:wr.drew.cell? ⟨q,3,none⟩=some (.slice (some ⟨g,0,none⟩) 1 1):=Y1.out.cq.cell 3 _ rfl;have HTE:Hid (En i (ah.mk xk xlv xi xt xd xti xat xli Ic::rs)=aW AL [] [aW jq [] [aW AJ [] (bg M4 i.data.toList Ic)],aW vY [] (rs.map (lW DU i))]):=by show aW AL [] (aW jq [] [aW AJ [] (bg M4 i.data.toList Ic)]::if rs.isEmpty=true then [] else [aW vY [] (rs.map (lW DU i))])=_;rw [HE.out];rfl
       clear hkl hjr hm0;go_upto_region 9 with (fail)
       refine oH 7 (fun w'=>w'.cell? ⟨q,3,none⟩=some (.slice (some ⟨g,0,none⟩) 1 1)) (by kernel_rfl) S0 ?_;intro hH;refine jgq ?_;refine MJ (i:=3) rfl (by kernel_rfl) (fun KQ hK=>?_);go_simp;go_at_call 40
       (with_reducible refine (ny ⟨#[116,98,111,100,121]⟩ none av 0 m 0 cv _).mono ?_)
       rintro e w3 ⟨rfl,b3⟩;have B3:jNj wr.heap.size wr w3:=((jK7 _ _).drew).trans b3;have Px:=hid (Y1.out.far B3);have S3:w3.cell? ⟨q,3,none⟩=some (.slice (some ⟨g,0,none⟩) 1 1):=Px.out.cq.cell 3 _ rfl;have XD:=hid (show Rd (fun b=>w1.heap.size<=b) w3 (aW ⟨#[116,98,111,100,121]⟩ [] (rs.map (lW DU i))).d [.string ⟨#[116,98,111,100,121]⟩,.string ⟨#[]⟩,.slice none 0 0,.slice av m cv] from Nd.fC ⟨#[116,98,111,100,121]⟩ ⟨#[]⟩ ⟨Rd.aI _ _ _,HNV.out.bP B3⟩);have HB3:=hid B3;clear b3 B3 S0;refine hK.out _ _ (fun _=>S3) (fun hH2=>?_);clear hK KQ hH;have hH:=hH2 (by decide);clear hH2;refine MJ (i:=4) rfl (by kernel_rfl) (fun KQ hK=>?_);go_simp;refine hK.out _ _ (fun _=>past S3 _) (fun hH2=>?_);clear hK KQ hH;have hH:=hH2 (by decide);clear hH2;refine MJ (i:=5) rfl (by kernel_rfl) (fun KQ hK=>?_);refine Ri (n:=1) rfl (.tmp 38) (.tmp 41) 28 rfl iN _ 80 underlying28 LJ qx qz qA rfl (by decide) (ds:=[(aW jq [] [aW AJ [] (bg M4 i.data.toList Ic)]).d]) (rows:=[[.string ⟨#[116,104,101,97,100]⟩,.string ⟨#[]⟩,.slice none 0 0,.slice (some ⟨f,0,none⟩) 1 1]]) (v:=.slice (some ⟨g,0,none⟩) 1 1) (P:=fun b=>W0.heap.size<=b/\b≠q/\b≠g) (VE Px.out.cg rfl) (Nat.le_of_lt Px.out.cg.lt) (aO.one Px.out.rd) (by simp) (fun b hb e=>hb.2.2 (jF0 e)) (aW ⟨#[116,98,111,100,121]⟩ [] (rs.map (lW DU i))).d [.string ⟨#[116,98,111,100,121]⟩,.string ⟨#[]⟩,.slice none 0 0,.slice av m cv] (XD.out.weaken (fun b hb=>⟨jK9 HBJ.out hb,by have:=HQ1.out;omega,by have:=HG1.out;omega⟩)) rfl kR rfl (by decide) (by decide) rfl rfl ?_;intro a5 c5 w5 jt3 hg5;have hgb:(Value.slice (some ⟨g,0,none⟩) 1 1).ownBlock=some g:=rfl;rw [hgb] at hg5 jt3;have q5:CB 35 q [.string ⟨#[116,97,98,108,101]⟩,.string ⟨#[]⟩,.slice none 0 0,.slice (some ⟨g,0,none⟩) 1 1] w5:=(hg5.block q (by simp;have:=Px.out.cq.lt;omega) (fun e=>Px.out.hg.2 (jL0 e).symm)).trans ((jL2 w3 _ q Px.out.cq.lt).trans Px.out.cq);have S5:w5.cell? ⟨q,3,none⟩=some (.slice (some ⟨g,0,none⟩) 1 1):=q5.cell 3 _ rfl;have fz:=Aj q5;have b35:jNj W0.heap.size w3 w5:=((jK7 _ w3).alloc Px.out.aY.size _).grown hg5 (by simp;have:=Px.out.aY.size;omega) (fun x hx=>by have:=jL0 hx;have:=Px.out.hg.1;omega);have pJ:=hid (Px.out.aY.trans b35);have jz9:=hid jt3;have HQ5:=hid q5;have hq3:q<w3.heap.size:=Px.out.cq.lt;clear jt3 hg5 hgb b35 XD q5;refine Pv ?_;clear hK KQ hH;intro hH;refine MJ (i:=6) rfl (by kernel_rfl) (fun KQ hK=>?_);go_simp;refine Pv ?_;clear hK KQ hH;intro hH;refine MJ (i:=7) rfl (by kernel_rfl) (fun KQ hK=>?_);go_simp;refine hK.out _ _ (fun h=>absurd rfl h) (fun _=>?_);clear hK KQ;refine oI (by kernel_rfl) ?_ _;obtain ⟨w6,ku⟩:∃ w6,w6=w5.setCell ⟨q,3,none⟩ (.slice a5 (1+1) c5):=⟨_,rfl⟩;try simp only [Nat.reduceAdd] at ku
       rw [<- ku];have HQ:Hid (CB 35 q [.string ⟨#[116,97,98,108,101]⟩,.string ⟨#[]⟩,.slice none 0 0,.slice a5 2 c5] w6):=by rw [ku];exact dS HQ5.out 3 _
       have BL:jNj W0.heap.size W0 w6:=by rw [ku];exact pJ.out.setCell Y1.out.hq _
       have HNR:Hid (nC (W0.heap.size<=·) w6 [] [aW jq [] [aW AJ [] (bg M4 i.data.toList Ic)],aW vY [] (rs.map (lW DU i))] (.slice none 0 0) (.slice a5 2 c5)):=⟨Rd.aI _ _ _,by
         rw [ku];refine Rd.keep (fun b hb hlt=>⟨?_,jL1 w5 ⟨q,3,none⟩ _ b ?_⟩) _ _ jz9.out
         ·rcases hb with hb | hb | hb
          ·exact hb.1
          ·have:=jL0 hb;have:=Y1.out.hg.1;omega
          ·have:=Px.out.aY.size;omega
         ·show b≠q;rcases hb with hb | hb | hb
          ·exact hb.2.1
          ·have:=jL0 hb;have:=Y1.out.hg.2;omega
          ·omega⟩
       clear ku jz9 S3 S5 fz hH;obtain ⟨x0,x1,x2,x3,xf⟩:=Ep (K1.out.below BL);obtain ⟨y0,y1,y2,y3,-⟩:=cb4 HQ.out;go_upto_region 10 with (fail)
       obtain ⟨w9,dB⟩:∃ w9,w9=four w6 (S+1) (.string ⟨#[116,97,98,108,101]⟩) (.string ⟨#[]⟩) (.slice none 0 0) (.slice a5 2 c5):=⟨_,rfl⟩;have hf:=gX ⟨#[116,97,98,108,101]⟩ ⟨#[]⟩ [] ([aW jq [] [aW AJ [] (bg M4 i.data.toList Ic)],aW vY [] (rs.map (lW DU i))]) LU.out Z0.out B0.out K1.out BL HNR.out;rw [<- dB] at hf;refine xP ?_;clear hf dB;intro Db DR hw8;go_wp2;refine uo ?_;intro r0 r1 r2 r3;exact bodyPost_ret (v:=.agg #[.string ⟨#[116,97,98,108,101]⟩,.string ⟨#[]⟩,.slice none 0 0,.slice a5 2 c5]) (by simp [results,results138,go_sem,r0,r1,r2,r3]) rfl (by rw [HTE.out];exact DR.out)
open Go.RowKit
theorem Py {ok:Nat->Prop} {w:jN9} {x y:Nd} {c0 c1 c2 c3 d0 d1 d2 d3:jNk} (hm:ok w.heap.size) (hx:Rd ok w x.d [c0,c1,c2,c3]) (hy:Rd ok w y.d [d0,d1,d2,d3]) : Rd ok (w.alloc (.cells #[c0,c1,c2,c3,d0,d1,d2,d3] 35)) (dR [x,y]) [.slice (some ⟨w.heap.size,0,none⟩) 2 2]:=by
  have hb:jNj w.heap.size w (w.alloc (.cells #[c0,c1,c2,c3,d0,d1,d2,d3] 35)):=(jK7 _ _).alloc (jK8 _) _;have k:CB 35 w.heap.size [c0,c1,c2,c3,d0,d1,d2,d3] (w.alloc (.cells #[c0,c1,c2,c3,d0,d1,d2,d3] 35)):=CB.new _ _ w;have kp:∀ {d:D} {cs:List jNk},Rd ok w d cs->Rd ok (w.alloc (.cells #[c0,c1,c2,c3,d0,d1,d2,d3] 35)) d cs:=fun h=>Rd.keep (fun b hb' hlt=>⟨hb',hb.block b hlt⟩) _ _ h
  exact Rd.slB (l:=[x,y].map Nd.d) (rows:=[[c0,c1,c2,c3],[d0,d1,d2,d3]]) (by simp) (by unfold maxLen;decide) (aO.cons (kp hx) (aO.one (kp hy))) (by simp) hm k.lt (fun j u hu=>k.cell j u (by simpa using hu))
def AO (w:jN9) (E:Nat) (x:Nd) (e:Ending) (w':jN9):Prop:=
  ∃ va vk,e=.returned (.tuple #[.agg #[.string x.nm,.string x.tx,va,vk],.int .i64 (E:Int)])/\nC (w.heap.size<=·) w' x.at_ x.ks va vk/\jNj w.heap.size w w'
theorem AO.of {w w':jN9} {E:Nat} {E':Int} {x:Nd} {v:jNk} (h:q1z w x (.returned v) w') (hE:E'=(E:Int)):AO w E x (.returned (.tuple #[v,.int .i64 E'])) w':=by
  obtain ⟨va,vk,he,h1,h2⟩:=h;subst hE;injection he with he
  subst he;exact ⟨va,vk,rfl,h1,h2⟩
end Go.Proofs.YtkfnkeflalcphaaGreatDoor

