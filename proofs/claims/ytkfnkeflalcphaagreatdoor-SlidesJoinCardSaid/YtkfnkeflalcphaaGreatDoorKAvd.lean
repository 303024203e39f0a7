/- Arguments that came in, read as the document's data, with what the form's reach says of their sizes. publisherref04.long: whether attributes are many, or long. publisherref04.weight: how many parts inlines have. Data lie in no block whose cells are slices alone. -/
import Derived.Deep.Slices
import Derived.ProofKit
import Derived.OpenShut
import Derived.Test.YtkfnkeflalcphaaGreatDoorKAppend
set_option maxHeartbeats 8000000
set_option maxRecDepth 100000
open Go.Lib (hid)
namespace Go.Proofs.YtkfnkeflalcphaaGreatDoor
open List renaming getElem?_eq_getElem->jlz,mem_of_getElem?->jmq,getElem?_map->jn2,take_length->jn6
open Nat renaming zero_le->jmk
open Go renaming World->jp3,Value->jp5
open Go.RowKit Go.ChangeShapes Go.WideShapes Go.Deep
set_option linter.unusedVariables false
set_option linter.unusedSimpArgs false
section
variable {H:Type} {enc:TypeId × jp5->H} {w:jp3} {base:Nat} {spare:Nat->Bool} {held:Bool}
theorem aH.Ir {ok:Nat->Prop} {α:Type} (F:α->D) (R:α->List jp5):∀ (L:List α),(∀ i∈L,Rd ok w (F i) (R i))->aH ok w (L.map F) (L.map R)
 | [],_=>aH.none
 | x::L,h=>aH.cons (h x (by simp)) (aH.Ir F R L (fun i hi=>h i (by simp [hi])))
def uN (P:Program) (t:TypeId) (d:DataW H):Prop:=(d.weights P t).all (·<=reachBytes)=true
theorem Iu {P:Program} {e:TypeId}:∀ {l:List (DataW H)},(DataW.weightsAll P e l).all (·<=reachBytes)=true->∀ d∈l,uN P e d
 | [],_,d,hd=>by cases hd
 | x::l,h,d,hd=>by
  rw [DataW.weightsAll,List.all_append,Bool.and_eq_true] at h;rcases List.mem_cons.1 hd with rfl | hd
  ·exact h.1
  ·exact Iu h.2 d hd
theorem pO {P:Program}:∀ {ts:List TypeId} {l:List (DataW H)},(DataW.weightsEach P ts l).all (·<=reachBytes)=true->∀ (i:Nat) (t:TypeId) (d:DataW H),ts[i]?=some t->l[i]?=some d->uN P t d
 | [],_,_,i,t,d,ht,_=>by simp at ht
 | _::_,[],_,i,t,d,_,hd=>by simp at hd
 | t0::ts,d0::l,h,0,t,d,ht,hd=>by
  rw [DataW.weightsEach,List.all_append,Bool.and_eq_true] at h;simp at ht hd;subst ht hd;exact h.1
 | t0::ts,d0::l,h,i+1,t,d,ht,hd=>by
  rw [DataW.weightsEach,List.all_append,Bool.and_eq_true] at h;exact pO h.2 i t d (by simpa using ht) (by simpa using hd)
theorem gK {P:Program} {t:TypeId} {fs:Array Field} {parts:List (DataW H)} (ht:P.underlying t=some (.struct fs)) (hw:uN P t (.agg parts)) (i:Nat) (f:Field) (d:DataW H) (hf:fs[i]?=some f) (hd:parts[i]?=some d):uN P f.type d:=by unfold uN at hw;rw [DataW.weights,ht] at hw;exact pO hw i f.type d (by rw [jn2,Array.getElem?_toList,hf];rfl) hd
theorem JX {P:Program} {t e:TypeId} {elems spare:List (DataW H)} (ht:P.underlying t=some (.slice e)) (hw:uN P t (.slice elems spare)):elems.length*P.bytesOf e<=reachBytes/\∀ d∈elems,uN P e d:=by unfold uN at hw;rw [DataW.weights,ht] at hw;simp only [List.all_cons,List.all_append,Bool.and_eq_true,decide_eq_true_eq] at hw;refine ⟨Nat.le_trans (Nat.mul_le_mul_right _ (by omega)) hw.1,Iu hw.2.1⟩
theorem Iw {P:Program} {t:TypeId} {s:ByteArray} (hw:uN P t (.lit (.string s.data.toList):DataW H)):s.size<=reachBytes:=by unfold uN at hw;rw [DataW.weights] at hw;simpa using hw
theorem len2:∀ {l:List jp5},l.length=2->∃ c0 c1,l=[c0,c1]
 | [c0,c1],_=>⟨_,_,rfl⟩
theorem je4:∀ {l:List jp5},l.length=3->∃ c0 c1 c2,l=[c0,c1,c2]
 | [c0,c1,c2],_=>⟨_,_,_,rfl⟩
theorem je5:∀ {l:List jp5},l.length=4->∃ c0 c1 c2 c3,l=[c0,c1,c2,c3]
 | [c0,c1,c2,c3],_=>⟨_,_,_,_,rfl⟩
theorem YH:∀ {l:List jp5},l.length=10->∃ c0 c1 c2 c3 c4 c5 c6 c7 c8 c9,l=[c0,c1,c2,c3,c4,c5,c6,c7,c8,c9]
 | [c0,c1,c2,c3,c4,c5,c6,c7,c8,c9],_=>⟨_,_,_,_,_,_,_,_,_,_,rfl⟩
theorem YI:∀ {l:List jp5},l.length=11->∃ c0 c1 c2 c3 c4 c5 c6 c7 c8 c9 c10,l=[c0,c1,c2,c3,c4,c5,c6,c7,c8,c9,c10]
 | [c0,c1,c2,c3,c4,c5,c6,c7,c8,c9,c10],_=>⟨_,_,_,_,_,_,_,_,_,_,_,rfl⟩
theorem jk {P:Program} {α:Type} [Inhabited α] (f:α->D) (OK:α->Prop) {fuel:Nat} {t e:TypeId} {k:Nat} {cs:List jp5} {x:DataW H × List MemPlace} (ht:P.underlying t=some (.slice e)) (hk:P.cellsOf e=k) (hk0:0<k) (hel:∀ n cs' y,n<fuel->DataW.trod enc P w base spare held n e cs'=some y->uN P e y.1->∃ a:α,OK a/\Rd (·<w.heap.size) w (f a) cs') (h:DataW.trod enc P w base spare held fuel t cs=some x) (hw:uN P t x.1):∃ l:List α,(∀ a∈l,OK a)/\l.length*P.bytesOf e<=reachBytes/\Rd (·<w.heap.size) w (.sl k (l.map f)) cs:=by
 subst hk;rcases DataW.trod_slice ht h with ⟨rfl,_⟩ | ⟨a,len,cap,elems,rest,n,rfl,rfl,JY,hb,hl,hm,hlen,je6,_⟩
 ·exact ⟨[],by simp,by simp,Rd.aD _ _ _⟩
 rw [JY] at hw;obtain ⟨hwl,hwe⟩:=JX ht hw;rw [List.length_map] at hwl;have key:∀ i,i<len->∃ p:α × List jp5,OK p.1/\Rd (·<w.heap.size) w (f p.1) p.2/\p.2.length=P.cellsOf e/\∀ j,j<P.cellsOf e->w.cell? ((a.add (i*P.cellsOf e)).add j)=p.2[j]?:=by intro i hi;have h1:=je6 i hi;rw [jlz (by omega)] at h1;obtain ⟨cs',h2,h3⟩:=Option.bind_eq_some_iff.1 h1;obtain ⟨_,h4,h5⟩:=World.cells?_some h2;obtain ⟨y,hy1,hy2⟩:=hel n cs' _ (by omega) h3 (hwe _ (List.mem_map.2 ⟨_,List.getElem_mem _,rfl⟩));exact ⟨(y,cs'),hy1,hy2,h4,h5⟩
 obtain ⟨p,hp⟩:=choose_lt (α:=α × List jp5) key;refine ⟨(List.range len).map fun i=>(p i).1,?_,by rw [List.length_map,List.length_range];rw [hlen] at hwl;exact hwl,?_⟩
 ·intro y hy;obtain ⟨i,hi,rfl⟩:=List.mem_map.1 hy;exact (hp i (List.mem_range.1 hi)).1
 rw [List.map_map];have hL:=aH.Ir (ok:=(·<w.heap.size)) (w:=w) (f ∘ fun i=>(p i).1) (fun i=>(p i).2) (List.range len) (fun i hi=>(hp i (List.mem_range.1 hi)).2.1);have hrl:∀ r∈(List.range len).map (fun i=>(p i).2),r.length=P.cellsOf e:=by intro r hr;obtain ⟨i,hi,rfl⟩:=List.mem_map.1 hr;exact (hp i (List.mem_range.1 hi)).2.2.1
 have za:((List.range len).map (f ∘ fun i=>(p i).1)).length=len:=by simp
 unfold Rd;refine ⟨some a,cap,_,by rw [za],by omega,hm,hL,hrl,?_⟩;rw [za];rcases Nat.eq_zero_or_pos len with h0 | h0
 ·exact .inl h0
 ·obtain ⟨b,off,spot⟩:=a;have c0:=(hp 0 h0).2.2.2 0 hk0;have hl0:=(hp 0 h0).2.2.1;rw [jlz (by omega)] at c0;have hspot:spot=none:=by simpa [Addr.add] using World.cell?_spot c0
  subst hspot;have plain:∀ (o j:Nat),((⟨b,o,none⟩:Addr).add j)=⟨b,o+j,none⟩:=by intro o j;unfold Addr.add;split<;>simp_all
  rw [plain,plain] at c0;refine .inr ⟨b,off,rfl,ze c0,ze c0,fun j u hu=>?_⟩;have hj:j<len*P.cellsOf e:=by have h1:=(List.getElem?_eq_some_iff.1 hu).1;rw [ji (P.cellsOf e) _ hrl] at h1;simpa using h1
  have hi:j/P.cellsOf e<len:=Nat.div_lt_of_lt_mul (by rw [Nat.mul_comm];exact hj);have hr:j%P.cellsOf e<P.cellsOf e:=Nat.mod_lt _ hk0;have ej:j/P.cellsOf e*P.cellsOf e+j%P.cellsOf e=j:=by rw [Nat.mul_comm];exact Nat.div_add_mod j _
  have c1:=(hp _ hi).2.2.2 _ hr;have hlr:=(hp _ hi).2.2.1;rw [jlz (by omega),plain,plain,Nat.add_assoc,ej] at c1;have hf:=flat_get (P.cellsOf e) _ hrl (j/P.cellsOf e) (j%P.cellsOf e) (p (j/P.cellsOf e)).2 _ (by rw [jn2,List.getElem?_range hi];rfl) (jlz (by omega));rw [ej,hu] at hf;rw [c1];exact hf.symm
instance:Inhabited Pr:=⟨⟨.empty,.empty⟩⟩
instance:Inhabited Ci:=⟨⟨.empty,.empty,.empty,false⟩⟩
instance:Inhabited At:=⟨⟨.empty,[],[]⟩⟩
instance:Inhabited aj:=⟨.mk 0 .empty .empty .empty default [] [] []⟩
instance:Inhabited ah:=⟨.mk 0 0 .empty .empty .empty .empty default [] []⟩
def tZ (s:ByteArray):Prop:=s.size<=reachBytes
def iOk (n:Int):Prop:=-9223372036854775808<=n/\n<=9223372036854775807
def Pr.wf (p:Pr):Prop:=tZ p.key/\tZ p.val
def Ci.wf (p:Ci):Prop:=tZ p.key/\tZ p.pre/\tZ p.suf
def At.wf (a:At):Prop:=tZ a.id/\(∀ c∈a.cls,tZ c)/\a.cls.length<=reachBytes/\(∀ p∈a.aJ,p.wf)/\a.aJ.length<=reachBytes
mutual
def aj.wf:aj->Prop
 | .mk k t d ti a ar ci ks=>iOk k/\tZ t/\tZ d/\tZ ti/\a.wf/\(∀ c∈ar,tZ c)/\ar.length<=reachBytes/\(∀ c∈ci,c.wf)/\ci.length<=reachBytes/\aj.qL ks/\ks.length<=reachBytes
def aj.qL:List aj->Prop
 | []=>True
 | x::l=>x.wf/\aj.qL l
end
mutual
def ah.wf:ah->Prop
 | .mk k lv i t d ti a li ks=>iOk k/\iOk lv/\tZ i/\tZ t/\tZ d/\tZ ti/\a.wf/\aj.qL li/\li.length<=reachBytes/\ah.qL ks/\ks.length<=reachBytes
def ah.qL:List ah->Prop
 | []=>True
 | x::l=>x.wf/\ah.qL l
end
theorem aj.oH:∀ (l:List aj),(∀ x∈l,x.wf)->aj.qL l
 | [],_=>by unfold aj.qL;trivial
 | x::l,h=>by unfold aj.qL;exact ⟨h x (by simp),aj.oH l (fun y hy=>h y (by simp [hy]))⟩
theorem ah.oH:∀ (l:List ah),(∀ x∈l,x.wf)->ah.qL l
 | [],_=>by unfold ah.qL;trivial
 | x::l,h=>by unfold ah.qL;exact ⟨h x (by simp),ah.oH l (fun y hy=>h y (by simp [hy]))⟩
theorem FU {n:Int} (h:(Lit.int .i64 n).wf=true):iOk n:=by have:=bounds_i64 h;exact this
section
variable {fuel:Nat} {cs:List jp5} {x:DataW H × List MemPlace}
theorem cS:Tryz.prog.cellsOf 9=1:=by kernel_rfl
theorem cI:Tryz.prog.cellsOf 3=1:=by kernel_rfl
theorem cB:Tryz.prog.cellsOf 4=1:=by kernel_rfl
theorem cP:Tryz.prog.cellsOf 61=2:=by kernel_rfl
theorem cC:Tryz.prog.cellsOf 121=4:=by kernel_rfl
theorem cA:Tryz.prog.cellsOf 45=3:=by kernel_rfl
theorem cIn:Tryz.prog.cellsOf 66=10:=by kernel_rfl
theorem cBl:Tryz.prog.cellsOf 48=11:=by kernel_rfl
theorem cLS:Tryz.prog.cellsOf 43=1:=by kernel_rfl
theorem cLP:Tryz.prog.cellsOf 24=1:=by kernel_rfl
theorem cLC:Tryz.prog.cellsOf 64=1:=by kernel_rfl
theorem cLI:Tryz.prog.cellsOf 46=1:=by kernel_rfl
theorem cLB:Tryz.prog.cellsOf 22=1:=by kernel_rfl
theorem cD:Tryz.prog.cellsOf 26=2:=by kernel_rfl
theorem oI {n k:Nat} (h:n*k<=reachBytes) (hk:1<=k):n<=reachBytes:=Nat.le_trans (Nat.le_mul_of_pos_right n hk) h
theorem yS:1<=Tryz.prog.bytesOf 9:=by decide +kernel
theorem yP:1<=Tryz.prog.bytesOf 61:=by decide +kernel
theorem yC:1<=Tryz.prog.bytesOf 121:=by decide +kernel
theorem yI:1<=Tryz.prog.bytesOf 66:=by decide +kernel
theorem yB:1<=Tryz.prog.bytesOf 48:=by decide +kernel
theorem Iy (h:DataW.trod enc Tryz.prog w base spare held fuel 43 cs=some x) (hw:uN Tryz.prog 43 x.1):∃ l:List ByteArray,(∀ s∈l,tZ s)/\l.length<=reachBytes/\Rd (·<w.heap.size) w (dW l) cs:=by
 obtain ⟨l,h1,h2,h3⟩:=jk D.str tZ Tryz.underlying43 cS (by decide) (fun n cs' y _ hy Iz=>by
  obtain ⟨s,rfl,rfl,hs⟩:=DataW.trod_string Tryz.underlying9 hy;exact ⟨s,Iw Iz,Rd.dP _ _ _⟩) h hw
 exact ⟨l,h1,oI h2 yS,h3⟩
theorem Qp (h:DataW.trod enc Tryz.prog w base spare held fuel 61 cs=some x) (hw:uN Tryz.prog 61 x.1):∃ p:Pr,p.wf/\Rd (·<w.heap.size) w p.d cs:=by
 obtain ⟨xs,n,rfl,JY,hlen,hxl,hf⟩:=DataW.trod_struct Tryz.underlying61 h;rw [JY] at hw;have hwf:=fun i f d=>gK Tryz.underlying61 hw i f d
 rw [cP] at hlen;obtain ⟨c0,c1,rfl⟩:=len2 hlen;have f0:=hf 0 _ rfl;have f1:=hf 1 _ rfl;have hx2:xs.length=2:=by rw [hxl];rfl
 rw [jlz (by omega)] at f0 f1;simp only [cS,List.getElem_toArray,List.getElem_cons_zero,List.getElem_cons_succ,List.drop_zero,List.drop_succ_cons,List.take_succ_cons,List.take_zero] at f0 f1;obtain ⟨s0,e0,x0,_⟩:=DataW.trod_string Tryz.underlying9 f0;have h0:s0.size<=reachBytes:=Iw (P:=Tryz.prog) (t:=9) (by have h':=hwf 0 _ _ rfl (by rw [jn2,jlz (by omega)];rfl);rw [x0] at h';exact h');obtain ⟨s1,e1,x1,_⟩:=DataW.trod_string Tryz.underlying9 f1;have h1:s1.size<=reachBytes:=Iw (P:=Tryz.prog) (t:=9) (by have h':=hwf 1 _ _ rfl (by rw [jn2,jlz (by omega)];rfl);rw [x1] at h';exact h');cases e0;cases e1
 exact ⟨⟨s0,s1⟩,⟨h0,h1⟩,Pr.eH _ _ ⟨s0,s1⟩⟩
theorem Mg (h:DataW.trod enc Tryz.prog w base spare held fuel 121 cs=some x) (hw:uN Tryz.prog 121 x.1):∃ p:Ci,p.wf/\Rd (·<w.heap.size) w p.d cs:=by
 obtain ⟨xs,n,rfl,JY,hlen,hxl,hf⟩:=DataW.trod_struct Tryz.underlying121 h;rw [JY] at hw;have hwf:=fun i f d=>gK Tryz.underlying121 hw i f d
 rw [cC] at hlen;obtain ⟨c0,c1,c2,c3,rfl⟩:=je5 hlen;have f0:=hf 0 _ rfl;have f1:=hf 1 _ rfl;have f2:=hf 2 _ rfl;have f3:=hf 3 _ rfl;have hx2:xs.length=4:=by rw [hxl];rfl
 rw [jlz (by omega)] at f0 f1 f2 f3;simp only [cS,cB,List.getElem_toArray,List.getElem_cons_zero,List.getElem_cons_succ,List.drop_zero,List.drop_succ_cons,List.take_succ_cons,List.take_zero] at f0 f1 f2 f3;obtain ⟨s0,e0,x0,_⟩:=DataW.trod_string Tryz.underlying9 f0;have h0:s0.size<=reachBytes:=Iw (P:=Tryz.prog) (t:=9) (by have h':=hwf 0 _ _ rfl (by rw [jn2,jlz (by omega)];rfl);rw [x0] at h';exact h');obtain ⟨s1,e1,x1,_⟩:=DataW.trod_string Tryz.underlying9 f1;have h1:s1.size<=reachBytes:=Iw (P:=Tryz.prog) (t:=9) (by have h':=hwf 1 _ _ rfl (by rw [jn2,jlz (by omega)];rfl);rw [x1] at h';exact h');obtain ⟨s2,e2,x2,_⟩:=DataW.trod_string Tryz.underlying9 f2;have h2:s2.size<=reachBytes:=Iw (P:=Tryz.prog) (t:=9) (by have h':=hwf 2 _ _ rfl (by rw [jn2,jlz (by omega)];rfl);rw [x2] at h';exact h');obtain ⟨b,e3,_⟩:=DataW.trod_bool Tryz.underlying4 f3;cases e0;cases e1;cases e2;cases e3
 exact ⟨⟨s0,s1,s2,b⟩,⟨h0,h1,h2⟩,Ci.eH _ _ ⟨s0,s1,s2,b⟩⟩
theorem Dp (h:DataW.trod enc Tryz.prog w base spare held fuel 24 cs=some x) (hw:uN Tryz.prog 24 x.1):∃ l:List Pr,(∀ s∈l,s.wf)/\l.length<=reachBytes/\Rd (·<w.heap.size) w (bP l) cs:=by obtain ⟨l,h1,h2,h3⟩:=jk Pr.d Pr.wf Tryz.underlying24 cP (by decide) (fun n cs' y _ hy Iz=>Qp hy Iz) h hw;exact ⟨l,h1,oI h2 yP,h3⟩
theorem Mh (h:DataW.trod enc Tryz.prog w base spare held fuel 64 cs=some x) (hw:uN Tryz.prog 64 x.1):∃ l:List Ci,(∀ s∈l,s.wf)/\l.length<=reachBytes/\Rd (·<w.heap.size) w (JZ l) cs:=by obtain ⟨l,h1,h2,h3⟩:=jk Ci.d Ci.wf Tryz.underlying64 cC (by decide) (fun n cs' y _ hy Iz=>Mg hy Iz) h hw;exact ⟨l,h1,oI h2 yC,h3⟩
theorem IE (h:DataW.trod enc Tryz.prog w base spare held fuel 45 cs=some x) (hw:uN Tryz.prog 45 x.1):∃ (a:At) (vc vp:jp5),a.wf/\cs=[.string a.id,vc,vp]/\AtR (·<w.heap.size) w a vc vp:=by
 obtain ⟨xs,n,rfl,JY,hlen,hxl,hf⟩:=DataW.trod_struct Tryz.underlying45 h;rw [JY] at hw;have hwf:=fun i f d=>gK Tryz.underlying45 hw i f d
 rw [cA] at hlen;obtain ⟨c0,c1,c2,rfl⟩:=je4 hlen;have f0:=hf 0 _ rfl;have f1:=hf 1 _ rfl;have f2:=hf 2 _ rfl;have hx2:xs.length=3:=by rw [hxl];rfl
 rw [jlz (by omega)] at f0 f1 f2;simp only [cS,cLS,cLP,List.getElem_toArray,List.getElem_cons_zero,List.getElem_cons_succ,List.drop_zero,List.drop_succ_cons,List.take_succ_cons,List.take_zero] at f0 f1 f2;obtain ⟨s0,e0,x0,_⟩:=DataW.trod_string Tryz.underlying9 f0;have h0:s0.size<=reachBytes:=Iw (P:=Tryz.prog) (t:=9) (by have h':=hwf 0 _ _ rfl (by rw [jn2,jlz (by omega)];rfl);rw [x0] at h';exact h');obtain ⟨cl,k1,k2,k3⟩:=Iy f1 (hwf 1 _ _ rfl (by rw [jn2,jlz (by omega)];rfl));obtain ⟨pr,m1,m2,m3⟩:=Dp f2 (hwf 2 _ _ rfl (by rw [jn2,jlz (by omega)];rfl));cases e0
 exact ⟨⟨s0,cl,pr⟩,c1,c2,⟨h0,k1,k2,m1,m2⟩,rfl,k3,m3⟩
theorem Vf:∀ (fuel:Nat) (cs:List jp5) (x:DataW H × List MemPlace),DataW.trod enc Tryz.prog w base spare held fuel 66 cs=some x->uN Tryz.prog 66 x.1->∃ p:aj,p.wf/\Rd (·<w.heap.size) w p.d cs:=by
 intro fuel;induction fuel using Nat.strongRecOn with
 | _ fuel ih=>
  intro cs x h hw;obtain ⟨xs,n,rfl,JY,hlen,hxl,hf⟩:=DataW.trod_struct Tryz.underlying66 h;rw [JY] at hw;have hwf:=fun i f d=>gK Tryz.underlying66 hw i f d
  rw [cIn] at hlen;obtain ⟨c0,c1,c2,c3,c4,c5,c6,c7,c8,c9,rfl⟩:=YH hlen;have f0:=hf 0 _ rfl;have f1:=hf 1 _ rfl;have f2:=hf 2 _ rfl;have f3:=hf 3 _ rfl;have f4:=hf 4 _ rfl;have f5:=hf 5 _ rfl;have f6:=hf 6 _ rfl;have f7:=hf 7 _ rfl;have hx2:xs.length=8:=by rw [hxl];rfl
  rw [jlz (by omega)] at f0 f1 f2 f3 f4 f5 f6 f7;simp only [cI,cS,cA,cLS,cLC,cLI,List.getElem_toArray,List.getElem_cons_zero,List.getElem_cons_succ,List.drop_zero,List.drop_succ_cons,List.take_succ_cons,List.take_zero] at f0 f1 f2 f3 f4 f5 f6 f7;obtain ⟨k,e0,_,h0⟩:=DataW.trod_int Tryz.underlying3 f0;obtain ⟨s1,e1,x1,_⟩:=DataW.trod_string Tryz.underlying9 f1;have h1:s1.size<=reachBytes:=Iw (P:=Tryz.prog) (t:=9) (by have h':=hwf 1 _ _ rfl (by rw [jn2,jlz (by omega)];rfl);rw [x1] at h';exact h');obtain ⟨s2,e2,x2,_⟩:=DataW.trod_string Tryz.underlying9 f2;have h2:s2.size<=reachBytes:=Iw (P:=Tryz.prog) (t:=9) (by have h':=hwf 2 _ _ rfl (by rw [jn2,jlz (by omega)];rfl);rw [x2] at h';exact h');obtain ⟨s3,e3,x3,_⟩:=DataW.trod_string Tryz.underlying9 f3;have h3:s3.size<=reachBytes:=Iw (P:=Tryz.prog) (t:=9) (by have h':=hwf 3 _ _ rfl (by rw [jn2,jlz (by omega)];rfl);rw [x3] at h';exact h');obtain ⟨a,vc,vp,h4,e4,hA⟩:=IE f4 (hwf 4 _ _ rfl (by rw [jn2,jlz (by omega)];rfl));obtain ⟨ar,k1,k2,k3⟩:=Iy f5 (hwf 5 _ _ rfl (by rw [jn2,jlz (by omega)];rfl));obtain ⟨ci,m1,m2,m3⟩:=Mh f6 (hwf 6 _ _ rfl (by rw [jn2,jlz (by omega)];rfl));obtain ⟨ks,n1,n2,n3⟩:=jk aj.d aj.wf Tryz.underlying46 cIn (by decide) (fun m cs' y hm hy Iz=>ih m (by omega) cs' y hy Iz) f7 (hwf 7 _ _ rfl (by rw [jn2,jlz (by omega)];rfl));cases e0;cases e1;cases e2;cases e3;cases e4
  exact ⟨.mk k s1 s2 s3 a ar ci ks,by unfold aj.wf;exact ⟨FU h0,h1,h2,h3,h4,k1,k2,m1,m2,aj.oH _ n1,oI n2 yI⟩,aj.eH _ _ _ _ ⟨hA,k3,m3,n3⟩⟩
theorem Qq (h:DataW.trod enc Tryz.prog w base spare held fuel 46 cs=some x) (hw:uN Tryz.prog 46 x.1):∃ l:List aj,aj.qL l/\l.length<=reachBytes/\Rd (·<w.heap.size) w (aX l) cs:=by obtain ⟨ks,n1,n2,n3⟩:=jk aj.d aj.wf Tryz.underlying46 cIn (by decide) (fun m cs' y hm hy Iz=>Vf m cs' y hy Iz) h hw;exact ⟨ks,aj.oH _ n1,oI n2 yI,n3⟩
theorem Vg:∀ (fuel:Nat) (cs:List jp5) (x:DataW H × List MemPlace),DataW.trod enc Tryz.prog w base spare held fuel 48 cs=some x->uN Tryz.prog 48 x.1->∃ p:ah,p.wf/\Rd (·<w.heap.size) w p.d cs:=by
 intro fuel;induction fuel using Nat.strongRecOn with
 | _ fuel ih=>
  intro cs x h hw;obtain ⟨xs,n,rfl,JY,hlen,hxl,hf⟩:=DataW.trod_struct Tryz.underlying48 h;rw [JY] at hw;have hwf:=fun i f d=>gK Tryz.underlying48 hw i f d
  rw [cBl] at hlen;obtain ⟨c0,c1,c2,c3,c4,c5,c6,c7,c8,c9,c10,rfl⟩:=YI hlen;have f0:=hf 0 _ rfl;have f1:=hf 1 _ rfl;have f2:=hf 2 _ rfl;have f3:=hf 3 _ rfl;have f4:=hf 4 _ rfl;have f5:=hf 5 _ rfl;have f6:=hf 6 _ rfl;have f7:=hf 7 _ rfl;have f8:=hf 8 _ rfl;have hx2:xs.length=9:=by rw [hxl];rfl
  rw [jlz (by omega)] at f0 f1 f2 f3 f4 f5 f6 f7 f8;simp only [cI,cS,cA,cLI,cLB,List.getElem_toArray,List.getElem_cons_zero,List.getElem_cons_succ,List.drop_zero,List.drop_succ_cons,List.take_succ_cons,List.take_zero] at f0 f1 f2 f3 f4 f5 f6 f7 f8;obtain ⟨k,e0,_,h0⟩:=DataW.trod_int Tryz.underlying3 f0;obtain ⟨lv,e1,_,h1⟩:=DataW.trod_int Tryz.underlying3 f1;obtain ⟨s2,e2,x2,_⟩:=DataW.trod_string Tryz.underlying9 f2;have h2:s2.size<=reachBytes:=Iw (P:=Tryz.prog) (t:=9) (by have h':=hwf 2 _ _ rfl (by rw [jn2,jlz (by omega)];rfl);rw [x2] at h';exact h');obtain ⟨s3,e3,x3,_⟩:=DataW.trod_string Tryz.underlying9 f3;have h3:s3.size<=reachBytes:=Iw (P:=Tryz.prog) (t:=9) (by have h':=hwf 3 _ _ rfl (by rw [jn2,jlz (by omega)];rfl);rw [x3] at h';exact h');obtain ⟨s4,e4,x4,_⟩:=DataW.trod_string Tryz.underlying9 f4;have h4:s4.size<=reachBytes:=Iw (P:=Tryz.prog) (t:=9) (by have h':=hwf 4 _ _ rfl (by rw [jn2,jlz (by omega)];rfl);rw [x4] at h';exact h');obtain ⟨s5,e5,x5,_⟩:=DataW.trod_string Tryz.underlying9 f5;have h5:s5.size<=reachBytes:=Iw (P:=Tryz.prog) (t:=9) (by have h':=hwf 5 _ _ rfl (by rw [jn2,jlz (by omega)];rfl);rw [x5] at h';exact h');obtain ⟨a,vc,vp,h6,e6,hA⟩:=IE f6 (hwf 6 _ _ rfl (by rw [jn2,jlz (by omega)];rfl));obtain ⟨li,k1,k2,k3⟩:=Qq f7 (hwf 7 _ _ rfl (by rw [jn2,jlz (by omega)];rfl));obtain ⟨ks,n1,n2,n3⟩:=jk ah.d ah.wf Tryz.underlying22 cBl (by decide) (fun m cs' y hm hy Iz=>ih m (by omega) cs' y hy Iz) f8 (hwf 8 _ _ rfl (by rw [jn2,jlz (by omega)];rfl));cases e0;cases e1;cases e2;cases e3;cases e4;cases e5;cases e6
  exact ⟨.mk k lv s2 s3 s4 s5 a li ks,by unfold ah.wf;exact ⟨FU h0,FU h1,h2,h3,h4,h5,h6,k1,k2,ah.oH _ n1,oI n2 yB⟩,ah.eH _ _ _ _ _ _ ⟨hA,k3,n3⟩⟩
theorem Qr (h:DataW.trod enc Tryz.prog w base spare held fuel 22 cs=some x) (hw:uN Tryz.prog 22 x.1):∃ l:List ah,ah.qL l/\l.length<=reachBytes/\Rd (·<w.heap.size) w (fC l) cs:=by obtain ⟨ks,n1,n2,n3⟩:=jk ah.d ah.wf Tryz.underlying22 cBl (by decide) (fun m cs' y hm hy Iz=>Vg m cs' y hy Iz) h hw;exact ⟨ks,ah.oH _ n1,oI n2 yB,n3⟩
theorem Mi (h:DataW.trod enc Tryz.prog w base spare held fuel 26 cs=some x) (hw:uN Tryz.prog 26 x.1):∃ (me:List Pr) (l:List ah) (vm vb:jp5),(∀ p∈me,p.wf)/\me.length<=reachBytes/\ah.qL l/\l.length<=reachBytes/\cs=[vm,vb]/\Rd (·<w.heap.size) w (bP me) [vm]/\Rd (·<w.heap.size) w (fC l) [vb]:=by
 obtain ⟨xs,n,rfl,JY,hlen,hxl,hf⟩:=DataW.trod_struct Tryz.underlying26 h;rw [JY] at hw;have hwf:=fun i f d=>gK Tryz.underlying26 hw i f d
 rw [cD] at hlen;obtain ⟨c0,c1,rfl⟩:=len2 hlen;have f0:=hf 0 _ rfl;have f1:=hf 1 _ rfl;have hx2:xs.length=2:=by rw [hxl];rfl
 rw [jlz (by omega)] at f0 f1;simp only [cLP,cLB,List.getElem_toArray,List.getElem_cons_zero,List.getElem_cons_succ,List.drop_zero,List.drop_succ_cons,List.take_succ_cons,List.take_zero] at f0 f1;obtain ⟨me,k1,k2,k3⟩:=Dp f0 (hwf 0 _ _ rfl (by rw [jn2,jlz (by omega)];rfl));obtain ⟨l,n1,n2,n3⟩:=Qr f1 (hwf 1 _ _ rfl (by rw [jn2,jlz (by omega)];rfl));exact ⟨me,l,c0,c1,k1,k2,n1,n2,rfl,k3,n3⟩
end
end
open Go.RowKit
def At.short (a:At):Prop:=a.cls.length<=40/\a.aJ.length<=40/\a.id.size<=600/\(∀ c∈a.cls,c.size<=600)/\∀ p∈a.aJ,p.key.size<=600/\p.val.size<=600
theorem YJ {α:Type} {P:α->Prop} {l:List α} {k:Nat} {y:α} (hy:l[k]?=some y) (h:∀ x∈l.take k,P x) (h2:P y):∀ x∈l.take (k+1),P x:=by
 rw [List.take_add_one,hy];intro x hx;rcases List.mem_append.1 hx with hx | hx
 ·exact h x hx
 ·simp at hx;rw [hx];exact h2
theorem oJ {ok:Nat->Prop} {w:jp3} {l:List Pr} {a:Option Addr} {cap:Nat} (h:mh ok w 2 (l.map Pr.d) a cap) {k:Nat} {p:Pr} (hk:l[k]?=some p) : ∃ b off,a=some ⟨b,off,none⟩/\ok b/\b<w.heap.size/\w.cell? ⟨b,off+k*2,none⟩=some (.string p.key)/\w.cell? ⟨b,off+k*2+1,none⟩=some (.string p.val):=by
 have hlt:k<l.length:=(List.getElem?_eq_some_iff.1 hk).1;obtain ⟨b,off,ha,hok,hb,hc⟩:=h.at_ (by simpa using Nat.lt_of_le_of_lt (jmk _) hlt)
 obtain ⟨r,hr,hl,hcell⟩:=hc k _ (by rw [jn2,hk];rfl);rw [Pr.open_ hr] at hcell;exact ⟨b,off,ha,hok,hb,hcell 0 _ rfl,by rw [Nat.add_assoc];exact hcell 1 _ rfl⟩
def xY:Nat:=140737488351232
theorem jJ:reachBytes=xY:=by decide
def Lg1 (a:At) (vn vi:jp5):Prop:=∃ k n:Nat,k<=a.cls.length/\vi=.int .i64 k/\vn=.int .i64 n/\n<=xY*(k+1)/\(n<=600->a.id.size<=600/\∀ c∈a.cls.take k,c.size<=600)
def Lg2 (a:At) (w0:jp3) (vn vi:jp5) (wr:jp3):Prop:=∃ k n q:Nat,k<=a.aJ.length/\vi=.int .i64 k/\vn=.int .i64 n/\n<=xY*(41+2*k)/\(n<=600->a.id.size<=600/\(∀ c∈a.cls,c.size<=600)/\∀ p∈a.aJ.take k,p.key.size<=600/\p.val.size<=600)/\wr=w0.drewN q
theorem Dq (a:At) (vc vp:jp5) (w:jp3) (h:AtR (·<w.heap.size) w a vc vp) (hwf:a.wf) : Calls Tryz.prog 75 #[.agg #[.string a.id,vc,vp]] w fun e w'=>∃ b,e=.returned (.bool b)/\(b=false->a.short)/\Below w.heap.size w w':=by
 obtain ⟨w1,w2,w3,w4,w5⟩:=hwf;unfold tZ at w1;rw [jJ] at w1 w3 w5;obtain ⟨ac,cc,YK,hsc⟩:=Rd.aB h.cls;obtain ⟨ap,cp,hvp,hsp⟩:=Rd.aB h.aJ;obtain rfl:vc=.slice ac a.cls.length cc:=by simpa using YK
 obtain rfl:vp=.slice ap a.aJ.length cp:=by simpa using hvp
 have hcl:a.cls.length<=cc:=by simpa using hsc.le
 have hpl:a.aJ.length<=cp:=by simpa using hsp.le
 have hcm:=hsc.max;have hpm:=hsp.max;unfold maxLen at hcm hpm;obtain ⟨w0,hw0⟩:∃ w0,w0=w.alloc (.cells #[.string a.id,.slice ac a.cls.length cc,.slice ap a.aJ.length cp] 45):=⟨_,rfl⟩;have hb0:Below w.heap.size w w0:=by rw [hw0];exact (Below.refl _ _).alloc (Nat.le_refl _) _
 have q0:w0.cell? ⟨w.heap.size,0,none⟩=some (.string a.id):=by rw [hw0];exact FV w [.string a.id,.slice ac a.cls.length cc,.slice ap a.aJ.length cp] _ 0 _ rfl
 have q1:w0.cell? ⟨w.heap.size,1,none⟩=some (.slice ac a.cls.length cc):=by rw [hw0];exact FV w [.string a.id,.slice ac a.cls.length cc,.slice ap a.aJ.length cp] _ 1 _ rfl
 have q2:w0.cell? ⟨w.heap.size,2,none⟩=some (.slice ap a.aJ.length cp):=by rw [hw0];exact FV w [.string a.id,.slice ac a.cls.length cc,.slice ap a.aJ.length cp] _ 2 _ rfl
 have HC:Hid (∀ k y,a.cls[k]?=some y->∃ b off,ac=some ⟨b,off,none⟩/\w0.cell? ⟨b,off+k,none⟩=some (.string y)):=by
  intro k y hy;obtain ⟨b,off,ha,hok,hb,hc⟩:=hsc.at_ (by have:=(List.getElem?_eq_some_iff.1 hy).1;simpa using Nat.lt_of_le_of_lt (jmk _) this)
  obtain ⟨r,hr,hl,hcell⟩:=hc k _ (by rw [jn2,hy];rfl);obtain rfl:=hr.bq;have:=hcell 0 _ rfl;rw [Nat.mul_one,Nat.add_zero] at this;exact ⟨b,off,ha,(iA (hb0.block b hok) _).trans this⟩
 have HP:Hid (∀ k p,a.aJ[k]?=some p->∃ b off,ap=some ⟨b,off,none⟩/\w0.cell? ⟨b,off+k*2,none⟩=some (.string p.key)/\w0.cell? ⟨b,off+k*2+1,none⟩=some (.string p.val)):=by intro k p hp;obtain ⟨b,off,ha,hok,hb,c0,c1⟩:=oJ hsp hp;exact ⟨b,off,ha,(iA (hb0.block b hok) _).trans c0,(iA (hb0.block b hok) _).trans c1⟩
 have HB0:=hid hb0;have W2:=hid w2;have W4:=hid w4;clear h hsc hsp YK hvp w2 w4 hb0;by_cases h40:40<a.cls.length
 ·have e1:decide ((40:Int)<(a.cls.length:Int))=true:=by simp;omega
  clear HC HP W2 W4;go_enter Tryz.func75,Tryz.ntmps75;go_upto_region 2 with (fail)
  rw [<- hw0];clear hw0;go_wp2;go_ret;exact ⟨true,rfl,(fun h=>by cases h),HB0.out⟩
 have e1:decide ((40:Int)<(a.cls.length:Int))=false:=by simp;omega
 by_cases h41:40<a.aJ.length
 ·have e2:decide ((40:Int)<(a.aJ.length:Int))=true:=by simp;omega
  clear HC HP W2 W4;go_enter Tryz.func75,Tryz.ntmps75;go_upto_region 2 with (fail)
  rw [<- hw0];clear hw0;go_wp2;go_ret;exact ⟨true,rfl,(fun h=>by cases h),HB0.out⟩
 have e2:decide ((40:Int)<(a.aJ.length:Int))=false:=by simp;omega
 have R1:Hid (Lg1 a (.int .i64 a.id.size) (.int .i64 0)):=⟨0,a.id.size,jmk _,rfl,rfl,by omega,fun h=>⟨h,by simp⟩⟩;go_enter Tryz.func75,Tryz.ntmps75;go_upto_region 2 with (fail)
 rw [<- hw0];clear hw0;go_wp2
 go_loop [3,4] (fun vn vi=>Lg1 a vn vi) (fun _ i=>a.cls.length-(intOf i).toNat)
 case atStart=>exact R1.out
 case round=>
  clear R1;obtain ⟨k,n,hk,rfl,rfl,hn,hall⟩:=hrel;have HA:=hid hall;clear hall;unfold xY at hn w1;by_cases hlt:k<a.cls.length
  ·obtain ⟨y,hy⟩:∃ y,a.cls[k]?=some y:=⟨_,jlz hlt⟩;obtain ⟨b,off,rfl,c0⟩:=HC.out k y hy;have hys:y.size<=140737488351232:=by have:=W2.out y (jmq hy);unfold tZ at this;rw [jJ] at this;exact this
   have HY:=hid hy;clear hy;go_wp2
   go_round
   case rel=>
    refine ⟨k+1,n+y.size,by omega,by go_num,by go_num,by unfold xY;omega,fun h6=>?_⟩;obtain ⟨i1,i2⟩:=HA.out (by omega);exact ⟨i1,YJ HY.out i2 (by omega)⟩
   case measure=>simp [intOf];omega
  ·have hkl:k=a.cls.length:=by omega
   subst hkl;have R2:Hid (Lg2 a w0 (.int .i64 n) (.int .i64 0) w0):=⟨0,n,0,jmk _,rfl,rfl,by unfold xY;omega,fun h=>by
    obtain ⟨i1,i2⟩:=HA.out h;rw [jn6] at i2;exact ⟨i1,i2,by simp⟩,rfl⟩
   clear HA;go_wp2
   go_loopw [3,5] (fun vn vi wr=>Lg2 a w0 vn vi wr) (fun _ i _=>a.aJ.length-(intOf i).toNat)
   case atStart=>exact R2.out
   case round=>
    clear R2;obtain ⟨k,n,q,hk,rfl,rfl,hn,hall,rfl⟩:=hrel;have HA:=hid hall;clear hall;unfold xY at hn;by_cases hlt:k<a.aJ.length
    ·obtain ⟨p,hp⟩:∃ p,a.aJ[k]?=some p:=⟨_,jlz hlt⟩;obtain ⟨b,off,rfl,c0,c1⟩:=HP.out k p hp;obtain ⟨hy1,hy2⟩:p.key.size<=140737488351232/\p.val.size<=140737488351232:=by have:=W4.out p (jmq hp);unfold Pr.wf tZ at this;rw [jJ] at this;exact this
     have HY:=hid hp;clear hp;obtain ⟨py,pv⟩:=p;dsimp only at c0 c1 hy1 hy2;go_wp2_with fail
     go_quiet (fail)
     go_wp2;go_roundw;case rel=>
      refine ⟨k+1,n+(py.size+pv.size),q+nq,by omega,by go_num,by go_num,by unfold xY;omega,fun h6=>?_,rfl⟩;obtain ⟨i1,i2,i3⟩:=HA.out (by omega);exact ⟨i1,i2,YJ HY.out i3 ⟨by show py.size<=600;omega,by show pv.size<=600;omega⟩⟩
     case measure=>simp [intOf];omega
    ·have hkl:k=a.aJ.length:=by omega
     subst hkl;by_cases h6:600<n
     ·have e3:decide ((600:Int)<(n:Int))=true:=by simp;omega
      go_wp2;go_ret;exact ⟨true,rfl,(fun h=>by cases h),dO HB0.out q⟩
     ·have e3:decide ((600:Int)<(n:Int))=false:=by simp;omega
      go_wp2;go_ret;refine ⟨false,rfl,fun _=>?_,dO HB0.out q⟩;obtain ⟨i1,i2,i3⟩:=HA.out (by omega);rw [jn6] at i3;exact ⟨by omega,by omega,i1,i2,i3⟩
open Go.RowKit
mutual
def aj.small:aj->Prop
 | .mk k t d ti a ar ci ks=>t.size<=300/\d.size<=300/\ti.size<=300/\a.short/\ar.length<=9/\ci.length<=9/\(∀ c∈ar,c.size<=5000)/\(∀ c∈ci,c.key.size<=5000/\c.pre.size<=5000/\c.suf.size<=5000)/\aj.aF ks
def aj.aF:List aj->Prop
 | []=>True
 | x::l=>x.small/\aj.aF l
end
theorem aj.jl:∀ (l m:List aj),aj.aF l->aj.aF m->aj.aF (l++m)
 | [],m,_,h=>h
 | x::l,m,h,h2=>by unfold aj.aF at h;rw [List.cons_append];unfold aj.aF;exact ⟨h.1,aj.jl l m h.2 h2⟩
theorem aj.iC {l:List aj} {k:Nat} {x:aj} (hx:l[k]?=some x) (h:aj.aF (l.take k)) (h2:x.small):aj.aF (l.take (k+1)):=by rw [List.take_add_one,hx];exact aj.jl _ _ h (by unfold Option.toList aj.aF;exact ⟨h2,by unfold aj.aF;trivial⟩)
theorem aj.pQ (l m:List aj):aj.aR (l++m)=aj.aR l+aj.aR m:=by
 induction l with
 | nil=>rw [aj.aR];simp
 | cons x l ih=>rw [List.cons_append,aj.aR,aj.aR,ih];omega
theorem aj.uO {l:List aj} {k:Nat} {x:aj} (hx:l[k]?=some x):aj.aR (l.take (k+1))=aj.aR (l.take k)+x.sz:=by rw [List.take_add_one,hx,aj.pQ];simp [aj.aR]
theorem aj.pR:∀ {l:List aj} {k:Nat} {x:aj},aj.qL l->l[k]?=some x->x.wf
 | [],_,_,_,h=>by simp at h
 | y::l,0,x,hw,h=>by unfold aj.qL at hw;simp at h;subst h;exact hw.1
 | y::l,k+1,x,hw,h=>by unfold aj.qL at hw;exact aj.pR hw.2 (by simpa using h)
theorem Rd.om {ok:Nat->Prop} {w:jp3} {k:Nat} {l:List D} {v:jp5} (h:Rd ok w (.sl k l) [v]):∃ a n c,v=.slice a n c:=by obtain ⟨a',c',h',_⟩:=Rd.aB h;exact ⟨_,_,_,by simpa using h'⟩
theorem Rd.up {w w':jp3} {d:D} {cs:List jp5} (h:Rd (·<w.heap.size) w d cs) (hb:Below w.heap.size w w'):Rd (·<w'.heap.size) w' d cs:=
 Rd.keep (fun b h1 h2=>⟨Nat.lt_of_lt_of_le h2 hb.size,hb.block b h1⟩) _ _ h
theorem AtR.up {w w':jp3} {a:At} {vc vp:jp5} (h:AtR (·<w.heap.size) w a vc vp) (hb:Below w.heap.size w w'):AtR (·<w'.heap.size) w' a vc vp:=⟨h.cls.up hb,h.aJ.up hb⟩
theorem fK.at2 {w w':jp3} {b o:Nat} {k:Int} {t d ti id:ByteArray} {vc vp va vi vk:jp5} (h:fK w b o k t d ti id vc vp va vi vk) (hb:w'.heap[b]?=w.heap[b]?):fK w' b o k t d ti id vc vp va vi vk:=by obtain ⟨c0,c1,c2,c3,c4,c5,c6,c7,c8,c9⟩:=h;exact ⟨(iA hb _).trans c0,(iA hb _).trans c1,(iA hb _).trans c2,(iA hb _).trans c3,(iA hb _).trans c4,(iA hb _).trans c5,(iA hb _).trans c6,(iA hb _).trans c7,(iA hb _).trans c8,(iA hb _).trans c9⟩
def CB (T:TypeId) (p:Nat) (cs:List jp5) (w:jp3):Prop:=w.heap[p]?=some (.cells cs.toArray T (0,0))
section
variable {T:TypeId} {p:Nat} {cs:List jp5} {w w':jp3}
theorem CB.cell (h:CB T p cs w) (j:Nat) (u:jp5) (hu:cs[j]?=some u):w.cell? ⟨p,j,none⟩=some u:=by unfold CB at h;simp [World.cell?,h,hu]
theorem CB.lt (h:CB T p cs w):p<w.heap.size:=by unfold CB at h;exact (Array.getElem?_eq_some_iff.1 h).1
theorem CB.below (h:CB T p cs w) (hb:Below w.heap.size w w'):CB T p cs w':=(hb.block p h.lt).trans h
theorem CB.new (T:TypeId) (cs:List jp5) (w:jp3):CB T w.heap.size cs (w.alloc (.cells cs.toArray T)):=heap_alloc_new w _
end
theorem AL {ok:Nat->Prop} {w:jp3} {l:List Ci} {a:Option Addr} {cap:Nat} (h:mh ok w 4 (l.map Ci.d) a cap) {k:Nat} {p:Ci} (hk:l[k]?=some p) : ∃ b off,a=some ⟨b,off,none⟩/\ok b/\b<w.heap.size/\w.cell? ⟨b,off+k*4,none⟩=some (.string p.key)/\w.cell? ⟨b,off+k*4+1,none⟩=some (.string p.pre)/\w.cell? ⟨b,off+k*4+2,none⟩=some (.string p.suf)/\w.cell? ⟨b,off+k*4+3,none⟩=some (.bool p.bare):=by
 have hlt:k<l.length:=(List.getElem?_eq_some_iff.1 hk).1;obtain ⟨b,off,ha,hok,hb,hc⟩:=h.at_ (by simpa using Nat.lt_of_le_of_lt (jmk _) hlt)
 obtain ⟨r,hr,hl,hcell⟩:=hc k _ (by rw [jn2,hk];rfl);rw [Ci.open_ hr] at hcell;exact ⟨b,off,ha,hok,hb,hcell 0 _ rfl,by rw [Nat.add_assoc];exact hcell 1 _ rfl,by rw [Nat.add_assoc];exact hcell 2 _ rfl,by rw [Nat.add_assoc];exact hcell 3 _ rfl⟩
theorem lq {ok:Nat->Prop} {w:jp3} {l:List ByteArray} {a:Option Addr} {cap:Nat} (h:mh ok w 1 (l.map D.str) a cap) {k:Nat} {y:ByteArray} (hy:l[k]?=some y) : ∃ b off,a=some ⟨b,off,none⟩/\ok b/\b<w.heap.size/\w.cell? ⟨b,off+k,none⟩=some (.string y):=by
 obtain ⟨b,off,ha,hok,hb,hc⟩:=h.at_ (by have:=(List.getElem?_eq_some_iff.1 hy).1;simpa using Nat.lt_of_le_of_lt (jmk _) this)
 obtain ⟨r,hr,hl,hcell⟩:=hc k _ (by rw [jn2,hy];rfl);obtain rfl:=hr.bq;have:=hcell 0 _ rfl;rw [Nat.mul_one,Nat.add_zero] at this;exact ⟨b,off,ha,hok,hb,this⟩
def IG (dp:Nat):Nat:=(22-dp)*140737488355328
def Vh (w:jp3) (l:List aj) (dp:Nat) (e:Ending) (w':jp3):Prop:=
 ∃ m:Nat,e=.returned (.int .i64 m)/\m<=IG dp/\(m<=120->aj.aF l/\aj.aR l<=m)/\Below w.heap.size w w'
def Td (w:jp3) (l:List aj) (dp:Nat) (vn vi:jp5) (wr:jp3):Prop:=
 ∃ k n:Nat,k<=l.length/\vi=.int .i64 k/\vn=.int .i64 n/\n<=IG dp/\(n<=120->aj.aF (l.take k)/\aj.aR (l.take k)+(l.length-k)<=n)/\Below w.heap.size w wr
def Wt2 (n:Nat) (ar:List ByteArray) (vn vj:jp5):Prop:=∃ j m:Nat,j<=ar.length/\vj=.int .i64 j/\vn=.int .i64 m/\n<=m/\m<=n+j*3518437208781/\(m<=120->∀ c∈ar.take j,c.size<=5000)
def Wt3 (n:Nat) (ci:List Ci) (w0:jp3) (vn vj:jp5) (wr:jp3):Prop:=∃ j m:Nat,j<=ci.length/\vj=.int .i64 j/\vn=.int .i64 m/\n<=m/\m<=n+j*10555311626343/\(m<=120->∀ c∈ci.take j,c.key.size<=5000/\c.pre.size<=5000/\c.suf.size<=5000)/\Below w0.heap.size w0 wr
theorem FW (n:Nat):∀ (l:List aj) (dp:Nat) (v:jp5) (w:jp3),aj.aR l<=n->dp<=21->Rd (·<w.heap.size) w (aX l) [v]->aj.qL l -> Calls Tryz.prog 76 #[v,.int .i64 dp] w (Vh w l dp):=by
 induction n using Nat.strongRecOn with
 | _ n ih=>
  intro l dp v w hn hdp hrd hwf;obtain ⟨a,cap,hv,hs⟩:=Rd.aB hrd;obtain rfl:v=.slice a l.length cap:=by simpa using hv
  have hcap:l.length<=cap:=by simpa using hs.le
  have hmx:=hs.max;unfold maxLen at hmx;have HS:=hid hs;have IH:=hid ih;have LW:=hid hwf;clear hs hv hrd ih hwf;by_cases hd:20<dp
  ·have e1:decide ((20:Int)<(dp:Int))=true:=by simp;omega
   clear HS IH LW;go_enter Tryz.func76,Tryz.ntmps76;go_wp2;go_ret;exact ⟨1000,rfl,by unfold IG;omega,(fun h=>by omega),Below.refl _ _⟩
  have e1:decide ((20:Int)<(dp:Int))=false:=by simp;omega
  by_cases h2:200<l.length
  ·have e2:decide ((200:Int)<(l.length:Int))=true:=by simp;omega
   clear HS IH LW;go_enter Tryz.func76,Tryz.ntmps76;go_wp2;go_ret;exact ⟨1000,rfl,by unfold IG;omega,(fun h=>by omega),Below.refl _ _⟩
  have e2:decide ((200:Int)<(l.length:Int))=false:=by simp;omega
  have R0:Hid (Td w l dp (.int .i64 l.length) (.int .i64 0) w):=⟨0,l.length,jmk _,rfl,rfl,by unfold IG;omega,(fun _=>⟨by rw [List.take_zero];unfold aj.aF;trivial,by rw [List.take_zero,aj.aR];omega⟩),Below.refl _ _⟩;go_enter Tryz.func76,Tryz.ntmps76;go_wp2
  go_loopw [5,6] (fun vn vi wr=>Td w l dp vn vi wr) (fun _ i _=>l.length-(intOf i).toNat)
  case atStart=>exact R0.out
  case round=>
   clear R0;obtain ⟨k,m,hk,rfl,rfl,hm,hall,hbel⟩:=hrel;have uP:=hid hall;have dD:=hid hbel;clear hall hbel;unfold IG at hm;by_cases hlt:k<l.length
   ·by_cases hm1:m<1000
    ·have e3:decide ((m:Int)<(1000:Int))=true:=by simp;omega
     obtain ⟨x,hx⟩:∃ x,l[k]?=some x:=⟨_,jlz hlt⟩;obtain ⟨kd,t,d,ti,at_,ar,ci,ks⟩:=x;obtain ⟨g,off,vc,vp,va,vi,vk,rfl,hok,hbl,hc,hR⟩:=fJ HS.out hx;have hx2:=aj.pR LW.out hx;unfold aj.wf tZ at hx2;obtain ⟨x1,x2,x3,x4,x5,x6,x7,x8,x9,x10,x11⟩:=hx2;rw [jJ] at x2 x3 x4 x7 x9;unfold xY at x2 x3 x4 x7 x9;have hsz:=aj.bg l k _ hx;rw [aj.sz] at hsz;obtain ⟨aa,ca,hva,hsa⟩:=Rd.aB hR.args;obtain ⟨ai,oK,YL,hsi⟩:=Rd.aB hR.dG;obtain ⟨ac,nc,cc,rfl⟩:=Rd.om hR.at_.cls
     obtain ⟨ap,np,cp,rfl⟩:=Rd.om hR.at_.aJ
     obtain ⟨ak,nk,ck,rfl⟩:=Rd.om hR.kids;obtain rfl:va=.slice aa ar.length ca:=by simpa using hva
     obtain rfl:vi=.slice ai ci.length oK:=by simpa using YL
     have hca:ar.length<=ca:=by simpa using hsa.le
     have hci:ci.length<=oK:=by simpa using hsi.le
     have je7:=hsa.max;have je8:=hsi.max;unfold maxLen at je7 je8;obtain ⟨c0,c1,c2,c3,c4,c5,c6,c7,c8,c9⟩:=hc.at2 (w':=wr) (dD.out.block g hok);have HR:=hid hR;have HSA:=hid hsa;have XV:=hid hsi;have HX:=hid hx;have X5:=hid x5;have X6:=hid x6;have X8:=hid x8;have X10:=hid x10;clear hc hR hsa hsi hx x1 x5 x6 x8 x10 x11 hva YL;go_upto_region 8 with (fail)
     obtain ⟨wa,Qs⟩:∃ wa,wa=wr.alloc (.cells #[.int .i64 kd,.string t,.string d,.string ti,.string at_.id,.slice ac nc cc,.slice ap np cp,.slice aa ar.length ca,.slice ai ci.length oK,.slice ak nk ck] 66):=⟨_,rfl⟩;have hcb:CB 66 wr.heap.size [.int .i64 kd,.string t,.string d,.string ti,.string at_.id,.slice ac nc cc,.slice ap np cp,.slice aa ar.length ca,.slice ai ci.length oK,.slice ak nk ck] wa:=by rw [Qs];exact CB.new _ _ _
     have hba:Below w.heap.size w wa:=by rw [Qs];exact dD.out.alloc dD.out.size _
     rw [<- Qs];clear Qs c0 c1 c2 c3 c4 c5 c6 c7 c8 c9;have d1:=hcb.cell 1 _ rfl;have d2:=hcb.cell 2 _ rfl;have d3:=hcb.cell 3 _ rfl;have d4:=hcb.cell 4 _ rfl;have d5:=hcb.cell 5 _ rfl;have d6:=hcb.cell 6 _ rfl;have d7:=hcb.cell 7 _ rfl;have d8:=hcb.cell 8 _ rfl;have PU:=hid hcb;have zh:=hid hba;have LG:=hid (Dq at_ _ _ wa (HR.out.at_.up hba) X5.out);clear hcb hba;by_cases h3:300<t.size+d.size+ti.size
     ·have e4:decide ((300:Int)<(t.size:Int)+(d.size:Int)+(ti.size:Int))=true:=by simp;omega
      go_wp2;go_ret;exact ⟨1000,rfl,by unfold IG;omega,(fun h=>by omega),zh.out⟩
     have e4:decide ((300:Int)<(t.size:Int)+(d.size:Int)+(ti.size:Int))=false:=by simp;omega
     go_wp2_with fail
     refine LG.out.mono ?_;rintro e wb ⟨b,rfl,hsh,hbb⟩;have Mj:=aP zh.out hbb;have AO:=PU.out.below hbb;have d7:=AO.cell 7 _ rfl;have d8:=AO.cell 8 _ rfl;have YM:=hid hsh;have xM:=hid Mj;have Qt:=hid AO;clear LG zh PU d1 d2 d3 d4 d5 d6 hsh hbb Mj AO;cases b with
     | true=>
      go_wp2;go_ret;exact ⟨1000,rfl,by unfold IG;omega,(fun h=>by omega),xM.out⟩
     | false=>
     by_cases h4:9<ar.length
     ·have e5:decide ((9:Int)<(ar.length:Int))=true:=by simp;omega
      go_wp2;go_ret;exact ⟨1000,rfl,by unfold IG;omega,(fun h=>by omega),xM.out⟩
     have e5:decide ((9:Int)<(ar.length:Int))=false:=by simp;omega
     by_cases h5:9<ci.length
     ·have e6:decide ((9:Int)<(ci.length:Int))=true:=by simp;omega
      go_wp2;go_ret;exact ⟨1000,rfl,by unfold IG;omega,(fun h=>by omega),xM.out⟩
     have e6:decide ((9:Int)<(ci.length:Int))=false:=by simp;omega
     have R2:Hid (Wt2 m ar (.int .i64 m) (.int .i64 0)):=⟨0,m,jmk _,rfl,rfl,Nat.le_refl _,by omega,(fun _=>by simp)⟩;have Te:Hid (∀ j y,ar[j]?=some y->∃ b off,aa=some ⟨b,off,none⟩/\wb.cell? ⟨b,off+j,none⟩=some (.string y)/\y.size<=140737488351232):=by intro j y hy;obtain ⟨b,off,h1,h2,h3,h4⟩:=lq HSA.out hy;exact ⟨b,off,h1,(iA (xM.out.block b h2) _).trans h4,by have:=X6.out y (jmq hy);rw [jJ] at this;exact this⟩
     go_wp2
     go_loop [5,8] (fun vn vj=>Wt2 m ar vn vj) (fun _ j=>ar.length-(intOf j).toNat)
     case atStart=>exact R2.out
     case round=>
      clear R2;obtain ⟨j,m2,hj,rfl,rfl,hm2,PV,Tf⟩:=hrel;have HA2:=hid Tf;clear Tf;by_cases hjl:j<ar.length
      ·obtain ⟨y,hy⟩:∃ y,ar[j]?=some y:=⟨_,jlz hjl⟩;obtain ⟨b,off2,rfl,cy,hys⟩:=Te.out j y hy;have HY:=hid hy;clear hy;go_wp2
       go_round
       case rel=>
        refine ⟨j+1,m2+y.size/40,by omega,by go_num,by go_num,by omega,by omega,fun h6=>?_⟩;exact YJ HY.out (HA2.out (by omega)) (by omega)
       case measure=>simp [intOf];omega
      ·have je9:j=ar.length:=by omega
       subst je9;have HA3:Hid (m2<=120->∀ c∈ar,c.size<=5000):=fun h=>by have:=HA2.out h;rwa [jn6] at this
       have R3:Hid (Wt3 m2 ci wb (.int .i64 m2) (.int .i64 0) wb):=⟨0,m2,jmk _,rfl,rfl,Nat.le_refl _,by omega,(fun _=>by simp),Below.refl _ _⟩;clear HA2 Te;have HCI:Hid (∀ j y,ci[j]?=some y->∃ b off,ai=some ⟨b,off,none⟩/\b<wb.heap.size/\wb.cell? ⟨b,off+j*4,none⟩=some (.string y.key)/\wb.cell? ⟨b,off+j*4+1,none⟩=some (.string y.pre)/\wb.cell? ⟨b,off+j*4+2,none⟩=some (.string y.suf)/\wb.cell? ⟨b,off+j*4+3,none⟩=some (.bool y.bare)/\y.key.size<=140737488351232/\y.pre.size<=140737488351232/\y.suf.size<=140737488351232):=by intro j y hy;obtain ⟨b,off,h1,h2,h3,k0,k1,k2,k3⟩:=AL XV.out hy;have hw:=X8.out y (jmq hy);unfold Ci.wf tZ at hw;rw [jJ] at hw;have hs:=iA (xM.out.block b h2);exact ⟨b,off,h1,Nat.lt_of_lt_of_le h3 xM.out.size,(hs _).trans k0,(hs _).trans k1,(hs _).trans k2,(hs _).trans k3,hw⟩
       go_wp2
       go_loopw [5,9] (fun vn vj wz=>Wt3 m2 ci wb vn vj wz) (fun _ j _=>ci.length-(intOf j).toNat)
       case atStart=>exact R3.out
       case round=>
        clear R3;obtain ⟨j,m4,hj,rfl,rfl,P5,hm5,Tg,hb3⟩:=hrel;have HA4:=hid Tg;have HB3:=hid hb3;have Mk:=Qt.out.below hb3;have f8:=Mk.cell 8 _ rfl;have f9:=Mk.cell 9 _ rfl;have hlt3:=Mk.lt;have jk2:=hid Mk;clear Tg hb3 Mk;by_cases hjl:j<ci.length
        ·obtain ⟨y,hy⟩:∃ y,ci[j]?=some y:=⟨_,jlz hjl⟩;obtain ⟨b,off2,rfl,J2,k0,k1,k2,k3,s0,s1,s2⟩:=HCI.out j y hy;have hs:=iA (HB3.out.block b J2);have k0:=(hs _).trans k0;have k1:=(hs _).trans k1;have k2:=(hs _).trans k2;have k3:=(hs _).trans k3;have HY:=hid hy;obtain ⟨yk,yp,ys,yb⟩:=y;dsimp only at k0 k1 k2 k3 s0 s1 s2;clear hy hs;go_wp2;go_roundw;case rel=>
          refine ⟨j+1,m4+(yk.size+yp.size+ys.size)/40,by omega,by go_num,by go_num,by omega,by omega,fun h6=>?_,HB3.out.alloc HB3.out.size _⟩;exact YJ HY.out (HA4.out (by omega)) ⟨by show yk.size<=5000;omega,by show yp.size<=5000;omega,by show ys.size<=5000;omega⟩
         case measure=>simp [intOf];omega
        ·have jej:j=ci.length:=by omega
         subst jej;have HA5:Hid (m4<=120->∀ c∈ci,c.key.size<=5000/\c.pre.size<=5000/\c.suf.size<=5000):=fun h=>by have:=HA4.out h;rwa [jn6] at this
         have hb4:=hid (aP xM.out HB3.out);have RC:=hid (IH.out (aj.aR ks) (by omega) ks (dp+1) (.slice ak nk ck) wr (Nat.le_refl _) (by omega) (HR.out.kids.up hb4.out) X10.out);clear HA4 HCI;go_wp2_with fail
         refine RC.out.mono ?_;rintro e w5 ⟨wk,rfl,hwk,uQ,hb5⟩;have HW2:=hid uQ;have qM:=hid (aP hb4.out hb5);unfold IG at hwk;clear uQ hb5 RC;go_wp2;go_roundw;case rel=>
          refine ⟨k+1,m4+wk,by omega,by go_num,by go_num,by unfold IG;omega,(fun h=>?_),qM.out⟩;obtain ⟨i1,i2⟩:=uP.out (by omega);obtain ⟨j1,j2⟩:=HW2.out (by omega);have hsn:=aj.uO HX.out;rw [aj.sz] at hsn;refine ⟨aj.iC HX.out i1 (by unfold aj.small;exact ⟨by omega,by omega,by omega,YM.out trivial,by omega,by omega,HA3.out (by omega),HA5.out (by omega),j1⟩),by omega⟩
         case measure=>simp [intOf];omega
    ·have e3:decide ((m:Int)<(1000:Int))=false:=by simp;omega
     clear HS IH LW;go_wp2;go_ret;exact ⟨m,rfl,by unfold IG;omega,(fun h=>by omega),dD.out⟩
   ·have hkl:k=l.length:=by omega
    subst hkl;clear HS IH LW;go_wp2;go_ret;refine ⟨m,rfl,by unfold IG;omega,(fun h=>?_),dD.out⟩;have:=uP.out h;rw [jn6] at this;exact ⟨this.1,by omega⟩
def D.hd:D->Bool
 | .int _ _=>true
 | .bool _=>true
 | .str _=>true
 | .st (.int _ _::_)=>true
 | .st (.str _::_)=>true
 | _=>false
mutual
def D.good:D->Bool
 | .int _ _=>true
 | .bool _=>true
 | .str _=>true
 | .st fs=>D.dh fs
 | .sl _ l=>l.all D.hd&&D.dh l
def D.dh:List D->Bool
 | []=>true
 | d::ds=>d.good&&D.dh ds
end
def Vi (u:jp5):Prop:=∀ a n c,u≠.slice a n c
theorem Qu {ok:Nat->Prop} {w:jp3} {d:D} {cs:List jp5} (h:Rd ok w d cs) (hd:d.hd=true):∃ u rest,cs=u::rest/\Vi u:=by
 unfold D.hd at hd;split at hd
 ·unfold Rd at h;exact ⟨_,_,h,fun _ _ _ e=>by cases e⟩
 ·unfold Rd at h;exact ⟨_,_,h,fun _ _ _ e=>by cases e⟩
 ·unfold Rd at h;exact ⟨_,_,h,fun _ _ _ e=>by cases e⟩
 ·unfold Rd at h;obtain ⟨rows,hr,rfl⟩:=h;obtain ⟨r,rs,rfl,h1,-⟩:=hr.aC;unfold Rd at h1;subst h1;exact ⟨_,_,rfl,fun _ _ _ e=>by cases e⟩
 ·unfold Rd at h;obtain ⟨rows,hr,rfl⟩:=h;obtain ⟨r,rs,rfl,h1,-⟩:=hr.aC;unfold Rd at h1;subst h1;exact ⟨_,_,rfl,fun _ _ _ e=>by cases e⟩
 ·cases hd
mutual
theorem Rd.avoid {ok:Nat->Prop} {w:jp3} {p:Nat} (hp:∀ j u,w.cell? ⟨p,j,none⟩=some u->∃ a n c,u=.slice a n c):∀ (d:D) (cs:List jp5),d.good=true->Rd ok w d cs->Rd (fun b=>ok b/\b≠p) w d cs
 | .int _ _,_,_,h=>by unfold Rd at h ⊢;exact h
 | .bool _,_,_,h=>by unfold Rd at h ⊢;exact h
 | .str _,_,_,h=>by unfold Rd at h ⊢;exact h
 | .st fs,_,hg,h=>by
  rw [D.good] at hg;unfold Rd at h ⊢;obtain ⟨rows,hr,hc⟩:=h;exact ⟨rows,aH.avoid hp fs rows hg hr,hc⟩
 | .sl k l,_,hg,h=>by
  rw [D.good,Bool.and_eq_true] at hg;unfold Rd at h ⊢;obtain ⟨a,cap,rows,h1,h2,h3,h4,h5,h6⟩:=h;refine ⟨a,cap,rows,h1,h2,h3,aH.avoid hp l rows hg.2 h4,h5,?_⟩;cases l with
  | nil=>exact .inl rfl
  | cons d ds=>
   rcases h6 with h6 | ⟨b,off,h7,h8,hb,h9⟩
   ·exact .inl h6
   ·refine .inr ⟨b,off,h7,⟨h8,fun e=>?_⟩,hb,h9⟩;subst e;obtain ⟨r,rs,rfl,h10,-⟩:=h4.aC;have hh:d.hd=true:=by simpa using (List.all_eq_true.1 hg.1) d (by simp)
    obtain ⟨u,rest,rfl,hu⟩:=Qu h10 hh;obtain ⟨a',n',c',rfl⟩:=hp _ u (h9 0 u (by simp));exact hu _ _ _ rfl
theorem aH.avoid {ok:Nat->Prop} {w:jp3} {p:Nat} (hp:∀ j u,w.cell? ⟨p,j,none⟩=some u->∃ a n c,u=.slice a n c):∀ (l:List D) (rows:List (List jp5)),D.dh l=true->aH ok w l rows->aH (fun b=>ok b/\b≠p) w l rows
 | [],_,_,h=>by unfold aH at h ⊢;exact h
 | d::ds,_,hg,h=>by
  rw [D.dh,Bool.and_eq_true] at hg;unfold aH at h ⊢;obtain ⟨r,rs,h1,h2,h3⟩:=h;exact ⟨r,rs,h1,Rd.avoid hp d r hg.1 h2,aH.avoid hp ds rs hg.2 h3⟩
end
theorem zi (l:List ByteArray):(dW l).good=true:=by
 unfold dW;rw [D.good,Bool.and_eq_true];refine ⟨by simp [D.hd],?_⟩;induction l with
 | nil=>rfl
 | cons x l ih=>rw [List.map_cons,D.dh,D.good,ih];rfl
theorem J3 (l:List Pr):(D.sl 2 (l.map Pr.d)).good=true:=by
 rw [D.good,Bool.and_eq_true];refine ⟨by simp [Pr.d,D.hd],?_⟩;induction l with
 | nil=>rfl
 | cons x l ih=>rw [List.map_cons,D.dh,ih];unfold Pr.d;simp [D.good,D.dh]
theorem J4 (l:List Ci):(D.sl 4 (l.map Ci.d)).good=true:=by
 rw [D.good,Bool.and_eq_true];refine ⟨by simp [Ci.d,D.hd],?_⟩;induction l with
 | nil=>rfl
 | cons x l ih=>rw [List.map_cons,D.dh,ih];unfold Ci.d;simp [D.good,D.dh]
theorem II (a:At):(D.st a.ds).good=true:=by unfold At.ds;rw [D.good,D.dh,D.dh,D.dh,D.dh,zi,J3,D.good];rfl
theorem Ml (x:aj):x.d.hd=true:=by cases x;unfold aj.d;rfl
theorem Mq (x:ah):x.d.hd=true:=by cases x;unfold ah.d;rfl
mutual
theorem aj.good:∀ (x:aj),x.d.good=true
 | .mk k t d ti a ar ci ks=>by
  have h:=aj.dh ks;unfold aj.d;have h2:=J4 ci;have h3:=II a;rw [D.good] at h2;rw [D.good] at h3;simp only [D.good,D.dh,h2,h3,zi,aj.gL,h,Bool.and_true,Bool.true_and];simp [Ml]
theorem aj.dh:∀ (l:List aj),D.dh (l.map aj.d)=true
 | []=>rfl
 | x::l=>by rw [List.map_cons,D.dh,aj.good x,aj.dh l];rfl
end
mutual
theorem ah.good:∀ (x:ah),x.d.good=true
 | .mk k lv i t d ti a li ks=>by
  have h:=ah.dh ks;have h1:=aj.dh li;have h3:=II a;rw [D.good] at h3;unfold ah.d;simp only [D.good,D.dh,ah.gL,h,h1,h3,Bool.and_true,Bool.true_and];simp [Ml,Mq]
theorem ah.dh:∀ (l:List ah),D.dh (l.map ah.d)=true
 | []=>rfl
 | x::l=>by rw [List.map_cons,D.dh,ah.good x,ah.dh l];rfl
end
theorem J5 (l:List ah):(fC l).good=true:=by unfold fC;rw [D.good,ah.dh];simp [Mq]
theorem Rd.J6 {ok:Nat->Prop} {w:jp3} {p:Nat} {T:TypeId} {a1 a2:Option Addr} {n1 n2 c1 c2:Nat} {l:List ah} {v:jp5} (h:Rd ok w (fC l) [v]) (hc:CB T p [.slice a1 n1 c1,.slice a2 n2 c2] w):Rd (fun b=>ok b/\b≠p) w (fC l) [v]:=by
 refine Rd.avoid ?_ _ _ (J5 l) h;intro j u hu;unfold CB at hc;have h0:w.cell? ⟨p,j,none⟩=#[Value.slice a1 n1 c1,.slice a2 n2 c2][j]?:=by simp [World.cell?,hc]
 rw [h0] at hu
 match j,hu with
 | 0,hu=>exact ⟨_,_,_,(Option.some.inj hu).symm⟩
 | 1,hu=>exact ⟨_,_,_,(Option.some.inj hu).symm⟩
 | j+2,hu=>simp at hu
end Go.Proofs.YtkfnkeflalcphaaGreatDoor

