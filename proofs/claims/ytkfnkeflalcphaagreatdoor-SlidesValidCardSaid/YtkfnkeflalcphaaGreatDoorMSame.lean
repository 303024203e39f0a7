/- Arguments that came in, read as the document's data, with what the form's reach says of their sizes. publisherref04.long: whether attributes are many, or long. publisherref04.weight: how many parts inlines have. publisherref04.texts, Pairs, attrs, SameLine, SameBlocks, Same: they answer whether the data are equal. -/
import Derived.Deep.Slices
import Derived.ProofKit
import Derived.OpenShut
import Derived.Test.YtkfnkeflalcphaaGreatDoorMAppend
set_option maxHeartbeats 8000000
set_option maxRecDepth 100000
open Go.Lib (hid)
namespace Go.Proofs.YtkfnkeflalcphaaGreatDoor
open Tryz
open List renaming getElem?_eq_getElem->jK6,mem_of_getElem?->jL4,getElem?_map->jL9,take_length->jLx
open Nat renaming zero_le->jL3
open Go renaming World->jN9,Value->jNk
open Go.RowKit Go.ChangeShapes Go.WideShapes Go.Deep
set_option linter.unusedVariables false
set_option linter.unusedSimpArgs false
section
variable {H:Type} {enc:TypeId × jNk->H} {w:jN9} {base:Nat} {spare:Nat->Bool} {held:Bool}
theorem aO.Qr {ok:Nat->Prop} {α:Type} (F:α->D) (R:α->List jNk):∀ (L:List α),(∀ i∈L,Rd ok w (F i) (R i))->aO ok w (L.map F) (L.map R)
 | [],_=>aO.none
 | x::L,h=>aO.cons (h x (by simp)) (aO.Qr F R L (fun i hi=>h i (by simp [hi])))
def Cx (P:Program) (t:TypeId) (d:DataW H):Prop:=(d.weights P t).all (·<=reachBytes)=true
theorem Qs {P:Program} {e:TypeId}:∀ {l:List (DataW H)},(DataW.weightsAll P e l).all (·<=reachBytes)=true->∀ d∈l,Cx P e d
 | [],_,d,hd=>by cases hd
 | x::l,h,d,hd=>by
  rw [DataW.weightsAll,List.all_append,Bool.and_eq_true] at h;rcases List.mem_cons.1 hd with rfl | hd
  ·exact h.1
  ·exact Qs h.2 d hd
theorem Ay {P:Program}:∀ {ts:List TypeId} {l:List (DataW H)},(DataW.weightsEach P ts l).all (·<=reachBytes)=true->∀ (i:Nat) (t:TypeId) (d:DataW H),ts[i]?=some t->l[i]?=some d->Cx P t d
 | [],_,_,i,t,d,ht,_=>by simp at ht
 | _::_,[],_,i,t,d,_,hd=>by simp at hd
 | t0::ts,d0::l,h,0,t,d,ht,hd=>by
  rw [DataW.weightsEach,List.all_append,Bool.and_eq_true] at h;simp at ht hd;subst ht hd;exact h.1
 | t0::ts,d0::l,h,i+1,t,d,ht,hd=>by
  rw [DataW.weightsEach,List.all_append,Bool.and_eq_true] at h;exact Ay h.2 i t d (by simpa using ht) (by simpa using hd)
theorem iT {P:Program} {t:TypeId} {fs:Array Field} {parts:List (DataW H)} (ht:P.underlying t=some (.struct fs)) (hw:Cx P t (.agg parts)) (i:Nat) (f:Field) (d:DataW H) (hf:fs[i]?=some f) (hd:parts[i]?=some d):Cx P f.type d:=by unfold Cx at hw;rw [DataW.weights,ht] at hw;exact Ay hw i f.type d (by rw [jL9,Array.getElem?_toList,hf];rfl) hd
theorem SI {P:Program} {t e:TypeId} {elems spare:List (DataW H)} (ht:P.underlying t=some (.slice e)) (hw:Cx P t (.slice elems spare)):elems.length*P.bytesOf e<=reachBytes/\∀ d∈elems,Cx P e d:=by unfold Cx at hw;rw [DataW.weights,ht] at hw;simp only [List.all_cons,List.all_append,Bool.and_eq_true,decide_eq_true_eq] at hw;refine ⟨Nat.le_trans (Nat.mul_le_mul_right _ (by omega)) hw.1,Qs hw.2.1⟩
theorem q1e {P:Program} {t:TypeId} {s:ByteArray} (hw:Cx P t (.lit (.string s.data.toList):DataW H)):s.size<=reachBytes:=by unfold Cx at hw;rw [DataW.weights] at hw;simpa using hw
theorem len2:∀ {l:List jNk},l.length=2->∃ c0 c1,l=[c0,c1]
 | [c0,c1],_=>⟨_,_,rfl⟩
theorem jG5:∀ {l:List jNk},l.length=3->∃ c0 c1 c2,l=[c0,c1,c2]
 | [c0,c1,c2],_=>⟨_,_,_,rfl⟩
theorem jG6:∀ {l:List jNk},l.length=4->∃ c0 c1 c2 c3,l=[c0,c1,c2,c3]
 | [c0,c1,c2,c3],_=>⟨_,_,_,_,rfl⟩
theorem jC0:∀ {l:List jNk},l.length=10->∃ c0 c1 c2 c3 c4 c5 c6 c7 c8 c9,l=[c0,c1,c2,c3,c4,c5,c6,c7,c8,c9]
 | [c0,c1,c2,c3,c4,c5,c6,c7,c8,c9],_=>⟨_,_,_,_,_,_,_,_,_,_,rfl⟩
theorem jC1:∀ {l:List jNk},l.length=11->∃ c0 c1 c2 c3 c4 c5 c6 c7 c8 c9 c10,l=[c0,c1,c2,c3,c4,c5,c6,c7,c8,c9,c10]
 | [c0,c1,c2,c3,c4,c5,c6,c7,c8,c9,c10],_=>⟨_,_,_,_,_,_,_,_,_,_,_,rfl⟩
theorem j4 {P:Program} {α:Type} [Inhabited α] (f:α->D) (OK:α->Prop) {fuel:Nat} {t e:TypeId} {k:Nat} {cs:List jNk} {x:DataW H × List MemPlace} (ht:P.underlying t=some (.slice e)) (hk:P.cellsOf e=k) (hk0:0<k) (hel:∀ n cs' y,n<fuel->DataW.trod enc P w base spare held n e cs'=some y->Cx P e y.1->∃ a:α,OK a/\Rd (·<w.heap.size) w (f a) cs') (h:DataW.trod enc P w base spare held fuel t cs=some x) (hw:Cx P t x.1):∃ l:List α,(∀ a∈l,OK a)/\l.length*P.bytesOf e<=reachBytes/\Rd (·<w.heap.size) w (.sl k (l.map f)) cs:=by
 subst hk;rcases DataW.trod_slice ht h with ⟨rfl,_⟩ | ⟨a,len,cap,elems,rest,n,rfl,rfl,SK,hb,hl,hm,hlen,jG7,_⟩
 ·exact ⟨[],by simp,by simp,Rd.aI _ _ _⟩
 rw [SK] at hw;obtain ⟨hwl,hwe⟩:=SI ht hw;rw [List.length_map] at hwl;have key:∀ i,i<len->∃ p:α × List jNk,OK p.1/\Rd (·<w.heap.size) w (f p.1) p.2/\p.2.length=P.cellsOf e/\∀ j,j<P.cellsOf e->w.cell? ((a.add (i*P.cellsOf e)).add j)=p.2[j]?:=by intro i hi;have h1:=jG7 i hi;rw [jK6 (by omega)] at h1;obtain ⟨cs',h2,h3⟩:=Option.bind_eq_some_iff.1 h1;obtain ⟨_,h4,h5⟩:=World.cells?_some h2;obtain ⟨y,hy1,hy2⟩:=hel n cs' _ (by omega) h3 (hwe _ (List.mem_map.2 ⟨_,List.getElem_mem _,rfl⟩));exact ⟨(y,cs'),hy1,hy2,h4,h5⟩
 obtain ⟨p,hp⟩:=choose_lt (α:=α × List jNk) key;refine ⟨(List.range len).map fun i=>(p i).1,?_,by rw [List.length_map,List.length_range];rw [hlen] at hwl;exact hwl,?_⟩
 ·intro y hy;obtain ⟨i,hi,rfl⟩:=List.mem_map.1 hy;exact (hp i (List.mem_range.1 hi)).1
 rw [List.map_map];have hL:=aO.Qr (ok:=(·<w.heap.size)) (w:=w) (f ∘ fun i=>(p i).1) (fun i=>(p i).2) (List.range len) (fun i hi=>(hp i (List.mem_range.1 hi)).2.1);have hrl:∀ r∈(List.range len).map (fun i=>(p i).2),r.length=P.cellsOf e:=by intro r hr;obtain ⟨i,hi,rfl⟩:=List.mem_map.1 hr;exact (hp i (List.mem_range.1 hi)).2.2.1
 have EM:((List.range len).map (f ∘ fun i=>(p i).1)).length=len:=by simp
 unfold Rd;refine ⟨some a,cap,_,by rw [EM],by omega,hm,hL,hrl,?_⟩;rw [EM];rcases Nat.eq_zero_or_pos len with h0 | h0
 ·exact .inl h0
 ·obtain ⟨b,off,spot⟩:=a;have c0:=(hp 0 h0).2.2.2 0 hk0;have hl0:=(hp 0 h0).2.2.1;rw [jK6 (by omega)] at c0;have hspot:spot=none:=by simpa [Addr.add] using World.cell?_spot c0
  subst hspot;have plain:∀ (o j:Nat),((⟨b,o,none⟩:Addr).add j)=⟨b,o+j,none⟩:=by intro o j;unfold Addr.add;split<;>simp_all
  rw [plain,plain] at c0;refine .inr ⟨b,off,rfl,nX c0,nX c0,fun j u hu=>?_⟩;have hj:j<len*P.cellsOf e:=by have h1:=(List.getElem?_eq_some_iff.1 hu).1;rw [jQ (P.cellsOf e) _ hrl] at h1;simpa using h1
  have hi:j/P.cellsOf e<len:=Nat.div_lt_of_lt_mul (by rw [Nat.mul_comm];exact hj);have hr:j%P.cellsOf e<P.cellsOf e:=Nat.mod_lt _ hk0;have ej:j/P.cellsOf e*P.cellsOf e+j%P.cellsOf e=j:=by rw [Nat.mul_comm];exact Nat.div_add_mod j _
  have c1:=(hp _ hi).2.2.2 _ hr;have hlr:=(hp _ hi).2.2.1;rw [jK6 (by omega),plain,plain,Nat.add_assoc,ej] at c1;have hf:=Y4 (P.cellsOf e) _ hrl (j/P.cellsOf e) (j%P.cellsOf e) (p (j/P.cellsOf e)).2 _ (by rw [jL9,List.getElem?_range hi];rfl) (jK6 (by omega));rw [ej,hu] at hf;rw [c1];exact hf.symm
instance:Inhabited Pr:=⟨⟨.empty,.empty⟩⟩
instance:Inhabited Ci:=⟨⟨.empty,.empty,.empty,false⟩⟩
instance:Inhabited At:=⟨⟨.empty,[],[]⟩⟩
instance:Inhabited aj:=⟨.mk 0 .empty .empty .empty default [] [] []⟩
instance:Inhabited ah:=⟨.mk 0 0 .empty .empty .empty .empty default [] []⟩
def zl (s:ByteArray):Prop:=s.size<=reachBytes
def iOk (n:Int):Prop:=-9223372036854775808<=n/\n<=9223372036854775807
def Pr.wf (p:Pr):Prop:=zl p.key/\zl p.val
def Ci.wf (p:Ci):Prop:=zl p.key/\zl p.pre/\zl p.suf
def At.wf (a:At):Prop:=zl a.id/\(∀ c∈a.cls,zl c)/\a.cls.length<=reachBytes/\(∀ p∈a.aD,p.wf)/\a.aD.length<=reachBytes
mutual
def aj.wf:aj->Prop
 | .mk k t d ti a ar ci ks=>iOk k/\zl t/\zl d/\zl ti/\a.wf/\(∀ c∈ar,zl c)/\ar.length<=reachBytes/\(∀ c∈ci,c.wf)/\ci.length<=reachBytes/\aj.yh ks/\ks.length<=reachBytes
def aj.yh:List aj->Prop
 | []=>True
 | x::l=>x.wf/\aj.yh l
end
mutual
def ah.wf:ah->Prop
 | .mk k lv i t d ti a li ks=>iOk k/\iOk lv/\zl i/\zl t/\zl d/\zl ti/\a.wf/\aj.yh li/\li.length<=reachBytes/\ah.yh ks/\ks.length<=reachBytes
def ah.yh:List ah->Prop
 | []=>True
 | x::l=>x.wf/\ah.yh l
end
theorem aj.sI:∀ (l:List aj),(∀ x∈l,x.wf)->aj.yh l
 | [],_=>by unfold aj.yh;trivial
 | x::l,h=>by unfold aj.yh;exact ⟨h x (by simp),aj.sI l (fun y hy=>h y (by simp [hy]))⟩
theorem ah.sI:∀ (l:List ah),(∀ x∈l,x.wf)->ah.yh l
 | [],_=>by unfold ah.yh;trivial
 | x::l,h=>by unfold ah.yh;exact ⟨h x (by simp),ah.sI l (fun y hy=>h y (by simp [hy]))⟩
theorem Ol {n:Int} (h:(Lit.int .i64 n).wf=true):iOk n:=by have:=bounds_i64 h;exact this
section
variable {fuel:Nat} {cs:List jNk} {x:DataW H × List MemPlace}
theorem cS:prog.cellsOf 9=1:=by kernel_rfl
theorem cI:prog.cellsOf 3=1:=by kernel_rfl
theorem cB:prog.cellsOf 4=1:=by kernel_rfl
theorem cP:prog.cellsOf 61=2:=by kernel_rfl
theorem cC:prog.cellsOf 121=4:=by kernel_rfl
theorem cA:prog.cellsOf 45=3:=by kernel_rfl
theorem cIn:prog.cellsOf 66=10:=by kernel_rfl
theorem cBl:prog.cellsOf 48=11:=by kernel_rfl
theorem cLS:prog.cellsOf 43=1:=by kernel_rfl
theorem cLP:prog.cellsOf 24=1:=by kernel_rfl
theorem cLC:prog.cellsOf 64=1:=by kernel_rfl
theorem cLI:prog.cellsOf 46=1:=by kernel_rfl
theorem cLB:prog.cellsOf 22=1:=by kernel_rfl
theorem cD:prog.cellsOf 26=2:=by kernel_rfl
theorem sJ {n k:Nat} (h:n*k<=reachBytes) (hk:1<=k):n<=reachBytes:=Nat.le_trans (Nat.le_mul_of_pos_right n hk) h
theorem yS:1<=prog.bytesOf 9:=by decide +kernel
theorem yP:1<=prog.bytesOf 61:=by decide +kernel
theorem yC:1<=prog.bytesOf 121:=by decide +kernel
theorem yI:1<=prog.bytesOf 66:=by decide +kernel
theorem yB:1<=prog.bytesOf 48:=by decide +kernel
theorem Qt (h:DataW.trod enc prog w base spare held fuel 43 cs=some x) (hw:Cx prog 43 x.1):∃ l:List ByteArray,(∀ s∈l,zl s)/\l.length<=reachBytes/\Rd (·<w.heap.size) w (jf l) cs:=by
 obtain ⟨l,h1,h2,h3⟩:=j4 D.str zl underlying43 cS (by decide) (fun n cs' y _ hy Ph=>by
  obtain ⟨s,rfl,rfl,hs⟩:=DataW.trod_string underlying9 hy;exact ⟨s,q1e Ph,Rd.eB _ _ _⟩) h hw
 exact ⟨l,h1,sJ h2 yS,h3⟩
theorem Yf{P Q:Prop}(q:Q)(h:Nonempty Q->P:=by
 intro qQ;have h0:s0.size<=reachBytes:=q1e (P:=prog) (t:=9) (by have h':=hwf 0 _ _ rfl (by rw [List.getElem?_map,List.getElem?_eq_getElem (by omega)];rfl);rw [x0] at h';exact h');revert h0;exact qQ.elim fun x=>x):P:=h ⟨q⟩
theorem Yg{P Q:Prop}(q:Q)(h:Nonempty Q->P:=by
 intro qQ;have h1:s1.size<=reachBytes:=q1e (P:=prog) (t:=9) (by have h':=hwf 1 _ _ rfl (by rw [List.getElem?_map,List.getElem?_eq_getElem (by omega)];rfl);rw [x1] at h';exact h');revert h1;exact qQ.elim fun x=>x):P:=h ⟨q⟩
theorem jc8 (h:DataW.trod enc prog w base spare held fuel 61 cs=some x) (hw:Cx prog 61 x.1):∃ p:Pr,p.wf/\Rd (·<w.heap.size) w p.d cs:=by
 obtain ⟨xs,n,rfl,SK,hlen,hxl,hf⟩:=DataW.trod_struct underlying61 h;rw [SK] at hw;have hwf:=fun i f d=>iT underlying61 hw i f d
 rw [cP] at hlen;obtain ⟨c0,c1,rfl⟩:=len2 hlen;have f0:=hf 0 _ rfl;have f1:=hf 1 _ rfl;have hx2:xs.length=2:=by rw [hxl];rfl
 rw [List.getElem?_eq_getElem (by omega)] at f0 f1;simp only [cS,List.getElem_toArray,List.getElem_cons_zero,List.getElem_cons_succ,List.drop_zero,List.drop_succ_cons,List.take_succ_cons,List.take_zero] at f0 f1;obtain ⟨s0,e0,x0,_⟩:=DataW.trod_string underlying9 f0;refine Yf ?_;intro h0;obtain ⟨s1,e1,x1,_⟩:=DataW.trod_string underlying9 f1;refine Yg ?_;intro h1;cases e0;cases e1
 exact ⟨⟨s0,s1⟩,⟨h0,h1⟩,Pr.fC _ _ ⟨s0,s1⟩⟩
theorem Yh{P Q:Prop}(q:Q)(h:Nonempty Q->P:=by
 intro qQ;have h2:s2.size<=reachBytes:=q1e (P:=prog) (t:=9) (by have h':=hwf 2 _ _ rfl (by rw [List.getElem?_map,List.getElem?_eq_getElem (by omega)];rfl);rw [x2] at h';exact h');revert h2;exact qQ.elim fun x=>x):P:=h ⟨q⟩
theorem Yi (h:DataW.trod enc prog w base spare held fuel 121 cs=some x) (hw:Cx prog 121 x.1):∃ p:Ci,p.wf/\Rd (·<w.heap.size) w p.d cs:=by
 obtain ⟨xs,n,rfl,SK,hlen,hxl,hf⟩:=DataW.trod_struct underlying121 h;rw [SK] at hw;have hwf:=fun i f d=>iT underlying121 hw i f d
 rw [cC] at hlen;obtain ⟨c0,c1,c2,c3,rfl⟩:=jG6 hlen;have f0:=hf 0 _ rfl;have f1:=hf 1 _ rfl;have f2:=hf 2 _ rfl;have f3:=hf 3 _ rfl;have hx2:xs.length=4:=by rw [hxl];rfl
 rw [List.getElem?_eq_getElem (by omega)] at f0 f1 f2 f3;simp only [cS,cB,List.getElem_toArray,List.getElem_cons_zero,List.getElem_cons_succ,List.drop_zero,List.drop_succ_cons,List.take_succ_cons,List.take_zero] at f0 f1 f2 f3;obtain ⟨s0,e0,x0,_⟩:=DataW.trod_string underlying9 f0;refine Yf ?_;intro h0;obtain ⟨s1,e1,x1,_⟩:=DataW.trod_string underlying9 f1;refine Yg ?_;intro h1;obtain ⟨s2,e2,x2,_⟩:=DataW.trod_string underlying9 f2;refine Yh ?_;intro h2;obtain ⟨b,e3,_⟩:=DataW.trod_bool underlying4 f3;cases e0;cases e1;cases e2;cases e3
 exact ⟨⟨s0,s1,s2,b⟩,⟨h0,h1,h2⟩,Ci.fC _ _ ⟨s0,s1,s2,b⟩⟩
theorem Le (h:DataW.trod enc prog w base spare held fuel 24 cs=some x) (hw:Cx prog 24 x.1):∃ l:List Pr,(∀ s∈l,s.wf)/\l.length<=reachBytes/\Rd (·<w.heap.size) w (dx l) cs:=by obtain ⟨l,h1,h2,h3⟩:=j4 Pr.d Pr.wf underlying24 cP (by decide) (fun n cs' y _ hy Ph=>jc8 hy Ph) h hw;exact ⟨l,h1,sJ h2 yP,h3⟩
theorem Yj (h:DataW.trod enc prog w base spare held fuel 64 cs=some x) (hw:Cx prog 64 x.1):∃ l:List Ci,(∀ s∈l,s.wf)/\l.length<=reachBytes/\Rd (·<w.heap.size) w (Mg l) cs:=by obtain ⟨l,h1,h2,h3⟩:=j4 Ci.d Ci.wf underlying64 cC (by decide) (fun n cs' y _ hy Ph=>Yi hy Ph) h hw;exact ⟨l,h1,sJ h2 yC,h3⟩
theorem Qu (h:DataW.trod enc prog w base spare held fuel 45 cs=some x) (hw:Cx prog 45 x.1):∃ (a:At) (vc vp:Value),a.wf/\cs=[.string a.id,vc,vp]/\AtR (·<w.heap.size) w a vc vp:=by
 obtain ⟨xs,n,rfl,SK,hlen,hxl,hf⟩:=DataW.trod_struct underlying45 h;rw [SK] at hw;have hwf:=fun i f d=>iT underlying45 hw i f d
 rw [cA] at hlen;obtain ⟨c0,c1,c2,rfl⟩:=jG5 hlen;have f0:=hf 0 _ rfl;have f1:=hf 1 _ rfl;have f2:=hf 2 _ rfl;have hx2:xs.length=3:=by rw [hxl];rfl
 rw [List.getElem?_eq_getElem (by omega)] at f0 f1 f2;simp only [cS,cLS,cLP,List.getElem_toArray,List.getElem_cons_zero,List.getElem_cons_succ,List.drop_zero,List.drop_succ_cons,List.take_succ_cons,List.take_zero] at f0 f1 f2;obtain ⟨s0,e0,x0,_⟩:=DataW.trod_string underlying9 f0;refine Yf ?_;intro h0;obtain ⟨cl,k1,k2,k3⟩:=Qt f1 (hwf 1 _ _ rfl (by rw [List.getElem?_map,List.getElem?_eq_getElem (by omega)];rfl));obtain ⟨pr,m1,m2,m3⟩:=Le f2 (hwf 2 _ _ rfl (by rw [List.getElem?_map,List.getElem?_eq_getElem (by omega)];rfl));cases e0
 exact ⟨⟨s0,cl,pr⟩,c1,c2,⟨h0,k1,k2,m1,m2⟩,rfl,k3,m3⟩
theorem jn5{P Q:Prop}(q:Q)(h:Nonempty Q->P:=by
 intro qQ;have h3:s3.size<=reachBytes:=q1e (P:=prog) (t:=9) (by have h':=hwf 3 _ _ rfl (by rw [List.getElem?_map,List.getElem?_eq_getElem (by omega)];rfl);rw [x3] at h';exact h');revert h3;exact qQ.elim fun x=>x):P:=h ⟨q⟩
theorem jv3:∀ (fuel:Nat) (cs:List Value) (x:DataW H × List MemPlace),DataW.trod enc prog w base spare held fuel 66 cs=some x->Cx prog 66 x.1->∃ p:aj,p.wf/\Rd (·<w.heap.size) w p.d cs:=by
 intro fuel;induction fuel using Nat.strongRecOn with
 | _ fuel ih=>
  intro cs x h hw;obtain ⟨xs,n,rfl,SK,hlen,hxl,hf⟩:=DataW.trod_struct underlying66 h;rw [SK] at hw;have hwf:=fun i f d=>iT underlying66 hw i f d
  rw [cIn] at hlen;obtain ⟨c0,c1,c2,c3,c4,c5,c6,c7,c8,c9,rfl⟩:=jC0 hlen;have f0:=hf 0 _ rfl;have f1:=hf 1 _ rfl;have f2:=hf 2 _ rfl;have f3:=hf 3 _ rfl;have f4:=hf 4 _ rfl;have f5:=hf 5 _ rfl;have f6:=hf 6 _ rfl;have f7:=hf 7 _ rfl;have hx2:xs.length=8:=by rw [hxl];rfl
  rw [List.getElem?_eq_getElem (by omega)] at f0 f1 f2 f3 f4 f5 f6 f7;simp only [cI,cS,cA,cLS,cLC,cLI,List.getElem_toArray,List.getElem_cons_zero,List.getElem_cons_succ,List.drop_zero,List.drop_succ_cons,List.take_succ_cons,List.take_zero] at f0 f1 f2 f3 f4 f5 f6 f7;obtain ⟨k,e0,_,h0⟩:=DataW.trod_int underlying3 f0;obtain ⟨s1,e1,x1,_⟩:=DataW.trod_string underlying9 f1;refine Yg ?_;intro h1;obtain ⟨s2,e2,x2,_⟩:=DataW.trod_string underlying9 f2;refine Yh ?_;intro h2;obtain ⟨s3,e3,x3,_⟩:=DataW.trod_string underlying9 f3;refine jn5 ?_;intro h3;obtain ⟨a,vc,vp,h4,e4,hA⟩:=Qu f4 (hwf 4 _ _ rfl (by rw [List.getElem?_map,List.getElem?_eq_getElem (by omega)];rfl));obtain ⟨ar,k1,k2,k3⟩:=Qt f5 (hwf 5 _ _ rfl (by rw [List.getElem?_map,List.getElem?_eq_getElem (by omega)];rfl));obtain ⟨ci,m1,m2,m3⟩:=Yj f6 (hwf 6 _ _ rfl (by rw [List.getElem?_map,List.getElem?_eq_getElem (by omega)];rfl));obtain ⟨ks,n1,n2,n3⟩:=j4 aj.d aj.wf underlying46 cIn (by decide) (fun m cs' y hm hy Ph=>ih m (by omega) cs' y hy Ph) f7 (hwf 7 _ _ rfl (by rw [List.getElem?_map,List.getElem?_eq_getElem (by omega)];rfl));cases e0;cases e1;cases e2;cases e3;cases e4
  exact ⟨.mk k s1 s2 s3 a ar ci ks,by unfold aj.wf;exact ⟨Ol h0,h1,h2,h3,h4,k1,k2,m1,m2,aj.sI _ n1,sJ n2 yI⟩,aj.fC _ _ _ _ ⟨hA,k3,m3,n3⟩⟩
theorem jc9 (h:DataW.trod enc prog w base spare held fuel 46 cs=some x) (hw:Cx prog 46 x.1):∃ l:List aj,aj.yh l/\l.length<=reachBytes/\Rd (·<w.heap.size) w (aZ l) cs:=by obtain ⟨ks,n1,n2,n3⟩:=j4 aj.d aj.wf underlying46 cIn (by decide) (fun m cs' y hm hy Ph=>jv3 m cs' y hy Ph) h hw;exact ⟨ks,aj.sI _ n1,sJ n2 yI,n3⟩
theorem jv4:∀ (fuel:Nat) (cs:List Value) (x:DataW H × List MemPlace),DataW.trod enc prog w base spare held fuel 48 cs=some x->Cx prog 48 x.1->∃ p:ah,p.wf/\Rd (·<w.heap.size) w p.d cs:=by
 intro fuel;induction fuel using Nat.strongRecOn with
 | _ fuel ih=>
  intro cs x h hw;obtain ⟨xs,n,rfl,SK,hlen,hxl,hf⟩:=DataW.trod_struct underlying48 h;rw [SK] at hw;have hwf:=fun i f d=>iT underlying48 hw i f d
  rw [cBl] at hlen;obtain ⟨c0,c1,c2,c3,c4,c5,c6,c7,c8,c9,c10,rfl⟩:=jC1 hlen;have f0:=hf 0 _ rfl;have f1:=hf 1 _ rfl;have f2:=hf 2 _ rfl;have f3:=hf 3 _ rfl;have f4:=hf 4 _ rfl;have f5:=hf 5 _ rfl;have f6:=hf 6 _ rfl;have f7:=hf 7 _ rfl;have f8:=hf 8 _ rfl;have hx2:xs.length=9:=by rw [hxl];rfl
  rw [List.getElem?_eq_getElem (by omega)] at f0 f1 f2 f3 f4 f5 f6 f7 f8;simp only [cI,cS,cA,cLI,cLB,List.getElem_toArray,List.getElem_cons_zero,List.getElem_cons_succ,List.drop_zero,List.drop_succ_cons,List.take_succ_cons,List.take_zero] at f0 f1 f2 f3 f4 f5 f6 f7 f8;obtain ⟨k,e0,_,h0⟩:=DataW.trod_int underlying3 f0;obtain ⟨lv,e1,_,h1⟩:=DataW.trod_int underlying3 f1;obtain ⟨s2,e2,x2,_⟩:=DataW.trod_string underlying9 f2;refine Yh ?_;intro h2;obtain ⟨s3,e3,x3,_⟩:=DataW.trod_string underlying9 f3;refine jn5 ?_;intro h3;obtain ⟨s4,e4,x4,_⟩:=DataW.trod_string underlying9 f4;have h4:s4.size<=reachBytes:=q1e (P:=prog) (t:=9) (by have h':=hwf 4 _ _ rfl (by rw [List.getElem?_map,List.getElem?_eq_getElem (by omega)];rfl);rw [x4] at h';exact h');obtain ⟨s5,e5,x5,_⟩:=DataW.trod_string underlying9 f5;have h5:s5.size<=reachBytes:=q1e (P:=prog) (t:=9) (by have h':=hwf 5 _ _ rfl (by rw [List.getElem?_map,List.getElem?_eq_getElem (by omega)];rfl);rw [x5] at h';exact h');obtain ⟨a,vc,vp,h6,e6,hA⟩:=Qu f6 (hwf 6 _ _ rfl (by rw [List.getElem?_map,List.getElem?_eq_getElem (by omega)];rfl));obtain ⟨li,k1,k2,k3⟩:=jc9 f7 (hwf 7 _ _ rfl (by rw [List.getElem?_map,List.getElem?_eq_getElem (by omega)];rfl));obtain ⟨ks,n1,n2,n3⟩:=j4 ah.d ah.wf underlying22 cBl (by decide) (fun m cs' y hm hy Ph=>ih m (by omega) cs' y hy Ph) f8 (hwf 8 _ _ rfl (by rw [List.getElem?_map,List.getElem?_eq_getElem (by omega)];rfl));cases e0;cases e1;cases e2;cases e3;cases e4;cases e5;cases e6
  exact ⟨.mk k lv s2 s3 s4 s5 a li ks,by unfold ah.wf;exact ⟨Ol h0,Ol h1,h2,h3,h4,h5,h6,k1,k2,ah.sI _ n1,sJ n2 yB⟩,ah.fC _ _ _ _ _ _ ⟨hA,k3,n3⟩⟩
theorem jcj (h:DataW.trod enc prog w base spare held fuel 22 cs=some x) (hw:Cx prog 22 x.1):∃ l:List ah,ah.yh l/\l.length<=reachBytes/\Rd (·<w.heap.size) w (iC l) cs:=by obtain ⟨ks,n1,n2,n3⟩:=j4 ah.d ah.wf underlying22 cBl (by decide) (fun m cs' y hm hy Ph=>jv4 m cs' y hy Ph) h hw;exact ⟨ks,ah.sI _ n1,sJ n2 yB,n3⟩
theorem jsq (h:DataW.trod enc prog w base spare held fuel 26 cs=some x) (hw:Cx prog 26 x.1):∃ (me:List Pr) (l:List ah) (vm vb:Value),(∀ p∈me,p.wf)/\me.length<=reachBytes/\ah.yh l/\l.length<=reachBytes/\cs=[vm,vb]/\Rd (·<w.heap.size) w (dx me) [vm]/\Rd (·<w.heap.size) w (iC l) [vb]:=by
 obtain ⟨xs,n,rfl,SK,hlen,hxl,hf⟩:=DataW.trod_struct underlying26 h;rw [SK] at hw;have hwf:=fun i f d=>iT underlying26 hw i f d
 rw [cD] at hlen;obtain ⟨c0,c1,rfl⟩:=len2 hlen;have f0:=hf 0 _ rfl;have f1:=hf 1 _ rfl;have hx2:xs.length=2:=by rw [hxl];rfl
 rw [List.getElem?_eq_getElem (by omega)] at f0 f1;simp only [cLP,cLB,List.getElem_toArray,List.getElem_cons_zero,List.getElem_cons_succ,List.drop_zero,List.drop_succ_cons,List.take_succ_cons,List.take_zero] at f0 f1;obtain ⟨me,k1,k2,k3⟩:=Le f0 (hwf 0 _ _ rfl (by rw [List.getElem?_map,List.getElem?_eq_getElem (by omega)];rfl));obtain ⟨l,n1,n2,n3⟩:=jcj f1 (hwf 1 _ _ rfl (by rw [List.getElem?_map,List.getElem?_eq_getElem (by omega)];rfl));exact ⟨me,l,c0,c1,k1,k2,n1,n2,rfl,k3,n3⟩
end
end
open Go.RowKit
def At.short (a:At):Prop:=a.cls.length<=40/\a.aD.length<=40/\a.id.size<=600/\(∀ c∈a.cls,c.size<=600)/\∀ p∈a.aD,p.key.size<=600/\p.val.size<=600
theorem q31 {α:Type} {P:α->Prop} {l:List α} {k:Nat} {y:α} (hy:l[k]?=some y) (h:∀ x∈l.take k,P x) (h2:P y):∀ x∈l.take (k+1),P x:=by
 rw [List.take_add_one,hy];intro x hx;rcases List.mem_append.1 hx with hx | hx
 ·exact h x hx
 ·simp at hx;rw [hx];exact h2
theorem jU {ok:Nat->Prop} {w:World} {l:List Pr} {a:Option Addr} {cap:Nat} (h:nV ok w 2 (l.map Pr.d) a cap) {k:Nat} {p:Pr} (hk:l[k]?=some p) : ∃ b off,a=some ⟨b,off,none⟩/\ok b/\b<w.heap.size/\w.cell? ⟨b,off+k*2,none⟩=some (.string p.key)/\w.cell? ⟨b,off+k*2+1,none⟩=some (.string p.val):=by refine JY ?_;intro hlt b off ha hok hb hc r hr hl hcell;rw [Pr.open_ hr] at hcell;exact ⟨b,off,ha,hok,hb,hcell 0 _ rfl,by rw [Nat.add_assoc];exact hcell 1 _ rfl⟩
def D9:Nat:=140737488351232
theorem lq:reachBytes=D9:=by decide
def Lg1 (a:At) (vn vi:Value):Prop:=∃ k n:Nat,k<=a.cls.length/\vi=.int .i64 k/\vn=.int .i64 n/\n<=D9*(k+1)/\(n<=600->a.id.size<=600/\∀ c∈a.cls.take k,c.size<=600)
def Lg2 (a:At) (w0:World) (vn vi:Value) (wr:World):Prop:=∃ k n q:Nat,k<=a.aD.length/\vi=.int .i64 k/\vn=.int .i64 n/\n<=D9*(41+2*k)/\(n<=600->a.id.size<=600/\(∀ c∈a.cls,c.size<=600)/\∀ p∈a.aD.take k,p.key.size<=600/\p.val.size<=600)/\wr=w0.drewN q
theorem jn6{P:Prop}(h:P:=by
 clear HC HP W2 W4;go_enter func75,ntmps75;go_upto_region 2 with (fail)
 rw [<- hw0];clear hw0;go_wp2;go_ret;exact ⟨true,rfl,(fun h=>by cases h),HB0.out⟩):P:=h
theorem Lf (a:At) (vc vp:jNk) (w:jN9) (h:AtR (·<w.heap.size) w a vc vp) (hwf:a.wf) : Calls prog 75 #[.agg #[.string a.id,vc,vp]] w fun e w'=>∃ b,e=.returned (.bool b)/\(b=false->a.short)/\Below w.heap.size w w':=by
 obtain ⟨w1,w2,w3,w4,w5⟩:=hwf;unfold zl at w1;rw [lq] at w1 w3 w5;obtain ⟨ac,cc,hvc,hsc⟩:=Rd.aB h.cls;obtain ⟨ap,cp,hvp,hsp⟩:=Rd.aB h.aD;obtain rfl:vc=.slice ac a.cls.length cc:=by simpa using hvc
 obtain rfl:vp=.slice ap a.aD.length cp:=by simpa using hvp
 have hcl:a.cls.length<=cc:=by simpa using hsc.le
 have hpl:a.aD.length<=cp:=by simpa using hsp.le
 have hcm:=hsc.max;have hpm:=hsp.max;unfold maxLen at hcm hpm;obtain ⟨w0,hw0⟩:∃ w0,w0=w.alloc (.cells #[.string a.id,.slice ac a.cls.length cc,.slice ap a.aD.length cp] 45):=⟨_,rfl⟩;have hb0:Below w.heap.size w w0:=by rw [hw0];exact (Below.refl _ _).alloc (Nat.le_refl _) _
 have q0:w0.cell? ⟨w.heap.size,0,none⟩=some (.string a.id):=by rw [hw0];exact IV w [.string a.id,.slice ac a.cls.length cc,.slice ap a.aD.length cp] _ 0 _ rfl
 have q1:w0.cell? ⟨w.heap.size,1,none⟩=some (.slice ac a.cls.length cc):=by rw [hw0];exact IV w [.string a.id,.slice ac a.cls.length cc,.slice ap a.aD.length cp] _ 1 _ rfl
 have q2:w0.cell? ⟨w.heap.size,2,none⟩=some (.slice ap a.aD.length cp):=by rw [hw0];exact IV w [.string a.id,.slice ac a.cls.length cc,.slice ap a.aD.length cp] _ 2 _ rfl
 have HC:Hid (∀ k y,a.cls[k]?=some y->∃ b off,ac=some ⟨b,off,none⟩/\w0.cell? ⟨b,off+k,none⟩=some (.string y)):=by
  intro k y hy;obtain ⟨b,off,ha,hok,hb,hc⟩:=hsc.at_ (by have:=(List.getElem?_eq_some_iff.1 hy).1;simpa using Nat.lt_of_le_of_lt (jL3 _) this)
  obtain ⟨r,hr,hl,hcell⟩:=hc k _ (by rw [jL9,hy];rfl);obtain rfl:=hr.bM;have:=hcell 0 _ rfl;rw [Nat.mul_one,Nat.add_zero] at this;exact ⟨b,off,ha,(lI (hb0.block b hok) _).trans this⟩
 have HP:Hid (∀ k p,a.aD[k]?=some p->∃ b off,ap=some ⟨b,off,none⟩/\w0.cell? ⟨b,off+k*2,none⟩=some (.string p.key)/\w0.cell? ⟨b,off+k*2+1,none⟩=some (.string p.val)):=by intro k p hp;obtain ⟨b,off,ha,hok,hb,c0,c1⟩:=jU hsp hp;exact ⟨b,off,ha,(lI (hb0.block b hok) _).trans c0,(lI (hb0.block b hok) _).trans c1⟩
 have HB0:=hid hb0;have W2:=hid w2;have W4:=hid w4;clear h hsc hsp hvc hvp w2 w4 hb0;by_cases h40:40<a.cls.length
 ·have e1:decide ((40:Int)<(a.cls.length:Int))=true:=by simp;omega
  exact jn6
 have e1:decide ((40:Int)<(a.cls.length:Int))=false:=by simp;omega
 by_cases h41:40<a.aD.length
 ·have e2:decide ((40:Int)<(a.aD.length:Int))=true:=by simp;omega
  exact jn6
 have e2:decide ((40:Int)<(a.aD.length:Int))=false:=by simp;omega
 have R1:Hid (Lg1 a (.int .i64 a.id.size) (.int .i64 0)):=⟨0,a.id.size,jL3 _,rfl,rfl,by omega,fun h=>⟨h,by simp⟩⟩;go_enter func75,ntmps75;go_upto_region 2 with (fail)
 rw [<- hw0];clear hw0;go_wp2
 go_loop [3,4] (fun vn vi=>Lg1 a vn vi) (fun _ i=>a.cls.length-(intOf i).toNat)
 case atStart=>exact R1.out
 case round=>
  clear R1;obtain ⟨k,n,hk,rfl,rfl,hn,hall⟩:=hrel;have HA:=hid hall;clear hall;unfold D9 at hn w1;by_cases hlt:k<a.cls.length
  ·obtain ⟨y,hy⟩:∃ y,a.cls[k]?=some y:=⟨_,jK6 hlt⟩;obtain ⟨b,off,rfl,c0⟩:=HC.out k y hy;have hys:y.size<=140737488351232:=by have:=W2.out y (jL4 hy);unfold zl at this;rw [lq] at this;exact this
   have HY:=hid hy;clear hy;go_wp2
   go_round
   case rel=>
    refine ⟨k+1,n+y.size,by omega,by go_num,by go_num,by unfold D9;omega,fun h6=>?_⟩;obtain ⟨i1,i2⟩:=HA.out (by omega);exact ⟨i1,q31 HY.out i2 (by omega)⟩
   case measure=>simp [intOf];omega
  ·have hkl:k=a.cls.length:=by omega
   subst hkl;have R2:Hid (Lg2 a w0 (.int .i64 n) (.int .i64 0) w0):=⟨0,n,0,jL3 _,rfl,rfl,by unfold D9;omega,fun h=>by
    obtain ⟨i1,i2⟩:=HA.out h;rw [jLx] at i2;exact ⟨i1,i2,by simp⟩,rfl⟩
   clear HA;go_wp2
   go_loopw [3,5] (fun vn vi wr=>Lg2 a w0 vn vi wr) (fun _ i _=>a.aD.length-(intOf i).toNat)
   case atStart=>exact R2.out
   case round=>
    clear R2;obtain ⟨k,n,q,hk,rfl,rfl,hn,hall,rfl⟩:=hrel;have HA:=hid hall;clear hall;unfold D9 at hn;by_cases hlt:k<a.aD.length
    ·obtain ⟨p,hp⟩:∃ p,a.aD[k]?=some p:=⟨_,jK6 hlt⟩;obtain ⟨b,off,rfl,c0,c1⟩:=HP.out k p hp;obtain ⟨hy1,hy2⟩:p.key.size<=140737488351232/\p.val.size<=140737488351232:=by have:=W4.out p (jL4 hp);unfold Pr.wf zl at this;rw [lq] at this;exact this
     have HY:=hid hp;clear hp;obtain ⟨py,pv⟩:=p;dsimp only at c0 c1 hy1 hy2;go_wp2_with fail
     go_quiet (fail)
     go_wp2;go_roundw;case rel=>
      refine ⟨k+1,n+(py.size+pv.size),q+nq,by omega,by go_num,by go_num,by unfold D9;omega,fun h6=>?_,rfl⟩;obtain ⟨i1,i2,i3⟩:=HA.out (by omega);exact ⟨i1,i2,q31 HY.out i3 ⟨by show py.size<=600;omega,by show pv.size<=600;omega⟩⟩
     case measure=>simp [intOf];omega
    ·have hkl:k=a.aD.length:=by omega
     subst hkl;by_cases h6:600<n
     ·have e3:decide ((600:Int)<(n:Int))=true:=by simp;omega
      go_wp2;go_ret;exact ⟨true,rfl,(fun h=>by cases h),gQ HB0.out q⟩
     ·have e3:decide ((600:Int)<(n:Int))=false:=by simp;omega
      go_wp2;go_ret;refine ⟨false,rfl,fun _=>?_,gQ HB0.out q⟩;obtain ⟨i1,i2,i3⟩:=HA.out (by omega);rw [jLx] at i3;exact ⟨by omega,by omega,i1,i2,i3⟩
open Go.RowKit
mutual
def aj.small:aj->Prop
 | .mk k t d ti a ar ci ks=>t.size<=300/\d.size<=300/\ti.size<=300/\a.short/\ar.length<=9/\ci.length<=9/\(∀ c∈ar,c.size<=5000)/\(∀ c∈ci,c.key.size<=5000/\c.pre.size<=5000/\c.suf.size<=5000)/\aj.ay ks
def aj.ay:List aj->Prop
 | []=>True
 | x::l=>x.small/\aj.ay l
end
theorem aj.j5:∀ (l m:List aj),aj.ay l->aj.ay m->aj.ay (l++m)
 | [],m,_,h=>h
 | x::l,m,h,h2=>by unfold aj.ay at h;rw [List.cons_append];unfold aj.ay;exact ⟨h.1,aj.j5 l m h.2 h2⟩
theorem aj.pq {l:List aj} {k:Nat} {x:aj} (hx:l[k]?=some x) (h:aj.ay (l.take k)) (h2:x.small):aj.ay (l.take (k+1)):=by rw [List.take_add_one,hx];exact aj.j5 _ _ h (by unfold Option.toList aj.ay;exact ⟨h2,by unfold aj.ay;trivial⟩)
theorem aj.GY (l m:List aj):aj.aU (l++m)=aj.aU l+aj.aU m:=by
 induction l with
 | nil=>rw [aj.aU];simp
 | cons x l ih=>rw [List.cons_append,aj.aU,aj.aU,ih];omega
theorem aj.uJ {l:List aj} {k:Nat} {x:aj} (hx:l[k]?=some x):aj.aU (l.take (k+1))=aj.aU (l.take k)+x.sz:=by rw [List.take_add_one,hx,aj.GY];simp [aj.aU]
theorem aj.uY:∀ {l:List aj} {k:Nat} {x:aj},aj.yh l->l[k]?=some x->x.wf
 | [],_,_,_,h=>by simp at h
 | y::l,0,x,hw,h=>by unfold aj.yh at hw;simp at h;subst h;exact hw.1
 | y::l,k+1,x,hw,h=>by unfold aj.yh at hw;exact aj.uY hw.2 (by simpa using h)
theorem Rd.yJ {ok:Nat->Prop} {w:jN9} {k:Nat} {l:List D} {v:jNk} (h:Rd ok w (.sl k l) [v]):∃ a n c,v=.slice a n c:=by obtain ⟨a',c',h',_⟩:=Rd.aB h;exact ⟨_,_,_,by simpa using h'⟩
theorem Rd.up {w w':jN9} {d:D} {cs:List jNk} (h:Rd (·<w.heap.size) w d cs) (hb:Below w.heap.size w w'):Rd (·<w'.heap.size) w' d cs:=
 Rd.keep (fun b h1 h2=>⟨Nat.lt_of_lt_of_le h2 hb.size,hb.block b h1⟩) _ _ h
theorem AtR.up {w w':jN9} {a:At} {vc vp:jNk} (h:AtR (·<w.heap.size) w a vc vp) (hb:Below w.heap.size w w'):AtR (·<w'.heap.size) w' a vc vp:=⟨h.cls.up hb,h.aD.up hb⟩
theorem gK.at2 {w w':jN9} {b o:Nat} {k:Int} {t d ti id:ByteArray} {vc vp va vi vk:jNk} (h:gK w b o k t d ti id vc vp va vi vk) (hb:w'.heap[b]?=w.heap[b]?):gK w' b o k t d ti id vc vp va vi vk:=by obtain ⟨c0,c1,c2,c3,c4,c5,c6,c7,c8,c9⟩:=h;exact ⟨(lI hb _).trans c0,(lI hb _).trans c1,(lI hb _).trans c2,(lI hb _).trans c3,(lI hb _).trans c4,(lI hb _).trans c5,(lI hb _).trans c6,(lI hb _).trans c7,(lI hb _).trans c8,(lI hb _).trans c9⟩
def CB (T:TypeId) (p:Nat) (cs:List jNk) (w:jN9):Prop:=w.heap[p]?=some (.cells cs.toArray T (0,0))
section
variable {T:TypeId} {p:Nat} {cs:List jNk} {w w':jN9}
theorem CB.cell (h:CB T p cs w) (j:Nat) (u:jNk) (hu:cs[j]?=some u):w.cell? ⟨p,j,none⟩=some u:=by unfold CB at h;simp [World.cell?,h,hu]
theorem CB.lt (h:CB T p cs w):p<w.heap.size:=by unfold CB at h;exact (Array.getElem?_eq_some_iff.1 h).1
theorem CB.below (h:CB T p cs w) (hb:Below w.heap.size w w'):CB T p cs w':=(hb.block p h.lt).trans h
theorem CB.new (T:TypeId) (cs:List jNk) (w:jN9):CB T w.heap.size cs (w.alloc (.cells cs.toArray T)):=heap_alloc_new w _
end
theorem Mh {ok:Nat->Prop} {w:jN9} {l:List Ci} {a:Option Addr} {cap:Nat} (h:nV ok w 4 (l.map Ci.d) a cap) {k:Nat} {p:Ci} (hk:l[k]?=some p) : ∃ b off,a=some ⟨b,off,none⟩/\ok b/\b<w.heap.size/\w.cell? ⟨b,off+k*4,none⟩=some (.string p.key)/\w.cell? ⟨b,off+k*4+1,none⟩=some (.string p.pre)/\w.cell? ⟨b,off+k*4+2,none⟩=some (.string p.suf)/\w.cell? ⟨b,off+k*4+3,none⟩=some (.bool p.bare):=by refine JY ?_;intro hlt b off ha hok hb hc r hr hl hcell;rw [Ci.open_ hr] at hcell;exact ⟨b,off,ha,hok,hb,hcell 0 _ rfl,by rw [Nat.add_assoc];exact hcell 1 _ rfl,by rw [Nat.add_assoc];exact hcell 2 _ rfl,by rw [Nat.add_assoc];exact hcell 3 _ rfl⟩
theorem kM {ok:Nat->Prop} {w:jN9} {l:List ByteArray} {a:Option Addr} {cap:Nat} (h:nV ok w 1 (l.map D.str) a cap) {k:Nat} {y:ByteArray} (hy:l[k]?=some y) : ∃ b off,a=some ⟨b,off,none⟩/\ok b/\b<w.heap.size/\w.cell? ⟨b,off+k,none⟩=some (.string y):=by
 obtain ⟨b,off,ha,hok,hb,hc⟩:=h.at_ (by have:=(List.getElem?_eq_some_iff.1 hy).1;simpa using Nat.lt_of_le_of_lt (jL3 _) this)
 obtain ⟨r,hr,hl,hcell⟩:=hc k _ (by rw [jL9,hy];rfl);obtain rfl:=hr.bM;have:=hcell 0 _ rfl;rw [Nat.mul_one,Nat.add_zero] at this;exact ⟨b,off,ha,hok,hb,this⟩
def Yk (dp:Nat):Nat:=(22-dp)*140737488355328
def jv5 (w:jN9) (l:List aj) (dp:Nat) (e:Ending) (w':jN9):Prop:=
 ∃ m:Nat,e=.returned (.int .i64 m)/\m<=Yk dp/\(m<=120->aj.ay l/\aj.aU l<=m)/\Below w.heap.size w w'
def jn7 (w:jN9) (l:List aj) (dp:Nat) (vn vi:jNk) (wr:jN9):Prop:=
 ∃ k n:Nat,k<=l.length/\vi=.int .i64 k/\vn=.int .i64 n/\n<=Yk dp/\(n<=120->aj.ay (l.take k)/\aj.aU (l.take k)+(l.length-k)<=n)/\Below w.heap.size w wr
def Wt2 (n:Nat) (ar:List ByteArray) (vn vj:jNk):Prop:=∃ j m:Nat,j<=ar.length/\vj=.int .i64 j/\vn=.int .i64 m/\n<=m/\m<=n+j*3518437208781/\(m<=120->∀ c∈ar.take j,c.size<=5000)
def Wt3 (n:Nat) (ci:List Ci) (w0:jN9) (vn vj:jNk) (wr:jN9):Prop:=∃ j m:Nat,j<=ci.length/\vj=.int .i64 j/\vn=.int .i64 m/\n<=m/\m<=n+j*10555311626343/\(m<=120->∀ c∈ci.take j,c.key.size<=5000/\c.pre.size<=5000/\c.suf.size<=5000)/\Below w0.heap.size w0 wr
theorem qJ{P Q:Prop}(q:Q)(h:Nonempty Q->P:=by
 intro qQ;have hcap:l.length<=cap:=by simpa using hs.le
 have hmx:=hs.max;unfold maxLen at hmx;have HS:=hid hs;revert hcap hmx HS;exact qQ.elim fun x=>x):P:=h ⟨q⟩
theorem Yl{P:Prop}(h:P:=by
 go_wp2;go_ret;exact ⟨1000,rfl,by unfold Yk;omega,(fun h=>by omega),zS.out⟩):P:=h
theorem jn8{P:Prop}(h:P:=by
 clear HS IH Zb;go_enter func76,ntmps76;go_wp2;go_ret;exact ⟨1000,rfl,by unfold Yk;omega,(fun h=>by omega),Below.refl _ _⟩):P:=h
theorem Om (n:Nat):∀ (l:List aj) (dp:Nat) (v:jNk) (w:jN9),aj.aU l<=n->dp<=21->Rd (·<w.heap.size) w (aZ l) [v]->aj.yh l -> Calls prog 76 #[v,.int .i64 dp] w (jv5 w l dp):=by
 induction n using Nat.strongRecOn with
 | _ n ih=>
  intro l dp v w hn hdp hrd hwf;obtain ⟨a,cap,hv,hs⟩:=Rd.aB hrd;obtain rfl:v=.slice a l.length cap:=by simpa using hv
  refine qJ ?_;intro hcap hmx HS;have IH:=hid ih;have Zb:=hid hwf;clear hs hv hrd ih hwf;by_cases hd:20<dp
  ·have e1:decide ((20:Int)<(dp:Int))=true:=by simp;omega
   exact jn8
  have e1:decide ((20:Int)<(dp:Int))=false:=by simp;omega
  by_cases h2:200<l.length
  ·have e2:decide ((200:Int)<(l.length:Int))=true:=by simp;omega
   exact jn8
  have e2:decide ((200:Int)<(l.length:Int))=false:=by simp;omega
  have R0:Hid (jn7 w l dp (.int .i64 l.length) (.int .i64 0) w):=⟨0,l.length,jL3 _,rfl,rfl,by unfold Yk;omega,(fun _=>⟨by rw [List.take_zero];unfold aj.ay;trivial,by rw [List.take_zero,aj.aU];omega⟩),Below.refl _ _⟩;go_enter func76,ntmps76;go_wp2
  go_loopw [5,6] (fun vn vi wr=>jn7 w l dp vn vi wr) (fun _ i _=>l.length-(intOf i).toNat)
  case atStart=>exact R0.out
  case round=>
   clear R0;obtain ⟨k,m,hk,rfl,rfl,hm,hall,hbel⟩:=hrel;have Gc:=hid hall;have jg:=hid hbel;clear hall hbel;unfold Yk at hm;by_cases hlt:k<l.length
   ·by_cases hm1:m<1000
    ·have e3:decide ((m:Int)<(1000:Int))=true:=by simp;omega
     obtain ⟨x,hx⟩:∃ x,l[k]?=some x:=⟨_,jK6 hlt⟩;obtain ⟨kd,t,d,ti,at_,ar,ci,ks⟩:=x;obtain ⟨g,off,vc,vp,va,vi,vk,rfl,hok,hbl,hc,hR⟩:=fE HS.out hx;have hx2:=aj.uY Zb.out hx;unfold aj.wf zl at hx2;obtain ⟨x1,x2,x3,x4,x5,x6,x7,x8,x9,x10,x11⟩:=hx2;rw [lq] at x2 x3 x4 x7 x9;unfold D9 at x2 x3 x4 x7 x9;have hsz:=aj.bK l k _ hx;rw [aj.sz] at hsz;obtain ⟨aa,ca,hva,hsa⟩:=Rd.aB hR.args;obtain ⟨ai,gD,hvi,hsi⟩:=Rd.aB hR.dH;obtain ⟨ac,nc,cc,rfl⟩:=Rd.yJ hR.at_.cls
     obtain ⟨ap,np,cp,rfl⟩:=Rd.yJ hR.at_.aD
     obtain ⟨ak,nk,ck,rfl⟩:=Rd.yJ hR.kids;obtain rfl:va=.slice aa ar.length ca:=by simpa using hva
     obtain rfl:vi=.slice ai ci.length gD:=by simpa using hvi
     have hca:ar.length<=ca:=by simpa using hsa.le
     have hci:ci.length<=gD:=by simpa using hsi.le
     have jG8:=hsa.max;have jG9:=hsi.max;unfold maxLen at jG8 jG9;obtain ⟨c0,c1,c2,c3,c4,c5,c6,c7,c8,c9⟩:=hc.at2 (w':=wr) (jg.out.block g hok);have HR:=hid hR;have HSA:=hid hsa;have HSI:=hid hsi;have HX:=hid hx;have X5:=hid x5;have X6:=hid x6;have X8:=hid x8;have X10:=hid x10;clear hc hR hsa hsi hx x1 x5 x6 x8 x10 x11 hva hvi;go_upto_region 8 with (fail)
     obtain ⟨wa,hwa⟩:∃ wa,wa=wr.alloc (.cells #[.int .i64 kd,.string t,.string d,.string ti,.string at_.id,.slice ac nc cc,.slice ap np cp,.slice aa ar.length ca,.slice ai ci.length gD,.slice ak nk ck] 66):=⟨_,rfl⟩;have hcb:CB 66 wr.heap.size [.int .i64 kd,.string t,.string d,.string ti,.string at_.id,.slice ac nc cc,.slice ap np cp,.slice aa ar.length ca,.slice ai ci.length gD,.slice ak nk ck] wa:=by rw [hwa];exact CB.new _ _ _
     have hba:Below w.heap.size w wa:=by rw [hwa];exact jg.out.alloc jg.out.size _
     rw [<- hwa];clear hwa c0 c1 c2 c3 c4 c5 c6 c7 c8 c9;have d1:=hcb.cell 1 _ rfl;have d2:=hcb.cell 2 _ rfl;have d3:=hcb.cell 3 _ rfl;have d4:=hcb.cell 4 _ rfl;have d5:=hcb.cell 5 _ rfl;have d6:=hcb.cell 6 _ rfl;have d7:=hcb.cell 7 _ rfl;have d8:=hcb.cell 8 _ rfl;have xQ:=hid hcb;have I8:=hid hba;have LG:=hid (Lf at_ _ _ wa (HR.out.at_.up hba) X5.out);clear hcb hba;by_cases h3:300<t.size+d.size+ti.size
     ·have e4:decide ((300:Int)<(t.size:Int)+(d.size:Int)+(ti.size:Int))=true:=by simp;omega
      go_wp2;go_ret;exact ⟨1000,rfl,by unfold Yk;omega,(fun h=>by omega),I8.out⟩
     have e4:decide ((300:Int)<(t.size:Int)+(d.size:Int)+(ti.size:Int))=false:=by simp;omega
     go_wp2_with fail
     refine LG.out.mono ?_;rintro e wb ⟨b,rfl,hsh,hbb⟩;have Ym:=q01 I8.out hbb;have Hz:=xQ.out.below hbb;have d7:=Hz.cell 7 _ rfl;have d8:=Hz.cell 8 _ rfl;have HSH:=hid hsh;have zS:=hid Ym;have Yb:=hid Hz;clear LG I8 xQ d1 d2 d3 d4 d5 d6 hsh hbb Ym Hz;cases b with
     | true=>
      exact Yl
     | false=>
     by_cases h4:9<ar.length
     ·have e5:decide ((9:Int)<(ar.length:Int))=true:=by simp;omega
      exact Yl
     have e5:decide ((9:Int)<(ar.length:Int))=false:=by simp;omega
     by_cases h5:9<ci.length
     ·have e6:decide ((9:Int)<(ci.length:Int))=true:=by simp;omega
      exact Yl
     have e6:decide ((9:Int)<(ci.length:Int))=false:=by simp;omega
     have R2:Hid (Wt2 m ar (.int .i64 m) (.int .i64 0)):=⟨0,m,jL3 _,rfl,rfl,Nat.le_refl _,by omega,(fun _=>by simp)⟩;have HAR:Hid (∀ j y,ar[j]?=some y->∃ b off,aa=some ⟨b,off,none⟩/\wb.cell? ⟨b,off+j,none⟩=some (.string y)/\y.size<=140737488351232):=by intro j y hy;obtain ⟨b,off,h1,h2,h3,h4⟩:=kM HSA.out hy;exact ⟨b,off,h1,(lI (zS.out.block b h2) _).trans h4,by have:=X6.out y (jL4 hy);rw [lq] at this;exact this⟩
     go_wp2
     go_loop [5,8] (fun vn vj=>Wt2 m ar vn vj) (fun _ j=>ar.length-(intOf j).toNat)
     case atStart=>exact R2.out
     case round=>
      clear R2;obtain ⟨j,m2,hj,rfl,rfl,hm2,TF,Lg⟩:=hrel;have HA2:=hid Lg;clear Lg;by_cases hjl:j<ar.length
      ·obtain ⟨y,hy⟩:∃ y,ar[j]?=some y:=⟨_,jK6 hjl⟩;obtain ⟨b,off2,rfl,cy,hys⟩:=HAR.out j y hy;have HY:=hid hy;clear hy;go_wp2
       go_round
       case rel=>
        refine ⟨j+1,m2+y.size/40,by omega,by go_num,by go_num,by omega,by omega,fun h6=>?_⟩;exact q31 HY.out (HA2.out (by omega)) (by omega)
       case measure=>simp [intOf];omega
      ·have jGj:j=ar.length:=by omega
       subst jGj;have HA3:Hid (m2<=120->∀ c∈ar,c.size<=5000):=fun h=>by have:=HA2.out h;rwa [jLx] at this
       have R3:Hid (Wt3 m2 ci wb (.int .i64 m2) (.int .i64 0) wb):=⟨0,m2,jL3 _,rfl,rfl,Nat.le_refl _,by omega,(fun _=>by simp),Below.refl _ _⟩;clear HA2 HAR;have HCI:Hid (∀ j y,ci[j]?=some y->∃ b off,ai=some ⟨b,off,none⟩/\b<wb.heap.size/\wb.cell? ⟨b,off+j*4,none⟩=some (.string y.key)/\wb.cell? ⟨b,off+j*4+1,none⟩=some (.string y.pre)/\wb.cell? ⟨b,off+j*4+2,none⟩=some (.string y.suf)/\wb.cell? ⟨b,off+j*4+3,none⟩=some (.bool y.bare)/\y.key.size<=140737488351232/\y.pre.size<=140737488351232/\y.suf.size<=140737488351232):=by intro j y hy;obtain ⟨b,off,h1,h2,h3,k0,k1,k2,k3⟩:=Mh HSI.out hy;have hw:=X8.out y (jL4 hy);unfold Ci.wf zl at hw;rw [lq] at hw;have hs:=lI (zS.out.block b h2);exact ⟨b,off,h1,Nat.lt_of_lt_of_le h3 zS.out.size,(hs _).trans k0,(hs _).trans k1,(hs _).trans k2,(hs _).trans k3,hw⟩
       go_wp2
       go_loopw [5,9] (fun vn vj wz=>Wt3 m2 ci wb vn vj wz) (fun _ j _=>ci.length-(intOf j).toNat)
       case atStart=>exact R3.out
       case round=>
        clear R3;obtain ⟨j,m4,hj,rfl,rfl,YV,hm5,jn9,hb3⟩:=hrel;have HA4:=hid jn9;have HB3:=hid hb3;have Yn:=Yb.out.below hb3;have f8:=Yn.cell 8 _ rfl;have f9:=Yn.cell 9 _ rfl;have hlt3:=Yn.lt;have jJk:=hid Yn;clear jn9 hb3 Yn;by_cases hjl:j<ci.length
        ·obtain ⟨y,hy⟩:∃ y,ci[j]?=some y:=⟨_,jK6 hjl⟩;obtain ⟨b,off2,rfl,Rk,k0,k1,k2,k3,s0,s1,s2⟩:=HCI.out j y hy;have hs:=lI (HB3.out.block b Rk);have k0:=(hs _).trans k0;have k1:=(hs _).trans k1;have k2:=(hs _).trans k2;have k3:=(hs _).trans k3;have HY:=hid hy;obtain ⟨yk,yp,ys,yb⟩:=y;dsimp only at k0 k1 k2 k3 s0 s1 s2;clear hy hs;go_wp2;go_roundw;case rel=>
          refine ⟨j+1,m4+(yk.size+yp.size+ys.size)/40,by omega,by go_num,by go_num,by omega,by omega,fun h6=>?_,HB3.out.alloc HB3.out.size _⟩;exact q31 HY.out (HA4.out (by omega)) ⟨by show yk.size<=5000;omega,by show yp.size<=5000;omega,by show ys.size<=5000;omega⟩
         case measure=>simp [intOf];omega
        ·have jGk:j=ci.length:=by omega
         subst jGk;have HA5:Hid (m4<=120->∀ c∈ci,c.key.size<=5000/\c.pre.size<=5000/\c.suf.size<=5000):=fun h=>by have:=HA4.out h;rwa [jLx] at this
         have hb4:=hid (q01 zS.out HB3.out);have RC:=hid (IH.out (aj.aU ks) (by omega) ks (dp+1) (.slice ak nk ck) wr (Nat.le_refl _) (by omega) (HR.out.kids.up hb4.out) X10.out);clear HA4 HCI;go_wp2_with fail
         refine RC.out.mono ?_;rintro e w5 ⟨wk,rfl,hwk,Cy,hb5⟩;have HW2:=hid Cy;have pJ:=hid (q01 hb4.out hb5);unfold Yk at hwk;clear Cy hb5 RC;go_wp2;go_roundw;case rel=>
          refine ⟨k+1,m4+wk,by omega,by go_num,by go_num,by unfold Yk;omega,(fun h=>?_),pJ.out⟩;obtain ⟨i1,i2⟩:=Gc.out (by omega);obtain ⟨j1,j2⟩:=HW2.out (by omega);have hsn:=aj.uJ HX.out;rw [aj.sz] at hsn;refine ⟨aj.pq HX.out i1 (by unfold aj.small;exact ⟨by omega,by omega,by omega,HSH.out trivial,by omega,by omega,HA3.out (by omega),HA5.out (by omega),j1⟩),by omega⟩
         case measure=>simp [intOf];omega
    ·have e3:decide ((m:Int)<(1000:Int))=false:=by simp;omega
     clear HS IH Zb;go_wp2;go_ret;exact ⟨m,rfl,by unfold Yk;omega,(fun h=>by omega),jg.out⟩
   ·have hkl:k=l.length:=by omega
    subst hkl;clear HS IH Zb;go_wp2;go_ret;refine ⟨m,rfl,by unfold Yk;omega,(fun h=>?_),jg.out⟩;have:=Gc.out h;rw [jLx] at this;exact ⟨this.1,by omega⟩
open Go.RowKit
theorem F8 {y z:ByteArray} (h:y≠z):(y.toList != z.toList)=true:=by rw [Lib.toList_data,Lib.toList_data];simp only [bne_iff_ne,ne_eq];intro e;exact h (ByteArray.ext (Array.ext' e))
theorem OI {y z:ByteArray} (h:y≠z):(y.toList==z.toList)=false:=by have:=F8 h;simpa [bne] using this
end Go.Proofs.YtkfnkeflalcphaaGreatDoor

