/- Arguments that came in, read as the document's data, with what the form's reach says of their sizes. publisherref04.long: whether attributes are many, or long. publisherref04.weight: how many parts inlines have. publisherref04.texts, Pairs, attrs, SameLine, SameBlocks, Same: they answer whether the data are equal. -/
import Derived.Deep.Slices
import Derived.ProofKit
import Derived.OpenShut
import Derived.Test.YtdneicipdlofiaaGreatDoorKAppend
set_option maxHeartbeats 8000000
set_option maxRecDepth 100000
open Go.Lib (hid)
namespace Go.Proofs.YtdneicipdlofiaaGreatDoor
open List renaming getElem?_eq_getElem->joq,mem_of_getElem?->jpk,getElem?_map->jq1,take_length->jq5
open Nat renaming zero_le->jpj
open Go renaming World->js1,Value->js3
open Go.RowKit Go.ChangeShapes Go.WideShapes Go.Deep
set_option linter.unusedVariables false
set_option linter.unusedSimpArgs false
section
variable {H:Type} {enc:TypeId × js3->H} {w:js1} {base:Nat} {spare:Nat->Bool} {held:Bool}
theorem aL.Ko {ok:Nat->Prop} {α:Type} (F:α->D) (R:α->List js3):∀ (L:List α),(∀ i∈L,Rd ok w (F i) (R i))->aL ok w (L.map F) (L.map R)
 | [],_=>aL.none
 | x::L,h=>aL.cons (h x (by simp)) (aL.Ko F R L (fun i hi=>h i (by simp [hi])))
def yH (P:Program) (t:TypeId) (d:DataW H):Prop:=(d.weights P t).all (·<=reachBytes)=true
theorem Kt {P:Program} {e:TypeId}:∀ {l:List (DataW H)},(DataW.weightsAll P e l).all (·<=reachBytes)=true->∀ d∈l,yH P e d
 | [],_,d,hd=>by cases hd
 | x::l,h,d,hd=>by
  rw [DataW.weightsAll,List.all_append,Bool.and_eq_true] at h;rcases List.mem_cons.1 hd with rfl | hd
  ·exact h.1
  ·exact Kt h.2 d hd
theorem wZ {P:Program}:∀ {ts:List TypeId} {l:List (DataW H)},(DataW.weightsEach P ts l).all (·<=reachBytes)=true->∀ (i:Nat) (t:TypeId) (d:DataW H),ts[i]?=some t->l[i]?=some d->yH P t d
 | [],_,_,i,t,d,ht,_=>by simp at ht
 | _::_,[],_,i,t,d,_,hd=>by simp at hd
 | t0::ts,d0::l,h,0,t,d,ht,hd=>by
  rw [DataW.weightsEach,List.all_append,Bool.and_eq_true] at h;simp at ht hd;subst ht hd;exact h.1
 | t0::ts,d0::l,h,i+1,t,d,ht,hd=>by
  rw [DataW.weightsEach,List.all_append,Bool.and_eq_true] at h;exact wZ h.2 i t d (by simpa using ht) (by simpa using hd)
theorem gG {P:Program} {t:TypeId} {fs:Array Field} {parts:List (DataW H)} (ht:P.underlying t=some (.struct fs)) (hw:yH P t (.agg parts)) (i:Nat) (f:Field) (d:DataW H) (hf:fs[i]?=some f) (hd:parts[i]?=some d):yH P f.type d:=by unfold yH at hw;rw [DataW.weights,ht] at hw;exact wZ hw i f.type d (by rw [jq1,Array.getElem?_toList,hf];rfl) hd
theorem ML {P:Program} {t e:TypeId} {elems spare:List (DataW H)} (ht:P.underlying t=some (.slice e)) (hw:yH P t (.slice elems spare)):elems.length*P.bytesOf e<=reachBytes/\∀ d∈elems,yH P e d:=by unfold yH at hw;rw [DataW.weights,ht] at hw;simp only [List.all_cons,List.all_append,Bool.and_eq_true,decide_eq_true_eq] at hw;refine ⟨Nat.le_trans (Nat.mul_le_mul_right _ (by omega)) hw.1,Kt hw.2.1⟩
theorem Ku {P:Program} {t:TypeId} {s:ByteArray} (hw:yH P t (.lit (.string s.data.toList):DataW H)):s.size<=reachBytes:=by unfold yH at hw;rw [DataW.weights] at hw;simpa using hw
theorem len2:∀ {l:List js3},l.length=2->∃ c0 c1,l=[c0,c1]
 | [c0,c1],_=>⟨_,_,rfl⟩
theorem jl8:∀ {l:List js3},l.length=3->∃ c0 c1 c2,l=[c0,c1,c2]
 | [c0,c1,c2],_=>⟨_,_,_,rfl⟩
theorem jl9:∀ {l:List js3},l.length=4->∃ c0 c1 c2 c3,l=[c0,c1,c2,c3]
 | [c0,c1,c2,c3],_=>⟨_,_,_,_,rfl⟩
theorem jfq:∀ {l:List js3},l.length=10->∃ c0 c1 c2 c3 c4 c5 c6 c7 c8 c9,l=[c0,c1,c2,c3,c4,c5,c6,c7,c8,c9]
 | [c0,c1,c2,c3,c4,c5,c6,c7,c8,c9],_=>⟨_,_,_,_,_,_,_,_,_,_,rfl⟩
theorem jfx:∀ {l:List js3},l.length=11->∃ c0 c1 c2 c3 c4 c5 c6 c7 c8 c9 c10,l=[c0,c1,c2,c3,c4,c5,c6,c7,c8,c9,c10]
 | [c0,c1,c2,c3,c4,c5,c6,c7,c8,c9,c10],_=>⟨_,_,_,_,_,_,_,_,_,_,_,rfl⟩
theorem jF {P:Program} {α:Type} [Inhabited α] (f:α->D) (OK:α->Prop) {fuel:Nat} {t e:TypeId} {k:Nat} {cs:List js3} {x:DataW H × List MemPlace} (ht:P.underlying t=some (.slice e)) (hk:P.cellsOf e=k) (hk0:0<k) (hel:∀ n cs' y,n<fuel->DataW.trod enc P w base spare held n e cs'=some y->yH P e y.1->∃ a:α,OK a/\Rd (·<w.heap.size) w (f a) cs') (h:DataW.trod enc P w base spare held fuel t cs=some x) (hw:yH P t x.1):∃ l:List α,(∀ a∈l,OK a)/\l.length*P.bytesOf e<=reachBytes/\Rd (·<w.heap.size) w (.sl k (l.map f)) cs:=by
 subst hk;rcases DataW.trod_slice ht h with ⟨rfl,_⟩ | ⟨a,len,cap,elems,rest,n,rfl,rfl,MN,hb,hl,hm,hlen,jlj,_⟩
 ·exact ⟨[],by simp,by simp,Rd.aR _ _ _⟩
 rw [MN] at hw;obtain ⟨hwl,hwe⟩:=ML ht hw;rw [List.length_map] at hwl;have key:∀ i,i<len->∃ p:α × List js3,OK p.1/\Rd (·<w.heap.size) w (f p.1) p.2/\p.2.length=P.cellsOf e/\∀ j,j<P.cellsOf e->w.cell? ((a.add (i*P.cellsOf e)).add j)=p.2[j]?:=by intro i hi;have h1:=jlj i hi;rw [joq (by omega)] at h1;obtain ⟨cs',h2,h3⟩:=Option.bind_eq_some_iff.1 h1;obtain ⟨_,h4,h5⟩:=World.cells?_some h2;obtain ⟨y,hy1,hy2⟩:=hel n cs' _ (by omega) h3 (hwe _ (List.mem_map.2 ⟨_,List.getElem_mem _,rfl⟩));exact ⟨(y,cs'),hy1,hy2,h4,h5⟩
 obtain ⟨p,hp⟩:=choose_lt (α:=α × List js3) key;refine ⟨(List.range len).map fun i=>(p i).1,?_,by rw [List.length_map,List.length_range];rw [hlen] at hwl;exact hwl,?_⟩
 ·intro y hy;obtain ⟨i,hi,rfl⟩:=List.mem_map.1 hy;exact (hp i (List.mem_range.1 hi)).1
 rw [List.map_map];have hL:=aL.Ko (ok:=(·<w.heap.size)) (w:=w) (f ∘ fun i=>(p i).1) (fun i=>(p i).2) (List.range len) (fun i hi=>(hp i (List.mem_range.1 hi)).2.1);have hrl:∀ r∈(List.range len).map (fun i=>(p i).2),r.length=P.cellsOf e:=by intro r hr;obtain ⟨i,hi,rfl⟩:=List.mem_map.1 hr;exact (hp i (List.mem_range.1 hi)).2.2.1
 have En:((List.range len).map (f ∘ fun i=>(p i).1)).length=len:=by simp
 unfold Rd;refine ⟨some a,cap,_,by rw [En],by omega,hm,hL,hrl,?_⟩;rw [En];rcases Nat.eq_zero_or_pos len with h0 | h0
 ·exact .inl h0
 ·obtain ⟨b,off,spot⟩:=a;have c0:=(hp 0 h0).2.2.2 0 hk0;have hl0:=(hp 0 h0).2.2.1;rw [joq (by omega)] at c0;have hspot:spot=none:=by simpa [Addr.add] using World.cell?_spot c0
  subst hspot;have plain:∀ (o j:Nat),((⟨b,o,none⟩:Addr).add j)=⟨b,o+j,none⟩:=by intro o j;unfold Addr.add;split<;>simp_all
  rw [plain,plain] at c0;refine .inr ⟨b,off,rfl,jY c0,jY c0,fun j u hu=>?_⟩;have hj:j<len*P.cellsOf e:=by have h1:=(List.getElem?_eq_some_iff.1 hu).1;rw [qp (P.cellsOf e) _ hrl] at h1;simpa using h1
  have hi:j/P.cellsOf e<len:=Nat.div_lt_of_lt_mul (by rw [Nat.mul_comm];exact hj);have hr:j%P.cellsOf e<P.cellsOf e:=Nat.mod_lt _ hk0;have ej:j/P.cellsOf e*P.cellsOf e+j%P.cellsOf e=j:=by rw [Nat.mul_comm];exact Nat.div_add_mod j _
  have c1:=(hp _ hi).2.2.2 _ hr;have hlr:=(hp _ hi).2.2.1;rw [joq (by omega),plain,plain,Nat.add_assoc,ej] at c1;have hf:=flat_get (P.cellsOf e) _ hrl (j/P.cellsOf e) (j%P.cellsOf e) (p (j/P.cellsOf e)).2 _ (by rw [jq1,List.getElem?_range hi];rfl) (joq (by omega));rw [ej,hu] at hf;rw [c1];exact hf.symm
instance:Inhabited Pr:=⟨⟨.empty,.empty⟩⟩
instance:Inhabited Ci:=⟨⟨.empty,.empty,.empty,false⟩⟩
instance:Inhabited At:=⟨⟨.empty,[],[]⟩⟩
instance:Inhabited aj:=⟨.mk 0 .empty .empty .empty default [] [] []⟩
instance:Inhabited ah:=⟨.mk 0 0 .empty .empty .empty .empty default [] []⟩
def vD (s:ByteArray):Prop:=s.size<=reachBytes
def iOk (n:Int):Prop:=-9223372036854775808<=n/\n<=9223372036854775807
def Pr.wf (p:Pr):Prop:=vD p.key/\vD p.val
def Ci.wf (p:Ci):Prop:=vD p.key/\vD p.pre/\vD p.suf
def At.wf (a:At):Prop:=vD a.id/\(∀ c∈a.cls,vD c)/\a.cls.length<=reachBytes/\(∀ p∈a.aJ,p.wf)/\a.aJ.length<=reachBytes
mutual
def aj.wf:aj->Prop
 | .mk k t d ti a ar ci ks=>iOk k/\vD t/\vD d/\vD ti/\a.wf/\(∀ c∈ar,vD c)/\ar.length<=reachBytes/\(∀ c∈ci,c.wf)/\ci.length<=reachBytes/\aj.uL ks/\ks.length<=reachBytes
def aj.uL:List aj->Prop
 | []=>True
 | x::l=>x.wf/\aj.uL l
end
mutual
def ah.wf:ah->Prop
 | .mk k lv i t d ti a li ks=>iOk k/\iOk lv/\vD i/\vD t/\vD d/\vD ti/\a.wf/\aj.uL li/\li.length<=reachBytes/\ah.uL ks/\ks.length<=reachBytes
def ah.uL:List ah->Prop
 | []=>True
 | x::l=>x.wf/\ah.uL l
end
theorem aj.qg:∀ (l:List aj),(∀ x∈l,x.wf)->aj.uL l
 | [],_=>by unfold aj.uL;trivial
 | x::l,h=>by unfold aj.uL;exact ⟨h x (by simp),aj.qg l (fun y hy=>h y (by simp [hy]))⟩
theorem ah.qg:∀ (l:List ah),(∀ x∈l,x.wf)->ah.uL l
 | [],_=>by unfold ah.uL;trivial
 | x::l,h=>by unfold ah.uL;exact ⟨h x (by simp),ah.qg l (fun y hy=>h y (by simp [hy]))⟩
theorem Ji {n:Int} (h:(Lit.int .i64 n).wf=true):iOk n:=by have:=bounds_i64 h;exact this
section
variable {fuel:Nat} {cs:List js3} {x:DataW H × List MemPlace}
theorem cS:Tryz.prog.cellsOf 9=1:=by kernel_rfl
theorem cI:Tryz.prog.cellsOf 3=1:=by kernel_rfl
theorem cB:Tryz.prog.cellsOf 4=1:=by kernel_rfl
theorem cP:Tryz.prog.cellsOf 60=2:=by kernel_rfl
theorem cC:Tryz.prog.cellsOf 126=4:=by kernel_rfl
theorem cA:Tryz.prog.cellsOf 37=3:=by kernel_rfl
theorem cIn:Tryz.prog.cellsOf 43=10:=by kernel_rfl
theorem cBl:Tryz.prog.cellsOf 40=11:=by kernel_rfl
theorem cLS:Tryz.prog.cellsOf 35=1:=by kernel_rfl
theorem cLP:Tryz.prog.cellsOf 22=1:=by kernel_rfl
theorem cLC:Tryz.prog.cellsOf 41=1:=by kernel_rfl
theorem cLI:Tryz.prog.cellsOf 38=1:=by kernel_rfl
theorem cLB:Tryz.prog.cellsOf 23=1:=by kernel_rfl
theorem cD:Tryz.prog.cellsOf 25=2:=by kernel_rfl
theorem qh {n k:Nat} (h:n*k<=reachBytes) (hk:1<=k):n<=reachBytes:=Nat.le_trans (Nat.le_mul_of_pos_right n hk) h
theorem yS:1<=Tryz.prog.bytesOf 9:=by decide +kernel
theorem yP:1<=Tryz.prog.bytesOf 60:=by decide +kernel
theorem yC:1<=Tryz.prog.bytesOf 126:=by decide +kernel
theorem yI:1<=Tryz.prog.bytesOf 43:=by decide +kernel
theorem yB:1<=Tryz.prog.bytesOf 40:=by decide +kernel
theorem Kv (h:DataW.trod enc Tryz.prog w base spare held fuel 35 cs=some x) (hw:yH Tryz.prog 35 x.1):∃ l:List ByteArray,(∀ s∈l,vD s)/\l.length<=reachBytes/\Rd (·<w.heap.size) w (dZ l) cs:=by
 obtain ⟨l,h1,h2,h3⟩:=jF D.str vD Tryz.underlying35 cS (by decide) (fun n cs' y _ hy MO=>by
  obtain ⟨s,rfl,rfl,hs⟩:=DataW.trod_string Tryz.underlying9 hy;exact ⟨s,Ku MO,Rd.dM _ _ _⟩) h hw
 exact ⟨l,h1,qh h2 yS,h3⟩
theorem Un (h:DataW.trod enc Tryz.prog w base spare held fuel 60 cs=some x) (hw:yH Tryz.prog 60 x.1):∃ p:Pr,p.wf/\Rd (·<w.heap.size) w p.d cs:=by
 obtain ⟨xs,n,rfl,MN,hlen,hxl,hf⟩:=DataW.trod_struct Tryz.underlying60 h;rw [MN] at hw;have hwf:=fun i f d=>gG Tryz.underlying60 hw i f d
 rw [cP] at hlen;obtain ⟨c0,c1,rfl⟩:=len2 hlen;have f0:=hf 0 _ rfl;have f1:=hf 1 _ rfl;have hx2:xs.length=2:=by rw [hxl];rfl
 rw [joq (by omega)] at f0 f1;simp only [cS,List.getElem_toArray,List.getElem_cons_zero,List.getElem_cons_succ,List.drop_zero,List.drop_succ_cons,List.take_succ_cons,List.take_zero] at f0 f1;obtain ⟨s0,e0,x0,_⟩:=DataW.trod_string Tryz.underlying9 f0;have h0:s0.size<=reachBytes:=Ku (P:=Tryz.prog) (t:=9) (by have h':=hwf 0 _ _ rfl (by rw [jq1,joq (by omega)];rfl);rw [x0] at h';exact h');obtain ⟨s1,e1,x1,_⟩:=DataW.trod_string Tryz.underlying9 f1;have h1:s1.size<=reachBytes:=Ku (P:=Tryz.prog) (t:=9) (by have h':=hwf 1 _ _ rfl (by rw [jq1,joq (by omega)];rfl);rw [x1] at h';exact h');cases e0;cases e1
 exact ⟨⟨s0,s1⟩,⟨h0,h1⟩,Pr.l6 _ _ ⟨s0,s1⟩⟩
theorem QI (h:DataW.trod enc Tryz.prog w base spare held fuel 126 cs=some x) (hw:yH Tryz.prog 126 x.1):∃ p:Ci,p.wf/\Rd (·<w.heap.size) w p.d cs:=by
 obtain ⟨xs,n,rfl,MN,hlen,hxl,hf⟩:=DataW.trod_struct Tryz.underlying126 h;rw [MN] at hw;have hwf:=fun i f d=>gG Tryz.underlying126 hw i f d
 rw [cC] at hlen;obtain ⟨c0,c1,c2,c3,rfl⟩:=jl9 hlen;have f0:=hf 0 _ rfl;have f1:=hf 1 _ rfl;have f2:=hf 2 _ rfl;have f3:=hf 3 _ rfl;have hx2:xs.length=4:=by rw [hxl];rfl
 rw [joq (by omega)] at f0 f1 f2 f3;simp only [cS,cB,List.getElem_toArray,List.getElem_cons_zero,List.getElem_cons_succ,List.drop_zero,List.drop_succ_cons,List.take_succ_cons,List.take_zero] at f0 f1 f2 f3;obtain ⟨s0,e0,x0,_⟩:=DataW.trod_string Tryz.underlying9 f0;have h0:s0.size<=reachBytes:=Ku (P:=Tryz.prog) (t:=9) (by have h':=hwf 0 _ _ rfl (by rw [jq1,joq (by omega)];rfl);rw [x0] at h';exact h');obtain ⟨s1,e1,x1,_⟩:=DataW.trod_string Tryz.underlying9 f1;have h1:s1.size<=reachBytes:=Ku (P:=Tryz.prog) (t:=9) (by have h':=hwf 1 _ _ rfl (by rw [jq1,joq (by omega)];rfl);rw [x1] at h';exact h');obtain ⟨s2,e2,x2,_⟩:=DataW.trod_string Tryz.underlying9 f2;have h2:s2.size<=reachBytes:=Ku (P:=Tryz.prog) (t:=9) (by have h':=hwf 2 _ _ rfl (by rw [jq1,joq (by omega)];rfl);rw [x2] at h';exact h');obtain ⟨b,e3,_⟩:=DataW.trod_bool Tryz.underlying4 f3;cases e0;cases e1;cases e2;cases e3
 exact ⟨⟨s0,s1,s2,b⟩,⟨h0,h1,h2⟩,Ci.l6 _ _ ⟨s0,s1,s2,b⟩⟩
theorem Gj (h:DataW.trod enc Tryz.prog w base spare held fuel 22 cs=some x) (hw:yH Tryz.prog 22 x.1):∃ l:List Pr,(∀ s∈l,s.wf)/\l.length<=reachBytes/\Rd (·<w.heap.size) w (Co l) cs:=by obtain ⟨l,h1,h2,h3⟩:=jF Pr.d Pr.wf Tryz.underlying22 cP (by decide) (fun n cs' y _ hy MO=>Un hy MO) h hw;exact ⟨l,h1,qh h2 yP,h3⟩
theorem QJ (h:DataW.trod enc Tryz.prog w base spare held fuel 41 cs=some x) (hw:yH Tryz.prog 41 x.1):∃ l:List Ci,(∀ s∈l,s.wf)/\l.length<=reachBytes/\Rd (·<w.heap.size) w (PE l) cs:=by obtain ⟨l,h1,h2,h3⟩:=jF Ci.d Ci.wf Tryz.underlying41 cC (by decide) (fun n cs' y _ hy MO=>QI hy MO) h hw;exact ⟨l,h1,qh h2 yC,h3⟩
theorem Kw (h:DataW.trod enc Tryz.prog w base spare held fuel 37 cs=some x) (hw:yH Tryz.prog 37 x.1):∃ (a:At) (vc vp:js3),a.wf/\cs=[.string a.id,vc,vp]/\AtR (·<w.heap.size) w a vc vp:=by
 obtain ⟨xs,n,rfl,MN,hlen,hxl,hf⟩:=DataW.trod_struct Tryz.underlying37 h;rw [MN] at hw;have hwf:=fun i f d=>gG Tryz.underlying37 hw i f d
 rw [cA] at hlen;obtain ⟨c0,c1,c2,rfl⟩:=jl8 hlen;have f0:=hf 0 _ rfl;have f1:=hf 1 _ rfl;have f2:=hf 2 _ rfl;have hx2:xs.length=3:=by rw [hxl];rfl
 rw [joq (by omega)] at f0 f1 f2;simp only [cS,cLS,cLP,List.getElem_toArray,List.getElem_cons_zero,List.getElem_cons_succ,List.drop_zero,List.drop_succ_cons,List.take_succ_cons,List.take_zero] at f0 f1 f2;obtain ⟨s0,e0,x0,_⟩:=DataW.trod_string Tryz.underlying9 f0;have h0:s0.size<=reachBytes:=Ku (P:=Tryz.prog) (t:=9) (by have h':=hwf 0 _ _ rfl (by rw [jq1,joq (by omega)];rfl);rw [x0] at h';exact h');obtain ⟨cl,k1,k2,k3⟩:=Kv f1 (hwf 1 _ _ rfl (by rw [jq1,joq (by omega)];rfl));obtain ⟨pr,m1,m2,m3⟩:=Gj f2 (hwf 2 _ _ rfl (by rw [jq1,joq (by omega)];rfl));cases e0
 exact ⟨⟨s0,cl,pr⟩,c1,c2,⟨h0,k1,k2,m1,m2⟩,rfl,k3,m3⟩
theorem Yr:∀ (fuel:Nat) (cs:List js3) (x:DataW H × List MemPlace),DataW.trod enc Tryz.prog w base spare held fuel 43 cs=some x->yH Tryz.prog 43 x.1->∃ p:aj,p.wf/\Rd (·<w.heap.size) w p.d cs:=by
 intro fuel;induction fuel using Nat.strongRecOn with
 | _ fuel ih=>
  intro cs x h hw;obtain ⟨xs,n,rfl,MN,hlen,hxl,hf⟩:=DataW.trod_struct Tryz.underlying43 h;rw [MN] at hw;have hwf:=fun i f d=>gG Tryz.underlying43 hw i f d
  rw [cIn] at hlen;obtain ⟨c0,c1,c2,c3,c4,c5,c6,c7,c8,c9,rfl⟩:=jfq hlen;have f0:=hf 0 _ rfl;have f1:=hf 1 _ rfl;have f2:=hf 2 _ rfl;have f3:=hf 3 _ rfl;have f4:=hf 4 _ rfl;have f5:=hf 5 _ rfl;have f6:=hf 6 _ rfl;have f7:=hf 7 _ rfl;have hx2:xs.length=8:=by rw [hxl];rfl
  rw [joq (by omega)] at f0 f1 f2 f3 f4 f5 f6 f7;simp only [cI,cS,cA,cLS,cLC,cLI,List.getElem_toArray,List.getElem_cons_zero,List.getElem_cons_succ,List.drop_zero,List.drop_succ_cons,List.take_succ_cons,List.take_zero] at f0 f1 f2 f3 f4 f5 f6 f7;obtain ⟨k,e0,_,h0⟩:=DataW.trod_int Tryz.underlying3 f0;obtain ⟨s1,e1,x1,_⟩:=DataW.trod_string Tryz.underlying9 f1;have h1:s1.size<=reachBytes:=Ku (P:=Tryz.prog) (t:=9) (by have h':=hwf 1 _ _ rfl (by rw [jq1,joq (by omega)];rfl);rw [x1] at h';exact h');obtain ⟨s2,e2,x2,_⟩:=DataW.trod_string Tryz.underlying9 f2;have h2:s2.size<=reachBytes:=Ku (P:=Tryz.prog) (t:=9) (by have h':=hwf 2 _ _ rfl (by rw [jq1,joq (by omega)];rfl);rw [x2] at h';exact h');obtain ⟨s3,e3,x3,_⟩:=DataW.trod_string Tryz.underlying9 f3;have h3:s3.size<=reachBytes:=Ku (P:=Tryz.prog) (t:=9) (by have h':=hwf 3 _ _ rfl (by rw [jq1,joq (by omega)];rfl);rw [x3] at h';exact h');obtain ⟨a,vc,vp,h4,e4,hA⟩:=Kw f4 (hwf 4 _ _ rfl (by rw [jq1,joq (by omega)];rfl));obtain ⟨ar,k1,k2,k3⟩:=Kv f5 (hwf 5 _ _ rfl (by rw [jq1,joq (by omega)];rfl));obtain ⟨ci,m1,m2,m3⟩:=QJ f6 (hwf 6 _ _ rfl (by rw [jq1,joq (by omega)];rfl));obtain ⟨ks,n1,n2,n3⟩:=jF aj.d aj.wf Tryz.underlying38 cIn (by decide) (fun m cs' y hm hy MO=>ih m (by omega) cs' y hy MO) f7 (hwf 7 _ _ rfl (by rw [jq1,joq (by omega)];rfl));cases e0;cases e1;cases e2;cases e3;cases e4
  exact ⟨.mk k s1 s2 s3 a ar ci ks,by unfold aj.wf;exact ⟨Ji h0,h1,h2,h3,h4,k1,k2,m1,m2,aj.qg _ n1,qh n2 yI⟩,aj.l6 _ _ _ _ ⟨hA,k3,m3,n3⟩⟩
theorem Uo (h:DataW.trod enc Tryz.prog w base spare held fuel 38 cs=some x) (hw:yH Tryz.prog 38 x.1):∃ l:List aj,aj.uL l/\l.length<=reachBytes/\Rd (·<w.heap.size) w (fK l) cs:=by obtain ⟨ks,n1,n2,n3⟩:=jF aj.d aj.wf Tryz.underlying38 cIn (by decide) (fun m cs' y hm hy MO=>Yr m cs' y hy MO) h hw;exact ⟨ks,aj.qg _ n1,qh n2 yI,n3⟩
theorem Yt:∀ (fuel:Nat) (cs:List js3) (x:DataW H × List MemPlace),DataW.trod enc Tryz.prog w base spare held fuel 40 cs=some x->yH Tryz.prog 40 x.1->∃ p:ah,p.wf/\Rd (·<w.heap.size) w p.d cs:=by
 intro fuel;induction fuel using Nat.strongRecOn with
 | _ fuel ih=>
  intro cs x h hw;obtain ⟨xs,n,rfl,MN,hlen,hxl,hf⟩:=DataW.trod_struct Tryz.underlying40 h;rw [MN] at hw;have hwf:=fun i f d=>gG Tryz.underlying40 hw i f d
  rw [cBl] at hlen;obtain ⟨c0,c1,c2,c3,c4,c5,c6,c7,c8,c9,c10,rfl⟩:=jfx hlen;have f0:=hf 0 _ rfl;have f1:=hf 1 _ rfl;have f2:=hf 2 _ rfl;have f3:=hf 3 _ rfl;have f4:=hf 4 _ rfl;have f5:=hf 5 _ rfl;have f6:=hf 6 _ rfl;have f7:=hf 7 _ rfl;have f8:=hf 8 _ rfl;have hx2:xs.length=9:=by rw [hxl];rfl
  rw [joq (by omega)] at f0 f1 f2 f3 f4 f5 f6 f7 f8;simp only [cI,cS,cA,cLI,cLB,List.getElem_toArray,List.getElem_cons_zero,List.getElem_cons_succ,List.drop_zero,List.drop_succ_cons,List.take_succ_cons,List.take_zero] at f0 f1 f2 f3 f4 f5 f6 f7 f8;obtain ⟨k,e0,_,h0⟩:=DataW.trod_int Tryz.underlying3 f0;obtain ⟨lv,e1,_,h1⟩:=DataW.trod_int Tryz.underlying3 f1;obtain ⟨s2,e2,x2,_⟩:=DataW.trod_string Tryz.underlying9 f2;have h2:s2.size<=reachBytes:=Ku (P:=Tryz.prog) (t:=9) (by have h':=hwf 2 _ _ rfl (by rw [jq1,joq (by omega)];rfl);rw [x2] at h';exact h');obtain ⟨s3,e3,x3,_⟩:=DataW.trod_string Tryz.underlying9 f3;have h3:s3.size<=reachBytes:=Ku (P:=Tryz.prog) (t:=9) (by have h':=hwf 3 _ _ rfl (by rw [jq1,joq (by omega)];rfl);rw [x3] at h';exact h');obtain ⟨s4,e4,x4,_⟩:=DataW.trod_string Tryz.underlying9 f4;have h4:s4.size<=reachBytes:=Ku (P:=Tryz.prog) (t:=9) (by have h':=hwf 4 _ _ rfl (by rw [jq1,joq (by omega)];rfl);rw [x4] at h';exact h');obtain ⟨s5,e5,x5,_⟩:=DataW.trod_string Tryz.underlying9 f5;have h5:s5.size<=reachBytes:=Ku (P:=Tryz.prog) (t:=9) (by have h':=hwf 5 _ _ rfl (by rw [jq1,joq (by omega)];rfl);rw [x5] at h';exact h');obtain ⟨a,vc,vp,h6,e6,hA⟩:=Kw f6 (hwf 6 _ _ rfl (by rw [jq1,joq (by omega)];rfl));obtain ⟨li,k1,k2,k3⟩:=Uo f7 (hwf 7 _ _ rfl (by rw [jq1,joq (by omega)];rfl));obtain ⟨ks,n1,n2,n3⟩:=jF ah.d ah.wf Tryz.underlying23 cBl (by decide) (fun m cs' y hm hy MO=>ih m (by omega) cs' y hy MO) f8 (hwf 8 _ _ rfl (by rw [jq1,joq (by omega)];rfl));cases e0;cases e1;cases e2;cases e3;cases e4;cases e5;cases e6
  exact ⟨.mk k lv s2 s3 s4 s5 a li ks,by unfold ah.wf;exact ⟨Ji h0,Ji h1,h2,h3,h4,h5,h6,k1,k2,ah.qg _ n1,qh n2 yB⟩,ah.l6 _ _ _ _ _ _ ⟨hA,k3,n3⟩⟩
theorem Uq (h:DataW.trod enc Tryz.prog w base spare held fuel 23 cs=some x) (hw:yH Tryz.prog 23 x.1):∃ l:List ah,ah.uL l/\l.length<=reachBytes/\Rd (·<w.heap.size) w (om l) cs:=by obtain ⟨ks,n1,n2,n3⟩:=jF ah.d ah.wf Tryz.underlying23 cBl (by decide) (fun m cs' y hm hy MO=>Yt m cs' y hy MO) h hw;exact ⟨ks,ah.qg _ n1,qh n2 yB,n3⟩
theorem Xp (h:DataW.trod enc Tryz.prog w base spare held fuel 25 cs=some x) (hw:yH Tryz.prog 25 x.1):∃ (me:List Pr) (l:List ah) (vm vb:js3),(∀ p∈me,p.wf)/\me.length<=reachBytes/\ah.uL l/\l.length<=reachBytes/\cs=[vm,vb]/\Rd (·<w.heap.size) w (Co me) [vm]/\Rd (·<w.heap.size) w (om l) [vb]:=by
 obtain ⟨xs,n,rfl,MN,hlen,hxl,hf⟩:=DataW.trod_struct Tryz.underlying25 h;rw [MN] at hw;have hwf:=fun i f d=>gG Tryz.underlying25 hw i f d
 rw [cD] at hlen;obtain ⟨c0,c1,rfl⟩:=len2 hlen;have f0:=hf 0 _ rfl;have f1:=hf 1 _ rfl;have hx2:xs.length=2:=by rw [hxl];rfl
 rw [joq (by omega)] at f0 f1;simp only [cLP,cLB,List.getElem_toArray,List.getElem_cons_zero,List.getElem_cons_succ,List.drop_zero,List.drop_succ_cons,List.take_succ_cons,List.take_zero] at f0 f1;obtain ⟨me,k1,k2,k3⟩:=Gj f0 (hwf 0 _ _ rfl (by rw [jq1,joq (by omega)];rfl));obtain ⟨l,n1,n2,n3⟩:=Uq f1 (hwf 1 _ _ rfl (by rw [jq1,joq (by omega)];rfl));exact ⟨me,l,c0,c1,k1,k2,n1,n2,rfl,k3,n3⟩
end
end
open Go.RowKit
def At.short (a:At):Prop:=a.cls.length<=40/\a.aJ.length<=40/\a.id.size<=600/\(∀ c∈a.cls,c.size<=600)/\∀ p∈a.aJ,p.key.size<=600/\p.val.size<=600
theorem q1w {α:Type} {P:α->Prop} {l:List α} {k:Nat} {y:α} (hy:l[k]?=some y) (h:∀ x∈l.take k,P x) (h2:P y):∀ x∈l.take (k+1),P x:=by
 rw [List.take_add_one,hy];intro x hx;rcases List.mem_append.1 hx with hx | hx
 ·exact h x hx
 ·simp at hx;rw [hx];exact h2
theorem CU {ok:Nat->Prop} {w:js1} {l:List Pr} {a:Option Addr} {cap:Nat} (h:rU ok w 2 (l.map Pr.d) a cap) {k:Nat} {p:Pr} (hk:l[k]?=some p) : ∃ b off,a=some ⟨b,off,none⟩/\ok b/\b<w.heap.size/\w.cell? ⟨b,off+k*2,none⟩=some (.string p.key)/\w.cell? ⟨b,off+k*2+1,none⟩=some (.string p.val):=by
 have hlt:k<l.length:=(List.getElem?_eq_some_iff.1 hk).1;obtain ⟨b,off,ha,hok,hb,hc⟩:=h.at_ (by simpa using Nat.lt_of_le_of_lt (jpj _) hlt)
 obtain ⟨r,hr,hl,hcell⟩:=hc k _ (by rw [jq1,hk];rfl);rw [Pr.open_ hr] at hcell;exact ⟨b,off,ha,hok,hb,hcell 0 _ rfl,by rw [Nat.add_assoc];exact hcell 1 _ rfl⟩
def zP:Nat:=140737488351232
theorem jW:reachBytes=zP:=by decide
def Lg1 (a:At) (vn vi:js3):Prop:=∃ k n:Nat,k<=a.cls.length/\vi=.int .i64 k/\vn=.int .i64 n/\n<=zP*(k+1)/\(n<=600->a.id.size<=600/\∀ c∈a.cls.take k,c.size<=600)
def Lg2 (a:At) (w0:js1) (vn vi:js3) (wr:js1):Prop:=∃ k n q:Nat,k<=a.aJ.length/\vi=.int .i64 k/\vn=.int .i64 n/\n<=zP*(41+2*k)/\(n<=600->a.id.size<=600/\(∀ c∈a.cls,c.size<=600)/\∀ p∈a.aJ.take k,p.key.size<=600/\p.val.size<=600)/\wr=w0.drewN q
theorem Gl (a:At) (vc vp:js3) (w:js1) (h:AtR (·<w.heap.size) w a vc vp) (hwf:a.wf) : Calls Tryz.prog 55 #[.agg #[.string a.id,vc,vp]] w fun e w'=>∃ b,e=.returned (.bool b)/\(b=false->a.short)/\Below w.heap.size w w':=by
 obtain ⟨w1,w2,w3,w4,w5⟩:=hwf;unfold vD at w1;rw [jW] at w1 w3 w5;obtain ⟨ac,cc,hvc,hsc⟩:=Rd.aC h.cls;obtain ⟨ap,cp,hvp,hsp⟩:=Rd.aC h.aJ;obtain rfl:vc=.slice ac a.cls.length cc:=by simpa using hvc
 obtain rfl:vp=.slice ap a.aJ.length cp:=by simpa using hvp
 have hcl:a.cls.length<=cc:=by simpa using hsc.le
 have hpl:a.aJ.length<=cp:=by simpa using hsp.le
 have hcm:=hsc.max;have hpm:=hsp.max;unfold maxLen at hcm hpm;obtain ⟨w0,hw0⟩:∃ w0,w0=w.alloc (.cells #[.string a.id,.slice ac a.cls.length cc,.slice ap a.aJ.length cp] 37):=⟨_,rfl⟩;have hb0:Below w.heap.size w w0:=by rw [hw0];exact (Below.refl _ _).alloc (Nat.le_refl _) _
 have q0:w0.cell? ⟨w.heap.size,0,none⟩=some (.string a.id):=by rw [hw0];exact q16 w [.string a.id,.slice ac a.cls.length cc,.slice ap a.aJ.length cp] _ 0 _ rfl
 have q1:w0.cell? ⟨w.heap.size,1,none⟩=some (.slice ac a.cls.length cc):=by rw [hw0];exact q16 w [.string a.id,.slice ac a.cls.length cc,.slice ap a.aJ.length cp] _ 1 _ rfl
 have q2:w0.cell? ⟨w.heap.size,2,none⟩=some (.slice ap a.aJ.length cp):=by rw [hw0];exact q16 w [.string a.id,.slice ac a.cls.length cc,.slice ap a.aJ.length cp] _ 2 _ rfl
 have HC:Hid (∀ k y,a.cls[k]?=some y->∃ b off,ac=some ⟨b,off,none⟩/\w0.cell? ⟨b,off+k,none⟩=some (.string y)):=by
  intro k y hy;obtain ⟨b,off,ha,hok,hb,hc⟩:=hsc.at_ (by have:=(List.getElem?_eq_some_iff.1 hy).1;simpa using Nat.lt_of_le_of_lt (jpj _) this)
  obtain ⟨r,hr,hl,hcell⟩:=hc k _ (by rw [jq1,hy];rfl);obtain rfl:=hr.aY;have:=hcell 0 _ rfl;rw [Nat.mul_one,Nat.add_zero] at this;exact ⟨b,off,ha,(iZ (hb0.block b hok) _).trans this⟩
 have HP:Hid (∀ k p,a.aJ[k]?=some p->∃ b off,ap=some ⟨b,off,none⟩/\w0.cell? ⟨b,off+k*2,none⟩=some (.string p.key)/\w0.cell? ⟨b,off+k*2+1,none⟩=some (.string p.val)):=by intro k p hp;obtain ⟨b,off,ha,hok,hb,c0,c1⟩:=CU hsp hp;exact ⟨b,off,ha,(iZ (hb0.block b hok) _).trans c0,(iZ (hb0.block b hok) _).trans c1⟩
 have HB0:=hid hb0;have W2:=hid w2;have W4:=hid w4;clear h hsc hsp hvc hvp w2 w4 hb0;by_cases h40:40<a.cls.length
 ·have e1:decide ((40:Int)<(a.cls.length:Int))=true:=by simp;omega
  clear HC HP W2 W4;go_enter Tryz.func55,Tryz.ntmps55;go_upto_region 2 with (fail)
  rw [<- hw0];clear hw0;go_wp2;go_ret;exact ⟨true,rfl,(fun h=>by cases h),HB0.out⟩
 have e1:decide ((40:Int)<(a.cls.length:Int))=false:=by simp;omega
 by_cases h41:40<a.aJ.length
 ·have e2:decide ((40:Int)<(a.aJ.length:Int))=true:=by simp;omega
  clear HC HP W2 W4;go_enter Tryz.func55,Tryz.ntmps55;go_upto_region 2 with (fail)
  rw [<- hw0];clear hw0;go_wp2;go_ret;exact ⟨true,rfl,(fun h=>by cases h),HB0.out⟩
 have e2:decide ((40:Int)<(a.aJ.length:Int))=false:=by simp;omega
 have R1:Hid (Lg1 a (.int .i64 a.id.size) (.int .i64 0)):=⟨0,a.id.size,jpj _,rfl,rfl,by omega,fun h=>⟨h,by simp⟩⟩;go_enter Tryz.func55,Tryz.ntmps55;go_upto_region 2 with (fail)
 rw [<- hw0];clear hw0;go_wp2
 go_loop [3,4] (fun vn vi=>Lg1 a vn vi) (fun _ i=>a.cls.length-(intOf i).toNat)
 case atStart=>exact R1.out
 case round=>
  clear R1;obtain ⟨k,n,hk,rfl,rfl,hn,hall⟩:=hrel;have HA:=hid hall;clear hall;unfold zP at hn w1;by_cases hlt:k<a.cls.length
  ·obtain ⟨y,hy⟩:∃ y,a.cls[k]?=some y:=⟨_,joq hlt⟩;obtain ⟨b,off,rfl,c0⟩:=HC.out k y hy;have hys:y.size<=140737488351232:=by have:=W2.out y (jpk hy);unfold vD at this;rw [jW] at this;exact this
   have HY:=hid hy;clear hy;go_wp2
   go_round
   case rel=>
    refine ⟨k+1,n+y.size,by omega,by go_num,by go_num,by unfold zP;omega,fun h6=>?_⟩;obtain ⟨i1,i2⟩:=HA.out (by omega);exact ⟨i1,q1w HY.out i2 (by omega)⟩
   case measure=>simp [intOf];omega
  ·have hkl:k=a.cls.length:=by omega
   subst hkl;have R2:Hid (Lg2 a w0 (.int .i64 n) (.int .i64 0) w0):=⟨0,n,0,jpj _,rfl,rfl,by unfold zP;omega,fun h=>by
    obtain ⟨i1,i2⟩:=HA.out h;rw [jq5] at i2;exact ⟨i1,i2,by simp⟩,rfl⟩
   clear HA;go_wp2
   go_loopw [3,5] (fun vn vi wr=>Lg2 a w0 vn vi wr) (fun _ i _=>a.aJ.length-(intOf i).toNat)
   case atStart=>exact R2.out
   case round=>
    clear R2;obtain ⟨k,n,q,hk,rfl,rfl,hn,hall,rfl⟩:=hrel;have HA:=hid hall;clear hall;unfold zP at hn;by_cases hlt:k<a.aJ.length
    ·obtain ⟨p,hp⟩:∃ p,a.aJ[k]?=some p:=⟨_,joq hlt⟩;obtain ⟨b,off,rfl,c0,c1⟩:=HP.out k p hp;obtain ⟨hy1,hy2⟩:p.key.size<=140737488351232/\p.val.size<=140737488351232:=by have:=W4.out p (jpk hp);unfold Pr.wf vD at this;rw [jW] at this;exact this
     have HY:=hid hp;clear hp;obtain ⟨py,pv⟩:=p;dsimp only at c0 c1 hy1 hy2;go_wp2_with fail
     go_quiet (fail)
     go_wp2;go_roundw;case rel=>
      refine ⟨k+1,n+(py.size+pv.size),q+nq,by omega,by go_num,by go_num,by unfold zP;omega,fun h6=>?_,rfl⟩;obtain ⟨i1,i2,i3⟩:=HA.out (by omega);exact ⟨i1,i2,q1w HY.out i3 ⟨by show py.size<=600;omega,by show pv.size<=600;omega⟩⟩
     case measure=>simp [intOf];omega
    ·have hkl:k=a.aJ.length:=by omega
     subst hkl;by_cases h6:600<n
     ·have e3:decide ((600:Int)<(n:Int))=true:=by simp;omega
      go_wp2;go_ret;exact ⟨true,rfl,(fun h=>by cases h),eZ HB0.out q⟩
     ·have e3:decide ((600:Int)<(n:Int))=false:=by simp;omega
      go_wp2;go_ret;refine ⟨false,rfl,fun _=>?_,eZ HB0.out q⟩;obtain ⟨i1,i2,i3⟩:=HA.out (by omega);rw [jq5] at i3;exact ⟨by omega,by omega,i1,i2,i3⟩
open Go.RowKit
mutual
def aj.small:aj->Prop
 | .mk k t d ti a ar ci ks=>t.size<=300/\d.size<=300/\ti.size<=300/\a.short/\ar.length<=9/\ci.length<=9/\(∀ c∈ar,c.size<=5000)/\(∀ c∈ci,c.key.size<=5000/\c.pre.size<=5000/\c.suf.size<=5000)/\aj.aG ks
def aj.aG:List aj->Prop
 | []=>True
 | x::l=>x.small/\aj.aG l
end
theorem aj.jG:∀ (l m:List aj),aj.aG l->aj.aG m->aj.aG (l++m)
 | [],m,_,h=>h
 | x::l,m,h,h2=>by unfold aj.aG at h;rw [List.cons_append];unfold aj.aG;exact ⟨h.1,aj.jG l m h.2 h2⟩
theorem aj.gZ {l:List aj} {k:Nat} {x:aj} (hx:l[k]?=some x) (h:aj.aG (l.take k)) (h2:x.small):aj.aG (l.take (k+1)):=by rw [List.take_add_one,hx];exact aj.jG _ _ h (by unfold Option.toList aj.aG;exact ⟨h2,by unfold aj.aG;trivial⟩)
theorem aj.Dq (l m:List aj):aj.aX (l++m)=aj.aX l+aj.aX m:=by
 induction l with
 | nil=>rw [aj.aX];simp
 | cons x l ih=>rw [List.cons_append,aj.aX,aj.aX,ih];omega
theorem aj.rO {l:List aj} {k:Nat} {x:aj} (hx:l[k]?=some x):aj.aX (l.take (k+1))=aj.aX (l.take k)+x.sz:=by rw [List.take_add_one,hx,aj.Dq];simp [aj.aX]
theorem aj.rP:∀ {l:List aj} {k:Nat} {x:aj},aj.uL l->l[k]?=some x->x.wf
 | [],_,_,_,h=>by simp at h
 | y::l,0,x,hw,h=>by unfold aj.uL at hw;simp at h;subst h;exact hw.1
 | y::l,k+1,x,hw,h=>by unfold aj.uL at hw;exact aj.rP hw.2 (by simpa using h)
theorem Rd.zO {ok:Nat->Prop} {w:js1} {k:Nat} {l:List D} {v:js3} (h:Rd ok w (.sl k l) [v]):∃ a n c,v=.slice a n c:=by obtain ⟨a',c',h',_⟩:=Rd.aC h;exact ⟨_,_,_,by simpa using h'⟩
theorem Rd.up {w w':js1} {d:D} {cs:List js3} (h:Rd (·<w.heap.size) w d cs) (hb:Below w.heap.size w w'):Rd (·<w'.heap.size) w' d cs:=
 Rd.keep (fun b h1 h2=>⟨Nat.lt_of_lt_of_le h2 hb.size,hb.block b h1⟩) _ _ h
theorem AtR.up {w w':js1} {a:At} {vc vp:js3} (h:AtR (·<w.heap.size) w a vc vp) (hb:Below w.heap.size w w'):AtR (·<w'.heap.size) w' a vc vp:=⟨h.cls.up hb,h.aJ.up hb⟩
theorem gL.at2 {w w':js1} {b o:Nat} {k:Int} {t d ti id:ByteArray} {vc vp va vi vk:js3} (h:gL w b o k t d ti id vc vp va vi vk) (hb:w'.heap[b]?=w.heap[b]?):gL w' b o k t d ti id vc vp va vi vk:=by obtain ⟨c0,c1,c2,c3,c4,c5,c6,c7,c8,c9⟩:=h;exact ⟨(iZ hb _).trans c0,(iZ hb _).trans c1,(iZ hb _).trans c2,(iZ hb _).trans c3,(iZ hb _).trans c4,(iZ hb _).trans c5,(iZ hb _).trans c6,(iZ hb _).trans c7,(iZ hb _).trans c8,(iZ hb _).trans c9⟩
def CB (T:TypeId) (p:Nat) (cs:List js3) (w:js1):Prop:=w.heap[p]?=some (.cells cs.toArray T (0,0))
section
variable {T:TypeId} {p:Nat} {cs:List js3} {w w':js1}
theorem CB.cell (h:CB T p cs w) (j:Nat) (u:js3) (hu:cs[j]?=some u):w.cell? ⟨p,j,none⟩=some u:=by unfold CB at h;simp [World.cell?,h,hu]
theorem CB.lt (h:CB T p cs w):p<w.heap.size:=by unfold CB at h;exact (Array.getElem?_eq_some_iff.1 h).1
theorem CB.below (h:CB T p cs w) (hb:Below w.heap.size w w'):CB T p cs w':=(hb.block p h.lt).trans h
theorem CB.new (T:TypeId) (cs:List js3) (w:js1):CB T w.heap.size cs (w.alloc (.cells cs.toArray T)):=heap_alloc_new w _
end
theorem PG {ok:Nat->Prop} {w:js1} {l:List Ci} {a:Option Addr} {cap:Nat} (h:rU ok w 4 (l.map Ci.d) a cap) {k:Nat} {p:Ci} (hk:l[k]?=some p) : ∃ b off,a=some ⟨b,off,none⟩/\ok b/\b<w.heap.size/\w.cell? ⟨b,off+k*4,none⟩=some (.string p.key)/\w.cell? ⟨b,off+k*4+1,none⟩=some (.string p.pre)/\w.cell? ⟨b,off+k*4+2,none⟩=some (.string p.suf)/\w.cell? ⟨b,off+k*4+3,none⟩=some (.bool p.bare):=by
 have hlt:k<l.length:=(List.getElem?_eq_some_iff.1 hk).1;obtain ⟨b,off,ha,hok,hb,hc⟩:=h.at_ (by simpa using Nat.lt_of_le_of_lt (jpj _) hlt)
 obtain ⟨r,hr,hl,hcell⟩:=hc k _ (by rw [jq1,hk];rfl);rw [Ci.open_ hr] at hcell;exact ⟨b,off,ha,hok,hb,hcell 0 _ rfl,by rw [Nat.add_assoc];exact hcell 1 _ rfl,by rw [Nat.add_assoc];exact hcell 2 _ rfl,by rw [Nat.add_assoc];exact hcell 3 _ rfl⟩
theorem uT {ok:Nat->Prop} {w:js1} {l:List ByteArray} {a:Option Addr} {cap:Nat} (h:rU ok w 1 (l.map D.str) a cap) {k:Nat} {y:ByteArray} (hy:l[k]?=some y) : ∃ b off,a=some ⟨b,off,none⟩/\ok b/\b<w.heap.size/\w.cell? ⟨b,off+k,none⟩=some (.string y):=by
 obtain ⟨b,off,ha,hok,hb,hc⟩:=h.at_ (by have:=(List.getElem?_eq_some_iff.1 hy).1;simpa using Nat.lt_of_le_of_lt (jpj _) this)
 obtain ⟨r,hr,hl,hcell⟩:=hc k _ (by rw [jq1,hy];rfl);obtain rfl:=hr.aY;have:=hcell 0 _ rfl;rw [Nat.mul_one,Nat.add_zero] at this;exact ⟨b,off,ha,hok,hb,this⟩
def KE (dp:Nat):Nat:=(22-dp)*140737488355328
def Yu (w:js1) (l:List aj) (dp:Nat) (e:Ending) (w':js1):Prop:=
 ∃ m:Nat,e=.returned (.int .i64 m)/\m<=KE dp/\(m<=120->aj.aG l/\aj.aX l<=m)/\Below w.heap.size w w'
def VX (w:js1) (l:List aj) (dp:Nat) (vn vi:js3) (wr:js1):Prop:=
 ∃ k n:Nat,k<=l.length/\vi=.int .i64 k/\vn=.int .i64 n/\n<=KE dp/\(n<=120->aj.aG (l.take k)/\aj.aX (l.take k)+(l.length-k)<=n)/\Below w.heap.size w wr
def Wt2 (n:Nat) (ar:List ByteArray) (vn vj:js3):Prop:=∃ j m:Nat,j<=ar.length/\vj=.int .i64 j/\vn=.int .i64 m/\n<=m/\m<=n+j*3518437208781/\(m<=120->∀ c∈ar.take j,c.size<=5000)
def Wt3 (n:Nat) (ci:List Ci) (w0:js1) (vn vj:js3) (wr:js1):Prop:=∃ j m:Nat,j<=ci.length/\vj=.int .i64 j/\vn=.int .i64 m/\n<=m/\m<=n+j*10555311626343/\(m<=120->∀ c∈ci.take j,c.key.size<=5000/\c.pre.size<=5000/\c.suf.size<=5000)/\Below w0.heap.size w0 wr
theorem Jj (n:Nat):∀ (l:List aj) (dp:Nat) (v:js3) (w:js1),aj.aX l<=n->dp<=21->Rd (·<w.heap.size) w (fK l) [v]->aj.uL l -> Calls Tryz.prog 56 #[v,.int .i64 dp] w (Yu w l dp):=by
 induction n using Nat.strongRecOn with
 | _ n ih=>
  intro l dp v w hn hdp hrd hwf;obtain ⟨a,cap,hv,hs⟩:=Rd.aC hrd;obtain rfl:v=.slice a l.length cap:=by simpa using hv
  have hcap:l.length<=cap:=by simpa using hs.le
  have hmx:=hs.max;unfold maxLen at hmx;have HS:=hid hs;have IH:=hid ih;have Jm:=hid hwf;clear hs hv hrd ih hwf;by_cases hd:20<dp
  ·have e1:decide ((20:Int)<(dp:Int))=true:=by simp;omega
   clear HS IH Jm;go_enter Tryz.func56,Tryz.ntmps56;go_wp2;go_ret;exact ⟨1000,rfl,by unfold KE;omega,(fun h=>by omega),Below.refl _ _⟩
  have e1:decide ((20:Int)<(dp:Int))=false:=by simp;omega
  by_cases h2:200<l.length
  ·have e2:decide ((200:Int)<(l.length:Int))=true:=by simp;omega
   clear HS IH Jm;go_enter Tryz.func56,Tryz.ntmps56;go_wp2;go_ret;exact ⟨1000,rfl,by unfold KE;omega,(fun h=>by omega),Below.refl _ _⟩
  have e2:decide ((200:Int)<(l.length:Int))=false:=by simp;omega
  have R0:Hid (VX w l dp (.int .i64 l.length) (.int .i64 0) w):=⟨0,l.length,jpj _,rfl,rfl,by unfold KE;omega,(fun _=>⟨by rw [List.take_zero];unfold aj.aG;trivial,by rw [List.take_zero,aj.aX];omega⟩),Below.refl _ _⟩;go_enter Tryz.func56,Tryz.ntmps56;go_wp2
  go_loopw [5,6] (fun vn vi wr=>VX w l dp vn vi wr) (fun _ i _=>l.length-(intOf i).toNat)
  case atStart=>exact R0.out
  case round=>
   clear R0;obtain ⟨k,m,hk,rfl,rfl,hm,hall,hbel⟩:=hrel;have mM:=hid hall;have kW:=hid hbel;clear hall hbel;unfold KE at hm;by_cases hlt:k<l.length
   ·by_cases hm1:m<1000
    ·have e3:decide ((m:Int)<(1000:Int))=true:=by simp;omega
     obtain ⟨x,hx⟩:∃ x,l[k]?=some x:=⟨_,joq hlt⟩;obtain ⟨kd,t,d,ti,at_,ar,ci,ks⟩:=x;obtain ⟨g,off,vc,vp,va,vi,vk,rfl,hok,hbl,hc,hR⟩:=iL HS.out hx;have hx2:=aj.rP Jm.out hx;unfold aj.wf vD at hx2;obtain ⟨x1,x2,x3,x4,x5,x6,x7,x8,x9,x10,x11⟩:=hx2;rw [jW] at x2 x3 x4 x7 x9;unfold zP at x2 x3 x4 x7 x9;have hsz:=aj.bP l k _ hx;rw [aj.sz] at hsz;obtain ⟨aa,ca,hva,hsa⟩:=Rd.aC hR.args;obtain ⟨ai,oo,hvi,hsi⟩:=Rd.aC hR.ji;obtain ⟨ac,nc,cc,rfl⟩:=Rd.zO hR.at_.cls
     obtain ⟨ap,np,cp,rfl⟩:=Rd.zO hR.at_.aJ
     obtain ⟨ak,nk,ck,rfl⟩:=Rd.zO hR.kids;obtain rfl:va=.slice aa ar.length ca:=by simpa using hva
     obtain rfl:vi=.slice ai ci.length oo:=by simpa using hvi
     have hca:ar.length<=ca:=by simpa using hsa.le
     have hci:ci.length<=oo:=by simpa using hsi.le
     have jlk:=hsa.max;have jlq:=hsi.max;unfold maxLen at jlk jlq;obtain ⟨c0,c1,c2,c3,c4,c5,c6,c7,c8,c9⟩:=hc.at2 (w':=wr) (kW.out.block g hok);have HR:=hid hR;have Zz:=hid hsa;have HSI:=hid hsi;have HX:=hid hx;have X5:=hid x5;have X6:=hid x6;have X8:=hid x8;have X10:=hid x10;clear hc hR hsa hsi hx x1 x5 x6 x8 x10 x11 hva hvi;go_upto_region 8 with (fail)
     obtain ⟨wa,zq⟩:∃ wa,wa=wr.alloc (.cells #[.int .i64 kd,.string t,.string d,.string ti,.string at_.id,.slice ac nc cc,.slice ap np cp,.slice aa ar.length ca,.slice ai ci.length oo,.slice ak nk ck] 43):=⟨_,rfl⟩;have hcb:CB 43 wr.heap.size [.int .i64 kd,.string t,.string d,.string ti,.string at_.id,.slice ac nc cc,.slice ap np cp,.slice aa ar.length ca,.slice ai ci.length oo,.slice ak nk ck] wa:=by rw [zq];exact CB.new _ _ _
     have hba:Below w.heap.size w wa:=by rw [zq];exact kW.out.alloc kW.out.size _
     rw [<- zq];clear zq c0 c1 c2 c3 c4 c5 c6 c7 c8 c9;have d1:=hcb.cell 1 _ rfl;have d2:=hcb.cell 2 _ rfl;have d3:=hcb.cell 3 _ rfl;have d4:=hcb.cell 4 _ rfl;have d5:=hcb.cell 5 _ rfl;have d6:=hcb.cell 6 _ rfl;have d7:=hcb.cell 7 _ rfl;have d8:=hcb.cell 8 _ rfl;have WA:=hid hcb;have Rz:=hid hba;have LG:=hid (Gl at_ _ _ wa (HR.out.at_.up hba) X5.out);clear hcb hba;by_cases h3:300<t.size+d.size+ti.size
     ·have e4:decide ((300:Int)<(t.size:Int)+(d.size:Int)+(ti.size:Int))=true:=by simp;omega
      go_wp2;go_ret;exact ⟨1000,rfl,by unfold KE;omega,(fun h=>by omega),Rz.out⟩
     have e4:decide ((300:Int)<(t.size:Int)+(d.size:Int)+(ti.size:Int))=false:=by simp;omega
     go_wp2_with fail
     refine LG.out.mono ?_;rintro e wb ⟨b,rfl,hsh,hbb⟩;have QK:=aP Rz.out hbb;have Dx:=WA.out.below hbb;have d7:=Dx.cell 7 _ rfl;have d8:=Dx.cell 8 _ rfl;have R6:=hid hsh;have DK:=hid QK;have Ur:=hid Dx;clear LG Rz WA d1 d2 d3 d4 d5 d6 hsh hbb QK Dx;cases b with
     | true=>
      go_wp2;go_ret;exact ⟨1000,rfl,by unfold KE;omega,(fun h=>by omega),DK.out⟩
     | false=>
     by_cases h4:9<ar.length
     ·have e5:decide ((9:Int)<(ar.length:Int))=true:=by simp;omega
      go_wp2;go_ret;exact ⟨1000,rfl,by unfold KE;omega,(fun h=>by omega),DK.out⟩
     have e5:decide ((9:Int)<(ar.length:Int))=false:=by simp;omega
     by_cases h5:9<ci.length
     ·have e6:decide ((9:Int)<(ci.length:Int))=true:=by simp;omega
      go_wp2;go_ret;exact ⟨1000,rfl,by unfold KE;omega,(fun h=>by omega),DK.out⟩
     have e6:decide ((9:Int)<(ci.length:Int))=false:=by simp;omega
     have R2:Hid (Wt2 m ar (.int .i64 m) (.int .i64 0)):=⟨0,m,jpj _,rfl,rfl,Nat.le_refl _,by omega,(fun _=>by simp)⟩;have HAR:Hid (∀ j y,ar[j]?=some y->∃ b off,aa=some ⟨b,off,none⟩/\wb.cell? ⟨b,off+j,none⟩=some (.string y)/\y.size<=140737488351232):=by intro j y hy;obtain ⟨b,off,h1,h2,h3,h4⟩:=uT Zz.out hy;exact ⟨b,off,h1,(iZ (DK.out.block b h2) _).trans h4,by have:=X6.out y (jpk hy);rw [jW] at this;exact this⟩
     go_wp2
     go_loop [5,8] (fun vn vj=>Wt2 m ar vn vj) (fun _ j=>ar.length-(intOf j).toNat)
     case atStart=>exact R2.out
     case round=>
      clear R2;obtain ⟨j,m2,hj,rfl,rfl,hm2,hm3,VY⟩:=hrel;have HA2:=hid VY;clear VY;by_cases hjl:j<ar.length
      ·obtain ⟨y,hy⟩:∃ y,ar[j]?=some y:=⟨_,joq hjl⟩;obtain ⟨b,off2,rfl,cy,hys⟩:=HAR.out j y hy;have HY:=hid hy;clear hy;go_wp2
       go_round
       case rel=>
        refine ⟨j+1,m2+y.size/40,by omega,by go_num,by go_num,by omega,by omega,fun h6=>?_⟩;exact q1w HY.out (HA2.out (by omega)) (by omega)
       case measure=>simp [intOf];omega
      ·have Yn:j=ar.length:=by omega
       subst Yn;have HA3:Hid (m2<=120->∀ c∈ar,c.size<=5000):=fun h=>by have:=HA2.out h;rwa [jq5] at this
       have R3:Hid (Wt3 m2 ci wb (.int .i64 m2) (.int .i64 0) wb):=⟨0,m2,jpj _,rfl,rfl,Nat.le_refl _,by omega,(fun _=>by simp),Below.refl _ _⟩;clear HA2 HAR;have HCI:Hid (∀ j y,ci[j]?=some y->∃ b off,ai=some ⟨b,off,none⟩/\b<wb.heap.size/\wb.cell? ⟨b,off+j*4,none⟩=some (.string y.key)/\wb.cell? ⟨b,off+j*4+1,none⟩=some (.string y.pre)/\wb.cell? ⟨b,off+j*4+2,none⟩=some (.string y.suf)/\wb.cell? ⟨b,off+j*4+3,none⟩=some (.bool y.bare)/\y.key.size<=140737488351232/\y.pre.size<=140737488351232/\y.suf.size<=140737488351232):=by intro j y hy;obtain ⟨b,off,h1,h2,h3,k0,k1,k2,k3⟩:=PG HSI.out hy;have hw:=X8.out y (jpk hy);unfold Ci.wf vD at hw;rw [jW] at hw;have hs:=iZ (DK.out.block b h2);exact ⟨b,off,h1,Nat.lt_of_lt_of_le h3 DK.out.size,(hs _).trans k0,(hs _).trans k1,(hs _).trans k2,(hs _).trans k3,hw⟩
       go_wp2
       go_loopw [5,9] (fun vn vj wz=>Wt3 m2 ci wb vn vj wz) (fun _ j _=>ci.length-(intOf j).toNat)
       case atStart=>exact R3.out
       case round=>
        clear R3;obtain ⟨j,m4,hj,rfl,rfl,BK,uV,VZ,hb3⟩:=hrel;have HA4:=hid VZ;have HB3:=hid hb3;have QL:=Ur.out.below hb3;have f8:=QL.cell 8 _ rfl;have f9:=QL.cell 9 _ rfl;have hlt3:=QL.lt;have jo4:=hid QL;clear VZ hb3 QL;by_cases hjl:j<ci.length
        ·obtain ⟨y,hy⟩:∃ y,ci[j]?=some y:=⟨_,joq hjl⟩;obtain ⟨b,off2,rfl,jf1,k0,k1,k2,k3,s0,s1,s2⟩:=HCI.out j y hy;have hs:=iZ (HB3.out.block b jf1);have k0:=(hs _).trans k0;have k1:=(hs _).trans k1;have k2:=(hs _).trans k2;have k3:=(hs _).trans k3;have HY:=hid hy;obtain ⟨yk,yp,ys,yb⟩:=y;dsimp only at k0 k1 k2 k3 s0 s1 s2;clear hy hs;go_wp2;go_roundw;case rel=>
          refine ⟨j+1,m4+(yk.size+yp.size+ys.size)/40,by omega,by go_num,by go_num,by omega,by omega,fun h6=>?_,HB3.out.alloc HB3.out.size _⟩;exact q1w HY.out (HA4.out (by omega)) ⟨by show yk.size<=5000;omega,by show yp.size<=5000;omega,by show ys.size<=5000;omega⟩
         case measure=>simp [intOf];omega
        ·have jlx:j=ci.length:=by omega
         subst jlx;have HA5:Hid (m4<=120->∀ c∈ci,c.key.size<=5000/\c.pre.size<=5000/\c.suf.size<=5000):=fun h=>by have:=HA4.out h;rwa [jq5] at this
         have hb4:=hid (aP DK.out HB3.out);have RC:=hid (IH.out (aj.aX ks) (by omega) ks (dp+1) (.slice ak nk ck) wr (Nat.le_refl _) (by omega) (HR.out.kids.up hb4.out) X10.out);clear HA4 HCI;go_wp2_with fail
         refine RC.out.mono ?_;rintro e w5 ⟨wk,rfl,hwk,yJ,hb5⟩;have HW2:=hid yJ;have uU:=hid (aP hb4.out hb5);unfold KE at hwk;clear yJ hb5 RC;go_wp2;go_roundw;case rel=>
          refine ⟨k+1,m4+wk,by omega,by go_num,by go_num,by unfold KE;omega,(fun h=>?_),uU.out⟩;obtain ⟨i1,i2⟩:=mM.out (by omega);obtain ⟨j1,j2⟩:=HW2.out (by omega);have hsn:=aj.rO HX.out;rw [aj.sz] at hsn;refine ⟨aj.gZ HX.out i1 (by unfold aj.small;exact ⟨by omega,by omega,by omega,R6.out trivial,by omega,by omega,HA3.out (by omega),HA5.out (by omega),j1⟩),by omega⟩
         case measure=>simp [intOf];omega
    ·have e3:decide ((m:Int)<(1000:Int))=false:=by simp;omega
     clear HS IH Jm;go_wp2;go_ret;exact ⟨m,rfl,by unfold KE;omega,(fun h=>by omega),kW.out⟩
   ·have hkl:k=l.length:=by omega
    subst hkl;clear HS IH Jm;go_wp2;go_ret;refine ⟨m,rfl,by unfold KE;omega,(fun h=>?_),kW.out⟩;have:=mM.out h;rw [jq5] at this;exact ⟨this.1,by omega⟩
open Go.RowKit
theorem JV {y z:ByteArray} (h:y≠z):(y.toList != z.toList)=true:=by rw [Lib.toList_data,Lib.toList_data];simp only [bne_iff_ne,ne_eq];intro e;exact h (ByteArray.ext (Array.ext' e))
theorem Tk {y z:ByteArray} (h:y≠z):(y.toList==z.toList)=false:=by have:=JV h;simpa [bne] using this
end Go.Proofs.YtdneicipdlofiaaGreatDoor

