/- Arguments that came in, read as the document's data, with what the form's reach says of their sizes. publisherref04.long: whether attributes are many, or long. publisherref04.weight: how many parts inlines have. publisherref04.texts, Pairs, attrs, SameLine, SameBlocks, Same: they answer whether the data are equal. -/
import Derived.Deep.Slices
import Derived.ProofKit
import Derived.OpenShut
import Derived.Test.YtclikfjalmcoaaaGreatDoorKAppend
set_option maxHeartbeats 8000000
set_option maxRecDepth 100000
open Go.Lib (hid)
namespace Go.Proofs.YtclikfjalmcoaaaGreatDoor
open List renaming getElem?_eq_getElem->je6,mem_of_getElem?->jf4,getElem?_map->jf9,take_length->jfx
open Nat renaming zero_le->jf3
open Go renaming World->jh9,Value->jhk
open Go.RowKit Go.ChangeShapes Go.WideShapes Go.Deep
set_option linter.unusedVariables false
set_option linter.unusedSimpArgs false
section
variable {H:Type} {enc:TypeId × jhk->H} {w:jh9} {base:Nat} {spare:Nat->Bool} {held:Bool}
theorem aO.Gw {ok:Nat->Prop} {α:Type} (F:α->D) (R:α->List jhk):∀ (L:List α),(∀ i∈L,Rd ok w (F i) (R i))->aO ok w (L.map F) (L.map R)
 | [],_=>aO.none
 | x::L,h=>aO.cons (h x (by simp)) (aO.Gw F R L (fun i hi=>h i (by simp [hi])))
def vP (P:Program) (t:TypeId) (d:DataW H):Prop:=(d.weights P t).all (·<=reachBytes)=true
theorem Gx {P:Program} {e:TypeId}:∀ {l:List (DataW H)},(DataW.weightsAll P e l).all (·<=reachBytes)=true->∀ d∈l,vP P e d
 | [],_,d,hd=>by cases hd
 | x::l,h,d,hd=>by
  rw [DataW.weightsAll,List.all_append,Bool.and_eq_true] at h;rcases List.mem_cons.1 hd with rfl | hd
  ·exact h.1
  ·exact Gx h.2 d hd
theorem uN {P:Program}:∀ {ts:List TypeId} {l:List (DataW H)},(DataW.weightsEach P ts l).all (·<=reachBytes)=true->∀ (i:Nat) (t:TypeId) (d:DataW H),ts[i]?=some t->l[i]?=some d->vP P t d
 | [],_,_,i,t,d,ht,_=>by simp at ht
 | _::_,[],_,i,t,d,_,hd=>by simp at hd
 | t0::ts,d0::l,h,0,t,d,ht,hd=>by
  rw [DataW.weightsEach,List.all_append,Bool.and_eq_true] at h;simp at ht hd;subst ht hd;exact h.1
 | t0::ts,d0::l,h,i+1,t,d,ht,hd=>by
  rw [DataW.weightsEach,List.all_append,Bool.and_eq_true] at h;exact uN h.2 i t d (by simpa using ht) (by simpa using hd)
theorem gy {P:Program} {t:TypeId} {fs:Array Field} {parts:List (DataW H)} (ht:P.underlying t=some (.struct fs)) (hw:vP P t (.agg parts)) (i:Nat) (f:Field) (d:DataW H) (hf:fs[i]?=some f) (hd:parts[i]?=some d):vP P f.type d:=by unfold vP at hw;rw [DataW.weights,ht] at hw;exact uN hw i f.type d (by rw [jf9,Array.getElem?_toList,hf];rfl) hd
theorem IQ {P:Program} {t e:TypeId} {elems spare:List (DataW H)} (ht:P.underlying t=some (.slice e)) (hw:vP P t (.slice elems spare)):elems.length*P.bytesOf e<=reachBytes/\∀ d∈elems,vP P e d:=by unfold vP at hw;rw [DataW.weights,ht] at hw;simp only [List.all_cons,List.all_append,Bool.and_eq_true,decide_eq_true_eq] at hw;refine ⟨Nat.le_trans (Nat.mul_le_mul_right _ (by omega)) hw.1,Gx hw.2.1⟩
theorem Gy {P:Program} {t:TypeId} {s:ByteArray} (hw:vP P t (.lit (.string s.data.toList):DataW H)):s.size<=reachBytes:=by unfold vP at hw;rw [DataW.weights] at hw;simpa using hw
theorem len2:∀ {l:List jhk},l.length=2->∃ c0 c1,l=[c0,c1]
 | [c0,c1],_=>⟨_,_,rfl⟩
theorem jb3:∀ {l:List jhk},l.length=3->∃ c0 c1 c2,l=[c0,c1,c2]
 | [c0,c1,c2],_=>⟨_,_,_,rfl⟩
theorem jb4:∀ {l:List jhk},l.length=4->∃ c0 c1 c2 c3,l=[c0,c1,c2,c3]
 | [c0,c1,c2,c3],_=>⟨_,_,_,_,rfl⟩
theorem WW:∀ {l:List jhk},l.length=10->∃ c0 c1 c2 c3 c4 c5 c6 c7 c8 c9,l=[c0,c1,c2,c3,c4,c5,c6,c7,c8,c9]
 | [c0,c1,c2,c3,c4,c5,c6,c7,c8,c9],_=>⟨_,_,_,_,_,_,_,_,_,_,rfl⟩
theorem WX:∀ {l:List jhk},l.length=11->∃ c0 c1 c2 c3 c4 c5 c6 c7 c8 c9 c10,l=[c0,c1,c2,c3,c4,c5,c6,c7,c8,c9,c10]
 | [c0,c1,c2,c3,c4,c5,c6,c7,c8,c9,c10],_=>⟨_,_,_,_,_,_,_,_,_,_,_,rfl⟩
theorem jc {P:Program} {α:Type} [Inhabited α] (f:α->D) (OK:α->Prop) {fuel:Nat} {t e:TypeId} {k:Nat} {cs:List jhk} {x:DataW H × List MemPlace} (ht:P.underlying t=some (.slice e)) (hk:P.cellsOf e=k) (hk0:0<k) (hel:∀ n cs' y,n<fuel->DataW.trod enc P w base spare held n e cs'=some y->vP P e y.1->∃ a:α,OK a/\Rd (·<w.heap.size) w (f a) cs') (h:DataW.trod enc P w base spare held fuel t cs=some x) (hw:vP P t x.1):∃ l:List α,(∀ a∈l,OK a)/\l.length*P.bytesOf e<=reachBytes/\Rd (·<w.heap.size) w (.sl k (l.map f)) cs:=by
 subst hk;rcases DataW.trod_slice ht h with ⟨rfl,_⟩ | ⟨a,len,cap,elems,rest,n,rfl,rfl,IU,hb,hl,hm,hlen,jb5,_⟩
 ·exact ⟨[],by simp,by simp,Rd.aB _ _ _⟩
 rw [IU] at hw;obtain ⟨hwl,hwe⟩:=IQ ht hw;rw [List.length_map] at hwl;have key:∀ i,i<len->∃ p:α × List jhk,OK p.1/\Rd (·<w.heap.size) w (f p.1) p.2/\p.2.length=P.cellsOf e/\∀ j,j<P.cellsOf e->w.cell? ((a.add (i*P.cellsOf e)).add j)=p.2[j]?:=by intro i hi;have h1:=jb5 i hi;rw [je6 (by omega)] at h1;obtain ⟨cs',h2,h3⟩:=Option.bind_eq_some_iff.1 h1;obtain ⟨_,h4,h5⟩:=World.cells?_some h2;obtain ⟨y,hy1,hy2⟩:=hel n cs' _ (by omega) h3 (hwe _ (List.mem_map.2 ⟨_,List.getElem_mem _,rfl⟩));exact ⟨(y,cs'),hy1,hy2,h4,h5⟩
 obtain ⟨p,hp⟩:=choose_lt (α:=α × List jhk) key;refine ⟨(List.range len).map fun i=>(p i).1,?_,by rw [List.length_map,List.length_range];rw [hlen] at hwl;exact hwl,?_⟩
 ·intro y hy;obtain ⟨i,hi,rfl⟩:=List.mem_map.1 hy;exact (hp i (List.mem_range.1 hi)).1
 rw [List.map_map];have hL:=aO.Gw (ok:=(·<w.heap.size)) (w:=w) (f ∘ fun i=>(p i).1) (fun i=>(p i).2) (List.range len) (fun i hi=>(hp i (List.mem_range.1 hi)).2.1);have hrl:∀ r∈(List.range len).map (fun i=>(p i).2),r.length=P.cellsOf e:=by intro r hr;obtain ⟨i,hi,rfl⟩:=List.mem_map.1 hr;exact (hp i (List.mem_range.1 hi)).2.2.1
 have oO:((List.range len).map (f ∘ fun i=>(p i).1)).length=len:=by simp
 unfold Rd;refine ⟨some a,cap,_,by rw [oO],by omega,hm,hL,hrl,?_⟩;rw [oO];rcases Nat.eq_zero_or_pos len with h0 | h0
 ·exact .inl h0
 ·obtain ⟨b,off,spot⟩:=a;have c0:=(hp 0 h0).2.2.2 0 hk0;have hl0:=(hp 0 h0).2.2.1;rw [je6 (by omega)] at c0;have hspot:spot=none:=by simpa [Addr.add] using World.cell?_spot c0
  subst hspot;have plain:∀ (o j:Nat),((⟨b,o,none⟩:Addr).add j)=⟨b,o+j,none⟩:=by intro o j;unfold Addr.add;split<;>simp_all
  rw [plain,plain] at c0;refine .inr ⟨b,off,rfl,Dc c0,Dc c0,fun j u hu=>?_⟩;have hj:j<len*P.cellsOf e:=by have h1:=(List.getElem?_eq_some_iff.1 hu).1;rw [jH (P.cellsOf e) _ hrl] at h1;simpa using h1
  have hi:j/P.cellsOf e<len:=Nat.div_lt_of_lt_mul (by rw [Nat.mul_comm];exact hj);have hr:j%P.cellsOf e<P.cellsOf e:=Nat.mod_lt _ hk0;have ej:j/P.cellsOf e*P.cellsOf e+j%P.cellsOf e=j:=by rw [Nat.mul_comm];exact Nat.div_add_mod j _
  have c1:=(hp _ hi).2.2.2 _ hr;have hlr:=(hp _ hi).2.2.1;rw [je6 (by omega),plain,plain,Nat.add_assoc,ej] at c1;have hf:=flat_get (P.cellsOf e) _ hrl (j/P.cellsOf e) (j%P.cellsOf e) (p (j/P.cellsOf e)).2 _ (by rw [jf9,List.getElem?_range hi];rfl) (je6 (by omega));rw [ej,hu] at hf;rw [c1];exact hf.symm
instance:Inhabited Pr:=⟨⟨.empty,.empty⟩⟩
instance:Inhabited Ci:=⟨⟨.empty,.empty,.empty,false⟩⟩
instance:Inhabited At:=⟨⟨.empty,[],[]⟩⟩
instance:Inhabited aj:=⟨.mk 0 .empty .empty .empty default [] [] []⟩
instance:Inhabited ah:=⟨.mk 0 0 .empty .empty .empty .empty default [] []⟩
def sD (s:ByteArray):Prop:=s.size<=reachBytes
def Yu (n:Int):Prop:=-9223372036854775808<=n/\n<=9223372036854775807
def Pr.wf (p:Pr):Prop:=sD p.key/\sD p.val
def Ci.wf (p:Ci):Prop:=sD p.key/\sD p.pre/\sD p.suf
def At.wf (a:At):Prop:=sD a.id/\(∀ c∈a.cls,sD c)/\a.cls.length<=reachBytes/\(∀ p∈a.aP,p.wf)/\a.aP.length<=reachBytes
mutual
def aj.wf:aj->Prop
 | .mk k t d ti a ar ci ks=>Yu k/\sD t/\sD d/\sD ti/\a.wf/\(∀ c∈ar,sD c)/\ar.length<=reachBytes/\(∀ c∈ci,c.wf)/\ci.length<=reachBytes/\aj.qX ks/\ks.length<=reachBytes
def aj.qX:List aj->Prop
 | []=>True
 | x::l=>x.wf/\aj.qX l
end
mutual
def ah.wf:ah->Prop
 | .mk k lv i t d ti a li ks=>Yu k/\Yu lv/\sD i/\sD t/\sD d/\sD ti/\a.wf/\aj.qX li/\li.length<=reachBytes/\ah.qX ks/\ks.length<=reachBytes
def ah.qX:List ah->Prop
 | []=>True
 | x::l=>x.wf/\ah.qX l
end
theorem aj.nO:∀ (l:List aj),(∀ x∈l,x.wf)->aj.qX l
 | [],_=>by unfold aj.qX;trivial
 | x::l,h=>by unfold aj.qX;exact ⟨h x (by simp),aj.nO l (fun y hy=>h y (by simp [hy]))⟩
theorem ah.nO:∀ (l:List ah),(∀ x∈l,x.wf)->ah.qX l
 | [],_=>by unfold ah.qX;trivial
 | x::l,h=>by unfold ah.qX;exact ⟨h x (by simp),ah.nO l (fun y hy=>h y (by simp [hy]))⟩
theorem Fe {n:Int} (h:(Lit.int .i64 n).wf=true):Yu n:=by have:=bounds_i64 h;exact this
section
variable {fuel:Nat} {cs:List jhk} {x:DataW H × List MemPlace}
theorem cS:Tryz.prog.cellsOf 9=1:=by kernel_rfl
theorem cI:Tryz.prog.cellsOf 3=1:=by kernel_rfl
theorem cB:Tryz.prog.cellsOf 4=1:=by kernel_rfl
theorem cP:Tryz.prog.cellsOf 74=2:=by kernel_rfl
theorem cC:Tryz.prog.cellsOf 125=4:=by kernel_rfl
theorem cA:Tryz.prog.cellsOf 27=3:=by kernel_rfl
theorem cIn:Tryz.prog.cellsOf 51=10:=by kernel_rfl
theorem cBl:Tryz.prog.cellsOf 30=11:=by kernel_rfl
theorem cLS:Tryz.prog.cellsOf 24=1:=by kernel_rfl
theorem cLP:Tryz.prog.cellsOf 25=1:=by kernel_rfl
theorem cLC:Tryz.prog.cellsOf 49=1:=by kernel_rfl
theorem cLI:Tryz.prog.cellsOf 22=1:=by kernel_rfl
theorem cLB:Tryz.prog.cellsOf 28=1:=by kernel_rfl
theorem cD:Tryz.prog.cellsOf 32=2:=by kernel_rfl
theorem nQ {n k:Nat} (h:n*k<=reachBytes) (hk:1<=k):n<=reachBytes:=Nat.le_trans (Nat.le_mul_of_pos_right n hk) h
theorem yS:1<=Tryz.prog.bytesOf 9:=by decide +kernel
theorem yP:1<=Tryz.prog.bytesOf 74:=by decide +kernel
theorem yC:1<=Tryz.prog.bytesOf 125:=by decide +kernel
theorem yI:1<=Tryz.prog.bytesOf 51:=by decide +kernel
theorem yB:1<=Tryz.prog.bytesOf 30:=by decide +kernel
theorem Gz (h:DataW.trod enc Tryz.prog w base spare held fuel 24 cs=some x) (hw:vP Tryz.prog 24 x.1):∃ l:List ByteArray,(∀ s∈l,sD s)/\l.length<=reachBytes/\Rd (·<w.heap.size) w (jk l) cs:=by
 obtain ⟨l,h1,h2,h3⟩:=jc D.str sD Tryz.underlying24 cS (by decide) (fun n cs' y _ hy F7=>by
  obtain ⟨s,rfl,rfl,hs⟩:=DataW.trod_string Tryz.underlying9 hy;exact ⟨s,Gy F7,Rd.dD _ _ _⟩) h hw
 exact ⟨l,h1,nQ h2 yS,h3⟩
theorem OD (h:DataW.trod enc Tryz.prog w base spare held fuel 74 cs=some x) (hw:vP Tryz.prog 74 x.1):∃ p:Pr,p.wf/\Rd (·<w.heap.size) w p.d cs:=by
 obtain ⟨xs,n,rfl,IU,hlen,hxl,hf⟩:=DataW.trod_struct Tryz.underlying74 h;rw [IU] at hw;have hwf:=fun i f d=>gy Tryz.underlying74 hw i f d
 rw [cP] at hlen;obtain ⟨c0,c1,rfl⟩:=len2 hlen;have f0:=hf 0 _ rfl;have f1:=hf 1 _ rfl;have hx2:xs.length=2:=by rw [hxl];rfl
 rw [je6 (by omega)] at f0 f1;simp only [cS,List.getElem_toArray,List.getElem_cons_zero,List.getElem_cons_succ,List.drop_zero,List.drop_succ_cons,List.take_succ_cons,List.take_zero] at f0 f1;obtain ⟨s0,e0,x0,_⟩:=DataW.trod_string Tryz.underlying9 f0;have h0:s0.size<=reachBytes:=Gy (P:=Tryz.prog) (t:=9) (by have h':=hwf 0 _ _ rfl (by rw [jf9,je6 (by omega)];rfl);rw [x0] at h';exact h');obtain ⟨s1,e1,x1,_⟩:=DataW.trod_string Tryz.underlying9 f1;have h1:s1.size<=reachBytes:=Gy (P:=Tryz.prog) (t:=9) (by have h':=hwf 1 _ _ rfl (by rw [jf9,je6 (by omega)];rfl);rw [x1] at h';exact h');cases e0;cases e1
 exact ⟨⟨s0,s1⟩,⟨h0,h1⟩,Pr.gI _ _ ⟨s0,s1⟩⟩
theorem Md (h:DataW.trod enc Tryz.prog w base spare held fuel 125 cs=some x) (hw:vP Tryz.prog 125 x.1):∃ p:Ci,p.wf/\Rd (·<w.heap.size) w p.d cs:=by
 obtain ⟨xs,n,rfl,IU,hlen,hxl,hf⟩:=DataW.trod_struct Tryz.underlying125 h;rw [IU] at hw;have hwf:=fun i f d=>gy Tryz.underlying125 hw i f d
 rw [cC] at hlen;obtain ⟨c0,c1,c2,c3,rfl⟩:=jb4 hlen;have f0:=hf 0 _ rfl;have f1:=hf 1 _ rfl;have f2:=hf 2 _ rfl;have f3:=hf 3 _ rfl;have hx2:xs.length=4:=by rw [hxl];rfl
 rw [je6 (by omega)] at f0 f1 f2 f3;simp only [cS,cB,List.getElem_toArray,List.getElem_cons_zero,List.getElem_cons_succ,List.drop_zero,List.drop_succ_cons,List.take_succ_cons,List.take_zero] at f0 f1 f2 f3;obtain ⟨s0,e0,x0,_⟩:=DataW.trod_string Tryz.underlying9 f0;have h0:s0.size<=reachBytes:=Gy (P:=Tryz.prog) (t:=9) (by have h':=hwf 0 _ _ rfl (by rw [jf9,je6 (by omega)];rfl);rw [x0] at h';exact h');obtain ⟨s1,e1,x1,_⟩:=DataW.trod_string Tryz.underlying9 f1;have h1:s1.size<=reachBytes:=Gy (P:=Tryz.prog) (t:=9) (by have h':=hwf 1 _ _ rfl (by rw [jf9,je6 (by omega)];rfl);rw [x1] at h';exact h');obtain ⟨s2,e2,x2,_⟩:=DataW.trod_string Tryz.underlying9 f2;have h2:s2.size<=reachBytes:=Gy (P:=Tryz.prog) (t:=9) (by have h':=hwf 2 _ _ rfl (by rw [jf9,je6 (by omega)];rfl);rw [x2] at h';exact h');obtain ⟨b,e3,_⟩:=DataW.trod_bool Tryz.underlying4 f3;cases e0;cases e1;cases e2;cases e3
 exact ⟨⟨s0,s1,s2,b⟩,⟨h0,h1,h2⟩,Ci.gI _ _ ⟨s0,s1,s2,b⟩⟩
theorem C9 (h:DataW.trod enc Tryz.prog w base spare held fuel 25 cs=some x) (hw:vP Tryz.prog 25 x.1):∃ l:List Pr,(∀ s∈l,s.wf)/\l.length<=reachBytes/\Rd (·<w.heap.size) w (bS l) cs:=by obtain ⟨l,h1,h2,h3⟩:=jc Pr.d Pr.wf Tryz.underlying25 cP (by decide) (fun n cs' y _ hy F7=>OD hy F7) h hw;exact ⟨l,h1,nQ h2 yP,h3⟩
theorem Me (h:DataW.trod enc Tryz.prog w base spare held fuel 49 cs=some x) (hw:vP Tryz.prog 49 x.1):∃ l:List Ci,(∀ s∈l,s.wf)/\l.length<=reachBytes/\Rd (·<w.heap.size) w (Jh l) cs:=by obtain ⟨l,h1,h2,h3⟩:=jc Ci.d Ci.wf Tryz.underlying49 cC (by decide) (fun n cs' y _ hy F7=>Md hy F7) h hw;exact ⟨l,h1,nQ h2 yC,h3⟩
theorem GA (h:DataW.trod enc Tryz.prog w base spare held fuel 27 cs=some x) (hw:vP Tryz.prog 27 x.1):∃ (a:At) (vc vp:jhk),a.wf/\cs=[.string a.id,vc,vp]/\AtR (·<w.heap.size) w a vc vp:=by
 obtain ⟨xs,n,rfl,IU,hlen,hxl,hf⟩:=DataW.trod_struct Tryz.underlying27 h;rw [IU] at hw;have hwf:=fun i f d=>gy Tryz.underlying27 hw i f d
 rw [cA] at hlen;obtain ⟨c0,c1,c2,rfl⟩:=jb3 hlen;have f0:=hf 0 _ rfl;have f1:=hf 1 _ rfl;have f2:=hf 2 _ rfl;have hx2:xs.length=3:=by rw [hxl];rfl
 rw [je6 (by omega)] at f0 f1 f2;simp only [cS,cLS,cLP,List.getElem_toArray,List.getElem_cons_zero,List.getElem_cons_succ,List.drop_zero,List.drop_succ_cons,List.take_succ_cons,List.take_zero] at f0 f1 f2;obtain ⟨s0,e0,x0,_⟩:=DataW.trod_string Tryz.underlying9 f0;have h0:s0.size<=reachBytes:=Gy (P:=Tryz.prog) (t:=9) (by have h':=hwf 0 _ _ rfl (by rw [jf9,je6 (by omega)];rfl);rw [x0] at h';exact h');obtain ⟨cl,k1,k2,k3⟩:=Gz f1 (hwf 1 _ _ rfl (by rw [jf9,je6 (by omega)];rfl));obtain ⟨pr,m1,m2,m3⟩:=C9 f2 (hwf 2 _ _ rfl (by rw [jf9,je6 (by omega)];rfl));cases e0
 exact ⟨⟨s0,cl,pr⟩,c1,c2,⟨h0,k1,k2,m1,m2⟩,rfl,k3,m3⟩
theorem Ta:∀ (fuel:Nat) (cs:List jhk) (x:DataW H × List MemPlace),DataW.trod enc Tryz.prog w base spare held fuel 51 cs=some x->vP Tryz.prog 51 x.1->∃ p:aj,p.wf/\Rd (·<w.heap.size) w p.d cs:=by
 intro fuel;induction fuel using Nat.strongRecOn with
 | _ fuel ih=>
  intro cs x h hw;obtain ⟨xs,n,rfl,IU,hlen,hxl,hf⟩:=DataW.trod_struct Tryz.underlying51 h;rw [IU] at hw;have hwf:=fun i f d=>gy Tryz.underlying51 hw i f d
  rw [cIn] at hlen;obtain ⟨c0,c1,c2,c3,c4,c5,c6,c7,c8,c9,rfl⟩:=WW hlen;have f0:=hf 0 _ rfl;have f1:=hf 1 _ rfl;have f2:=hf 2 _ rfl;have f3:=hf 3 _ rfl;have f4:=hf 4 _ rfl;have f5:=hf 5 _ rfl;have f6:=hf 6 _ rfl;have f7:=hf 7 _ rfl;have hx2:xs.length=8:=by rw [hxl];rfl
  rw [je6 (by omega)] at f0 f1 f2 f3 f4 f5 f6 f7;simp only [cI,cS,cA,cLS,cLC,cLI,List.getElem_toArray,List.getElem_cons_zero,List.getElem_cons_succ,List.drop_zero,List.drop_succ_cons,List.take_succ_cons,List.take_zero] at f0 f1 f2 f3 f4 f5 f6 f7;obtain ⟨k,e0,_,h0⟩:=DataW.trod_int Tryz.underlying3 f0;obtain ⟨s1,e1,x1,_⟩:=DataW.trod_string Tryz.underlying9 f1;have h1:s1.size<=reachBytes:=Gy (P:=Tryz.prog) (t:=9) (by have h':=hwf 1 _ _ rfl (by rw [jf9,je6 (by omega)];rfl);rw [x1] at h';exact h');obtain ⟨s2,e2,x2,_⟩:=DataW.trod_string Tryz.underlying9 f2;have h2:s2.size<=reachBytes:=Gy (P:=Tryz.prog) (t:=9) (by have h':=hwf 2 _ _ rfl (by rw [jf9,je6 (by omega)];rfl);rw [x2] at h';exact h');obtain ⟨s3,e3,x3,_⟩:=DataW.trod_string Tryz.underlying9 f3;have h3:s3.size<=reachBytes:=Gy (P:=Tryz.prog) (t:=9) (by have h':=hwf 3 _ _ rfl (by rw [jf9,je6 (by omega)];rfl);rw [x3] at h';exact h');obtain ⟨a,vc,vp,h4,e4,hA⟩:=GA f4 (hwf 4 _ _ rfl (by rw [jf9,je6 (by omega)];rfl));obtain ⟨ar,k1,k2,k3⟩:=Gz f5 (hwf 5 _ _ rfl (by rw [jf9,je6 (by omega)];rfl));obtain ⟨ci,m1,m2,m3⟩:=Me f6 (hwf 6 _ _ rfl (by rw [jf9,je6 (by omega)];rfl));obtain ⟨ks,n1,n2,n3⟩:=jc aj.d aj.wf Tryz.underlying22 cIn (by decide) (fun m cs' y hm hy F7=>ih m (by omega) cs' y hy F7) f7 (hwf 7 _ _ rfl (by rw [jf9,je6 (by omega)];rfl));cases e0;cases e1;cases e2;cases e3;cases e4
  exact ⟨.mk k s1 s2 s3 a ar ci ks,by unfold aj.wf;exact ⟨Fe h0,h1,h2,h3,h4,k1,k2,m1,m2,aj.nO _ n1,nQ n2 yI⟩,aj.gI _ _ _ _ ⟨hA,k3,m3,n3⟩⟩
theorem OE (h:DataW.trod enc Tryz.prog w base spare held fuel 22 cs=some x) (hw:vP Tryz.prog 22 x.1):∃ l:List aj,aj.qX l/\l.length<=reachBytes/\Rd (·<w.heap.size) w (bD l) cs:=by obtain ⟨ks,n1,n2,n3⟩:=jc aj.d aj.wf Tryz.underlying22 cIn (by decide) (fun m cs' y hm hy F7=>Ta m cs' y hy F7) h hw;exact ⟨ks,aj.nO _ n1,nQ n2 yI,n3⟩
theorem Tc:∀ (fuel:Nat) (cs:List jhk) (x:DataW H × List MemPlace),DataW.trod enc Tryz.prog w base spare held fuel 30 cs=some x->vP Tryz.prog 30 x.1->∃ p:ah,p.wf/\Rd (·<w.heap.size) w p.d cs:=by
 intro fuel;induction fuel using Nat.strongRecOn with
 | _ fuel ih=>
  intro cs x h hw;obtain ⟨xs,n,rfl,IU,hlen,hxl,hf⟩:=DataW.trod_struct Tryz.underlying30 h;rw [IU] at hw;have hwf:=fun i f d=>gy Tryz.underlying30 hw i f d
  rw [cBl] at hlen;obtain ⟨c0,c1,c2,c3,c4,c5,c6,c7,c8,c9,c10,rfl⟩:=WX hlen;have f0:=hf 0 _ rfl;have f1:=hf 1 _ rfl;have f2:=hf 2 _ rfl;have f3:=hf 3 _ rfl;have f4:=hf 4 _ rfl;have f5:=hf 5 _ rfl;have f6:=hf 6 _ rfl;have f7:=hf 7 _ rfl;have f8:=hf 8 _ rfl;have hx2:xs.length=9:=by rw [hxl];rfl
  rw [je6 (by omega)] at f0 f1 f2 f3 f4 f5 f6 f7 f8;simp only [cI,cS,cA,cLI,cLB,List.getElem_toArray,List.getElem_cons_zero,List.getElem_cons_succ,List.drop_zero,List.drop_succ_cons,List.take_succ_cons,List.take_zero] at f0 f1 f2 f3 f4 f5 f6 f7 f8;obtain ⟨k,e0,_,h0⟩:=DataW.trod_int Tryz.underlying3 f0;obtain ⟨lv,e1,_,h1⟩:=DataW.trod_int Tryz.underlying3 f1;obtain ⟨s2,e2,x2,_⟩:=DataW.trod_string Tryz.underlying9 f2;have h2:s2.size<=reachBytes:=Gy (P:=Tryz.prog) (t:=9) (by have h':=hwf 2 _ _ rfl (by rw [jf9,je6 (by omega)];rfl);rw [x2] at h';exact h');obtain ⟨s3,e3,x3,_⟩:=DataW.trod_string Tryz.underlying9 f3;have h3:s3.size<=reachBytes:=Gy (P:=Tryz.prog) (t:=9) (by have h':=hwf 3 _ _ rfl (by rw [jf9,je6 (by omega)];rfl);rw [x3] at h';exact h');obtain ⟨s4,e4,x4,_⟩:=DataW.trod_string Tryz.underlying9 f4;have h4:s4.size<=reachBytes:=Gy (P:=Tryz.prog) (t:=9) (by have h':=hwf 4 _ _ rfl (by rw [jf9,je6 (by omega)];rfl);rw [x4] at h';exact h');obtain ⟨s5,e5,x5,_⟩:=DataW.trod_string Tryz.underlying9 f5;have h5:s5.size<=reachBytes:=Gy (P:=Tryz.prog) (t:=9) (by have h':=hwf 5 _ _ rfl (by rw [jf9,je6 (by omega)];rfl);rw [x5] at h';exact h');obtain ⟨a,vc,vp,h6,e6,hA⟩:=GA f6 (hwf 6 _ _ rfl (by rw [jf9,je6 (by omega)];rfl));obtain ⟨li,k1,k2,k3⟩:=OE f7 (hwf 7 _ _ rfl (by rw [jf9,je6 (by omega)];rfl));obtain ⟨ks,n1,n2,n3⟩:=jc ah.d ah.wf Tryz.underlying28 cBl (by decide) (fun m cs' y hm hy F7=>ih m (by omega) cs' y hy F7) f8 (hwf 8 _ _ rfl (by rw [jf9,je6 (by omega)];rfl));cases e0;cases e1;cases e2;cases e3;cases e4;cases e5;cases e6
  exact ⟨.mk k lv s2 s3 s4 s5 a li ks,by unfold ah.wf;exact ⟨Fe h0,Fe h1,h2,h3,h4,h5,h6,k1,k2,ah.nO _ n1,nQ n2 yB⟩,ah.gI _ _ _ _ _ _ ⟨hA,k3,n3⟩⟩
theorem OG (h:DataW.trod enc Tryz.prog w base spare held fuel 28 cs=some x) (hw:vP Tryz.prog 28 x.1):∃ l:List ah,ah.qX l/\l.length<=reachBytes/\Rd (·<w.heap.size) w (nR l) cs:=by obtain ⟨ks,n1,n2,n3⟩:=jc ah.d ah.wf Tryz.underlying28 cBl (by decide) (fun m cs' y hm hy F7=>Tc m cs' y hy F7) h hw;exact ⟨ks,ah.nO _ n1,nQ n2 yB,n3⟩
theorem R9 (h:DataW.trod enc Tryz.prog w base spare held fuel 32 cs=some x) (hw:vP Tryz.prog 32 x.1):∃ (me:List Pr) (l:List ah) (vm vb:jhk),(∀ p∈me,p.wf)/\me.length<=reachBytes/\ah.qX l/\l.length<=reachBytes/\cs=[vm,vb]/\Rd (·<w.heap.size) w (bS me) [vm]/\Rd (·<w.heap.size) w (nR l) [vb]:=by
 obtain ⟨xs,n,rfl,IU,hlen,hxl,hf⟩:=DataW.trod_struct Tryz.underlying32 h;rw [IU] at hw;have hwf:=fun i f d=>gy Tryz.underlying32 hw i f d
 rw [cD] at hlen;obtain ⟨c0,c1,rfl⟩:=len2 hlen;have f0:=hf 0 _ rfl;have f1:=hf 1 _ rfl;have hx2:xs.length=2:=by rw [hxl];rfl
 rw [je6 (by omega)] at f0 f1;simp only [cLP,cLB,List.getElem_toArray,List.getElem_cons_zero,List.getElem_cons_succ,List.drop_zero,List.drop_succ_cons,List.take_succ_cons,List.take_zero] at f0 f1;obtain ⟨me,k1,k2,k3⟩:=C9 f0 (hwf 0 _ _ rfl (by rw [jf9,je6 (by omega)];rfl));obtain ⟨l,n1,n2,n3⟩:=OG f1 (hwf 1 _ _ rfl (by rw [jf9,je6 (by omega)];rfl));exact ⟨me,l,c0,c1,k1,k2,n1,n2,rfl,k3,n3⟩
end
end
open Go.RowKit
def At.short (a:At):Prop:=a.cls.length<=40/\a.aP.length<=40/\a.id.size<=600/\(∀ c∈a.cls,c.size<=600)/\∀ p∈a.aP,p.key.size<=600/\p.val.size<=600
theorem q1z {α:Type} {P:α->Prop} {l:List α} {k:Nat} {y:α} (hy:l[k]?=some y) (h:∀ x∈l.take k,P x) (h2:P y):∀ x∈l.take (k+1),P x:=by
 rw [List.take_add_one,hy];intro x hx;rcases List.mem_append.1 hx with hx | hx
 ·exact h x hx
 ·simp at hx;rw [hx];exact h2
theorem pW {ok:Nat->Prop} {w:jh9} {l:List Pr} {a:Option Addr} {cap:Nat} (h:kL ok w 2 (l.map Pr.d) a cap) {k:Nat} {p:Pr} (hk:l[k]?=some p) : ∃ b off,a=some ⟨b,off,none⟩/\ok b/\b<w.heap.size/\w.cell? ⟨b,off+k*2,none⟩=some (.string p.key)/\w.cell? ⟨b,off+k*2+1,none⟩=some (.string p.val):=by
 have hlt:k<l.length:=(List.getElem?_eq_some_iff.1 hk).1;obtain ⟨b,off,ha,hok,hb,hc⟩:=h.at_ (by simpa using Nat.lt_of_le_of_lt (jf3 _) hlt)
 obtain ⟨r,hr,hl,hcell⟩:=hc k _ (by rw [jf9,hk];rfl);rw [Pr.open_ hr] at hcell;exact ⟨b,off,ha,hok,hb,hcell 0 _ rfl,by rw [Nat.add_assoc];exact hcell 1 _ rfl⟩
def wV:Nat:=140737488351232
theorem jq:reachBytes=wV:=by decide
def Lg1 (a:At) (vn vi:jhk):Prop:=∃ k n:Nat,k<=a.cls.length/\vi=.int .i64 k/\vn=.int .i64 n/\n<=wV*(k+1)/\(n<=600->a.id.size<=600/\∀ c∈a.cls.take k,c.size<=600)
def Lg2 (a:At) (w0:jh9) (vn vi:jhk) (wr:jh9):Prop:=∃ k n q:Nat,k<=a.aP.length/\vi=.int .i64 k/\vn=.int .i64 n/\n<=wV*(41+2*k)/\(n<=600->a.id.size<=600/\(∀ c∈a.cls,c.size<=600)/\∀ p∈a.aP.take k,p.key.size<=600/\p.val.size<=600)/\wr=w0.drewN q
theorem Da (a:At) (vc vp:jhk) (w:jh9) (h:AtR (·<w.heap.size) w a vc vp) (hwf:a.wf) : Calls Tryz.prog 90 #[.agg #[.string a.id,vc,vp]] w fun e w'=>∃ b,e=.returned (.bool b)/\(b=false->a.short)/\Below w.heap.size w w':=by
 obtain ⟨w1,w2,w3,w4,w5⟩:=hwf;unfold sD at w1;rw [jq] at w1 w3 w5;obtain ⟨ac,cc,UY,hsc⟩:=Rd.aC h.cls;obtain ⟨ap,cp,hvp,hsp⟩:=Rd.aC h.aP;obtain rfl:vc=.slice ac a.cls.length cc:=by simpa using UY
 obtain rfl:vp=.slice ap a.aP.length cp:=by simpa using hvp
 have hcl:a.cls.length<=cc:=by simpa using hsc.le
 have hpl:a.aP.length<=cp:=by simpa using hsp.le
 have hcm:=hsc.max;have hpm:=hsp.max;unfold maxLen at hcm hpm;obtain ⟨w0,hw0⟩:∃ w0,w0=w.alloc (.cells #[.string a.id,.slice ac a.cls.length cc,.slice ap a.aP.length cp] 27):=⟨_,rfl⟩;have hb0:Below w.heap.size w w0:=by rw [hw0];exact (Below.refl _ _).alloc (Nat.le_refl _) _
 have q0:w0.cell? ⟨w.heap.size,0,none⟩=some (.string a.id):=by rw [hw0];exact Du w [.string a.id,.slice ac a.cls.length cc,.slice ap a.aP.length cp] _ 0 _ rfl
 have q1:w0.cell? ⟨w.heap.size,1,none⟩=some (.slice ac a.cls.length cc):=by rw [hw0];exact Du w [.string a.id,.slice ac a.cls.length cc,.slice ap a.aP.length cp] _ 1 _ rfl
 have q2:w0.cell? ⟨w.heap.size,2,none⟩=some (.slice ap a.aP.length cp):=by rw [hw0];exact Du w [.string a.id,.slice ac a.cls.length cc,.slice ap a.aP.length cp] _ 2 _ rfl
 have HC:Hid (∀ k y,a.cls[k]?=some y->∃ b off,ac=some ⟨b,off,none⟩/\w0.cell? ⟨b,off+k,none⟩=some (.string y)):=by
  intro k y hy;obtain ⟨b,off,ha,hok,hb,hc⟩:=hsc.at_ (by have:=(List.getElem?_eq_some_iff.1 hy).1;simpa using Nat.lt_of_le_of_lt (jf3 _) this)
  obtain ⟨r,hr,hl,hcell⟩:=hc k _ (by rw [jf9,hy];rfl);obtain rfl:=hr.aY;have:=hcell 0 _ rfl;rw [Nat.mul_one,Nat.add_zero] at this;exact ⟨b,off,ha,(fH (hb0.block b hok) _).trans this⟩
 have HP:Hid (∀ k p,a.aP[k]?=some p->∃ b off,ap=some ⟨b,off,none⟩/\w0.cell? ⟨b,off+k*2,none⟩=some (.string p.key)/\w0.cell? ⟨b,off+k*2+1,none⟩=some (.string p.val)):=by intro k p hp;obtain ⟨b,off,ha,hok,hb,c0,c1⟩:=pW hsp hp;exact ⟨b,off,ha,(fH (hb0.block b hok) _).trans c0,(fH (hb0.block b hok) _).trans c1⟩
 have HB0:=hid hb0;have W2:=hid w2;have W4:=hid w4;clear h hsc hsp UY hvp w2 w4 hb0;by_cases h40:40<a.cls.length
 ·have e1:decide ((40:Int)<(a.cls.length:Int))=true:=by simp;omega
  clear HC HP W2 W4;go_enter Tryz.func90,Tryz.ntmps90;go_upto_region 2 with (fail)
  rw [<- hw0];clear hw0;go_wp2;go_ret;exact ⟨true,rfl,(fun h=>by cases h),HB0.out⟩
 have e1:decide ((40:Int)<(a.cls.length:Int))=false:=by simp;omega
 by_cases h41:40<a.aP.length
 ·have e2:decide ((40:Int)<(a.aP.length:Int))=true:=by simp;omega
  clear HC HP W2 W4;go_enter Tryz.func90,Tryz.ntmps90;go_upto_region 2 with (fail)
  rw [<- hw0];clear hw0;go_wp2;go_ret;exact ⟨true,rfl,(fun h=>by cases h),HB0.out⟩
 have e2:decide ((40:Int)<(a.aP.length:Int))=false:=by simp;omega
 have R1:Hid (Lg1 a (.int .i64 a.id.size) (.int .i64 0)):=⟨0,a.id.size,jf3 _,rfl,rfl,by omega,fun h=>⟨h,by simp⟩⟩;go_enter Tryz.func90,Tryz.ntmps90;go_upto_region 2 with (fail)
 rw [<- hw0];clear hw0;go_wp2
 go_loop [3,4] (fun vn vi=>Lg1 a vn vi) (fun _ i=>a.cls.length-(intOf i).toNat)
 case atStart=>exact R1.out
 case round=>
  clear R1;obtain ⟨k,n,hk,rfl,rfl,hn,hall⟩:=hrel;have HA:=hid hall;clear hall;unfold wV at hn w1;by_cases hlt:k<a.cls.length
  ·obtain ⟨y,hy⟩:∃ y,a.cls[k]?=some y:=⟨_,je6 hlt⟩;obtain ⟨b,off,rfl,c0⟩:=HC.out k y hy;have hys:y.size<=140737488351232:=by have:=W2.out y (jf4 hy);unfold sD at this;rw [jq] at this;exact this
   have HY:=hid hy;clear hy;go_wp2
   go_round
   case rel=>
    refine ⟨k+1,n+y.size,by omega,by go_num,by go_num,by unfold wV;omega,fun h6=>?_⟩;obtain ⟨i1,i2⟩:=HA.out (by omega);exact ⟨i1,q1z HY.out i2 (by omega)⟩
   case measure=>simp [intOf];omega
  ·have hkl:k=a.cls.length:=by omega
   subst hkl;have R2:Hid (Lg2 a w0 (.int .i64 n) (.int .i64 0) w0):=⟨0,n,0,jf3 _,rfl,rfl,by unfold wV;omega,fun h=>by
    obtain ⟨i1,i2⟩:=HA.out h;rw [jfx] at i2;exact ⟨i1,i2,by simp⟩,rfl⟩
   clear HA;go_wp2
   go_loopw [3,5] (fun vn vi wr=>Lg2 a w0 vn vi wr) (fun _ i _=>a.aP.length-(intOf i).toNat)
   case atStart=>exact R2.out
   case round=>
    clear R2;obtain ⟨k,n,q,hk,rfl,rfl,hn,hall,rfl⟩:=hrel;have HA:=hid hall;clear hall;unfold wV at hn;by_cases hlt:k<a.aP.length
    ·obtain ⟨p,hp⟩:∃ p,a.aP[k]?=some p:=⟨_,je6 hlt⟩;obtain ⟨b,off,rfl,c0,c1⟩:=HP.out k p hp;obtain ⟨hy1,hy2⟩:p.key.size<=140737488351232/\p.val.size<=140737488351232:=by have:=W4.out p (jf4 hp);unfold Pr.wf sD at this;rw [jq] at this;exact this
     have HY:=hid hp;clear hp;obtain ⟨py,pv⟩:=p;dsimp only at c0 c1 hy1 hy2;go_wp2_with fail
     go_quiet (fail)
     go_wp2;go_roundw;case rel=>
      refine ⟨k+1,n+(py.size+pv.size),q+nq,by omega,by go_num,by go_num,by unfold wV;omega,fun h6=>?_,rfl⟩;obtain ⟨i1,i2,i3⟩:=HA.out (by omega);exact ⟨i1,i2,q1z HY.out i3 ⟨by show py.size<=600;omega,by show pv.size<=600;omega⟩⟩
     case measure=>simp [intOf];omega
    ·have hkl:k=a.aP.length:=by omega
     subst hkl;by_cases h6:600<n
     ·have e3:decide ((600:Int)<(n:Int))=true:=by simp;omega
      go_wp2;go_ret;exact ⟨true,rfl,(fun h=>by cases h),gV HB0.out q⟩
     ·have e3:decide ((600:Int)<(n:Int))=false:=by simp;omega
      go_wp2;go_ret;refine ⟨false,rfl,fun _=>?_,gV HB0.out q⟩;obtain ⟨i1,i2,i3⟩:=HA.out (by omega);rw [jfx] at i3;exact ⟨by omega,by omega,i1,i2,i3⟩
open Go.RowKit
mutual
def aj.small:aj->Prop
 | .mk k t d ti a ar ci ks=>t.size<=300/\d.size<=300/\ti.size<=300/\a.short/\ar.length<=9/\ci.length<=9/\(∀ c∈ar,c.size<=5000)/\(∀ c∈ci,c.key.size<=5000/\c.pre.size<=5000/\c.suf.size<=5000)/\aj.ay ks
def aj.ay:List aj->Prop
 | []=>True
 | x::l=>x.small/\aj.ay l
end
theorem aj.jd:∀ (l m:List aj),aj.ay l->aj.ay m->aj.ay (l++m)
 | [],m,_,h=>h
 | x::l,m,h,h2=>by unfold aj.ay at h;rw [List.cons_append];unfold aj.ay;exact ⟨h.1,aj.jd l m h.2 h2⟩
theorem aj.gT {l:List aj} {k:Nat} {x:aj} (hx:l[k]?=some x) (h:aj.ay (l.take k)) (h2:x.small):aj.ay (l.take (k+1)):=by rw [List.take_add_one,hx];exact aj.jd _ _ h (by unfold Option.toList aj.ay;exact ⟨h2,by unfold aj.ay;trivial⟩)
theorem aj.Gt (l m:List aj):aj.aS (l++m)=aj.aS l+aj.aS m:=by
 induction l with
 | nil=>rw [aj.aS];simp
 | cons x l ih=>rw [List.cons_append,aj.aS,aj.aS,ih];omega
theorem aj.vG {l:List aj} {k:Nat} {x:aj} (hx:l[k]?=some x):aj.aS (l.take (k+1))=aj.aS (l.take k)+x.sz:=by rw [List.take_add_one,hx,aj.Gt];simp [aj.aS]
theorem aj.pI:∀ {l:List aj} {k:Nat} {x:aj},aj.qX l->l[k]?=some x->x.wf
 | [],_,_,_,h=>by simp at h
 | y::l,0,x,hw,h=>by unfold aj.qX at hw;simp at h;subst h;exact hw.1
 | y::l,k+1,x,hw,h=>by unfold aj.qX at hw;exact aj.pI hw.2 (by simpa using h)
theorem Rd.Di {ok:Nat->Prop} {w:jh9} {k:Nat} {l:List D} {v:jhk} (h:Rd ok w (.sl k l) [v]):∃ a n c,v=.slice a n c:=by obtain ⟨a',c',h',_⟩:=Rd.aC h;exact ⟨_,_,_,by simpa using h'⟩
theorem Rd.up {w w':jh9} {d:D} {cs:List jhk} (h:Rd (·<w.heap.size) w d cs) (hb:Below w.heap.size w w'):Rd (·<w'.heap.size) w' d cs:=
 Rd.keep (fun b h1 h2=>⟨Nat.lt_of_lt_of_le h2 hb.size,hb.block b h1⟩) _ _ h
theorem AtR.up {w w':jh9} {a:At} {vc vp:jhk} (h:AtR (·<w.heap.size) w a vc vp) (hb:Below w.heap.size w w'):AtR (·<w'.heap.size) w' a vc vp:=⟨h.cls.up hb,h.aP.up hb⟩
theorem eZ.at2 {w w':jh9} {b o:Nat} {k:Int} {t d ti id:ByteArray} {vc vp va vi vk:jhk} (h:eZ w b o k t d ti id vc vp va vi vk) (hb:w'.heap[b]?=w.heap[b]?):eZ w' b o k t d ti id vc vp va vi vk:=by obtain ⟨c0,c1,c2,c3,c4,c5,c6,c7,c8,c9⟩:=h;exact ⟨(fH hb _).trans c0,(fH hb _).trans c1,(fH hb _).trans c2,(fH hb _).trans c3,(fH hb _).trans c4,(fH hb _).trans c5,(fH hb _).trans c6,(fH hb _).trans c7,(fH hb _).trans c8,(fH hb _).trans c9⟩
def CB (T:TypeId) (p:Nat) (cs:List jhk) (w:jh9):Prop:=w.heap[p]?=some (.cells cs.toArray T (0,0))
section
variable {T:TypeId} {p:Nat} {cs:List jhk} {w w':jh9}
theorem CB.cell (h:CB T p cs w) (j:Nat) (u:jhk) (hu:cs[j]?=some u):w.cell? ⟨p,j,none⟩=some u:=by unfold CB at h;simp [World.cell?,h,hu]
theorem CB.lt (h:CB T p cs w):p<w.heap.size:=by unfold CB at h;exact (Array.getElem?_eq_some_iff.1 h).1
theorem CB.below (h:CB T p cs w) (hb:Below w.heap.size w w'):CB T p cs w':=(hb.block p h.lt).trans h
theorem CB.new (T:TypeId) (cs:List jhk) (w:jh9):CB T w.heap.size cs (w.alloc (.cells cs.toArray T)):=heap_alloc_new w _
end
theorem Ji {ok:Nat->Prop} {w:jh9} {l:List Ci} {a:Option Addr} {cap:Nat} (h:kL ok w 4 (l.map Ci.d) a cap) {k:Nat} {p:Ci} (hk:l[k]?=some p) : ∃ b off,a=some ⟨b,off,none⟩/\ok b/\b<w.heap.size/\w.cell? ⟨b,off+k*4,none⟩=some (.string p.key)/\w.cell? ⟨b,off+k*4+1,none⟩=some (.string p.pre)/\w.cell? ⟨b,off+k*4+2,none⟩=some (.string p.suf)/\w.cell? ⟨b,off+k*4+3,none⟩=some (.bool p.bare):=by
 have hlt:k<l.length:=(List.getElem?_eq_some_iff.1 hk).1;obtain ⟨b,off,ha,hok,hb,hc⟩:=h.at_ (by simpa using Nat.lt_of_le_of_lt (jf3 _) hlt)
 obtain ⟨r,hr,hl,hcell⟩:=hc k _ (by rw [jf9,hk];rfl);rw [Ci.open_ hr] at hcell;exact ⟨b,off,ha,hok,hb,hcell 0 _ rfl,by rw [Nat.add_assoc];exact hcell 1 _ rfl,by rw [Nat.add_assoc];exact hcell 2 _ rfl,by rw [Nat.add_assoc];exact hcell 3 _ rfl⟩
theorem og {ok:Nat->Prop} {w:jh9} {l:List ByteArray} {a:Option Addr} {cap:Nat} (h:kL ok w 1 (l.map D.str) a cap) {k:Nat} {y:ByteArray} (hy:l[k]?=some y) : ∃ b off,a=some ⟨b,off,none⟩/\ok b/\b<w.heap.size/\w.cell? ⟨b,off+k,none⟩=some (.string y):=by
 obtain ⟨b,off,ha,hok,hb,hc⟩:=h.at_ (by have:=(List.getElem?_eq_some_iff.1 hy).1;simpa using Nat.lt_of_le_of_lt (jf3 _) this)
 obtain ⟨r,hr,hl,hcell⟩:=hc k _ (by rw [jf9,hy];rfl);obtain rfl:=hr.aY;have:=hcell 0 _ rfl;rw [Nat.mul_one,Nat.add_zero] at this;exact ⟨b,off,ha,hok,hb,this⟩
def GD (dp:Nat):Nat:=(22-dp)*140737488355328
def Td (w:jh9) (l:List aj) (dp:Nat) (e:Ending) (w':jh9):Prop:=
 ∃ m:Nat,e=.returned (.int .i64 m)/\m<=GD dp/\(m<=120->aj.ay l/\aj.aS l<=m)/\Below w.heap.size w w'
def Qp (w:jh9) (l:List aj) (dp:Nat) (vn vi:jhk) (wr:jh9):Prop:=
 ∃ k n:Nat,k<=l.length/\vi=.int .i64 k/\vn=.int .i64 n/\n<=GD dp/\(n<=120->aj.ay (l.take k)/\aj.aS (l.take k)+(l.length-k)<=n)/\Below w.heap.size w wr
def Wt2 (n:Nat) (ar:List ByteArray) (vn vj:jhk):Prop:=∃ j m:Nat,j<=ar.length/\vj=.int .i64 j/\vn=.int .i64 m/\n<=m/\m<=n+j*3518437208781/\(m<=120->∀ c∈ar.take j,c.size<=5000)
def Wt3 (n:Nat) (ci:List Ci) (w0:jh9) (vn vj:jhk) (wr:jh9):Prop:=∃ j m:Nat,j<=ci.length/\vj=.int .i64 j/\vn=.int .i64 m/\n<=m/\m<=n+j*10555311626343/\(m<=120->∀ c∈ci.take j,c.key.size<=5000/\c.pre.size<=5000/\c.suf.size<=5000)/\Below w0.heap.size w0 wr
theorem Fg (n:Nat):∀ (l:List aj) (dp:Nat) (v:jhk) (w:jh9),aj.aS l<=n->dp<=21->Rd (·<w.heap.size) w (bD l) [v]->aj.qX l -> Calls Tryz.prog 91 #[v,.int .i64 dp] w (Td w l dp):=by
 induction n using Nat.strongRecOn with
 | _ n ih=>
  intro l dp v w hn hdp hrd hwf;obtain ⟨a,cap,hv,hs⟩:=Rd.aC hrd;obtain rfl:v=.slice a l.length cap:=by simpa using hv
  have hcap:l.length<=cap:=by simpa using hs.le
  have hmx:=hs.max;unfold maxLen at hmx;have HS:=hid hs;have IH:=hid ih;have I8:=hid hwf;clear hs hv hrd ih hwf;by_cases hd:20<dp
  ·have e1:decide ((20:Int)<(dp:Int))=true:=by simp;omega
   clear HS IH I8;go_enter Tryz.func91,Tryz.ntmps91;go_wp2;go_ret;exact ⟨1000,rfl,by unfold GD;omega,(fun h=>by omega),Below.refl _ _⟩
  have e1:decide ((20:Int)<(dp:Int))=false:=by simp;omega
  by_cases h2:200<l.length
  ·have e2:decide ((200:Int)<(l.length:Int))=true:=by simp;omega
   clear HS IH I8;go_enter Tryz.func91,Tryz.ntmps91;go_wp2;go_ret;exact ⟨1000,rfl,by unfold GD;omega,(fun h=>by omega),Below.refl _ _⟩
  have e2:decide ((200:Int)<(l.length:Int))=false:=by simp;omega
  have R0:Hid (Qp w l dp (.int .i64 l.length) (.int .i64 0) w):=⟨0,l.length,jf3 _,rfl,rfl,by unfold GD;omega,(fun _=>⟨by rw [List.take_zero];unfold aj.ay;trivial,by rw [List.take_zero,aj.aS];omega⟩),Below.refl _ _⟩;go_enter Tryz.func91,Tryz.ntmps91;go_wp2
  go_loopw [5,6] (fun vn vi wr=>Qp w l dp vn vi wr) (fun _ i _=>l.length-(intOf i).toNat)
  case atStart=>exact R0.out
  case round=>
   clear R0;obtain ⟨k,m,hk,rfl,rfl,hm,hall,hbel⟩:=hrel;have sO:=hid hall;have fJ:=hid hbel;clear hall hbel;unfold GD at hm;by_cases hlt:k<l.length
   ·by_cases hm1:m<1000
    ·have e3:decide ((m:Int)<(1000:Int))=true:=by simp;omega
     obtain ⟨x,hx⟩:∃ x,l[k]?=some x:=⟨_,je6 hlt⟩;obtain ⟨kd,t,d,ti,at_,ar,ci,ks⟩:=x;obtain ⟨g,off,vc,vp,va,vi,vk,rfl,hok,hbl,hc,hR⟩:=iy HS.out hx;have hx2:=aj.pI I8.out hx;unfold aj.wf sD at hx2;obtain ⟨x1,x2,x3,x4,x5,x6,x7,x8,x9,x10,x11⟩:=hx2;rw [jq] at x2 x3 x4 x7 x9;unfold wV at x2 x3 x4 x7 x9;have hsz:=aj.aZ l k _ hx;rw [aj.sz] at hsz;obtain ⟨aa,ca,hva,hsa⟩:=Rd.aC hR.args;obtain ⟨ai,qJ,hvi,hsi⟩:=Rd.aC hR.iq;obtain ⟨ac,nc,cc,rfl⟩:=Rd.Di hR.at_.cls
     obtain ⟨ap,np,cp,rfl⟩:=Rd.Di hR.at_.aP
     obtain ⟨ak,nk,ck,rfl⟩:=Rd.Di hR.kids;obtain rfl:va=.slice aa ar.length ca:=by simpa using hva
     obtain rfl:vi=.slice ai ci.length qJ:=by simpa using hvi
     have hca:ar.length<=ca:=by simpa using hsa.le
     have hci:ci.length<=qJ:=by simpa using hsi.le
     have jb6:=hsa.max;have jb7:=hsi.max;unfold maxLen at jb6 jb7;obtain ⟨c0,c1,c2,c3,c4,c5,c6,c7,c8,c9⟩:=hc.at2 (w':=wr) (fJ.out.block g hok);have HR:=hid hR;have UG:=hid hsa;have HSI:=hid hsi;have HX:=hid hx;have X5:=hid x5;have X6:=hid x6;have X8:=hid x8;have X10:=hid x10;clear hc hR hsa hsi hx x1 x5 x6 x8 x10 x11 hva hvi;go_upto_region 8 with (fail)
     obtain ⟨wa,OH⟩:∃ wa,wa=wr.alloc (.cells #[.int .i64 kd,.string t,.string d,.string ti,.string at_.id,.slice ac nc cc,.slice ap np cp,.slice aa ar.length ca,.slice ai ci.length qJ,.slice ak nk ck] 51):=⟨_,rfl⟩;have hcb:CB 51 wr.heap.size [.int .i64 kd,.string t,.string d,.string ti,.string at_.id,.slice ac nc cc,.slice ap np cp,.slice aa ar.length ca,.slice ai ci.length qJ,.slice ak nk ck] wa:=by rw [OH];exact CB.new _ _ _
     have hba:Below w.heap.size w wa:=by rw [OH];exact fJ.out.alloc fJ.out.size _
     rw [<- OH];clear OH c0 c1 c2 c3 c4 c5 c6 c7 c8 c9;have d1:=hcb.cell 1 _ rfl;have d2:=hcb.cell 2 _ rfl;have d3:=hcb.cell 3 _ rfl;have d4:=hcb.cell 4 _ rfl;have d5:=hcb.cell 5 _ rfl;have d6:=hcb.cell 6 _ rfl;have d7:=hcb.cell 7 _ rfl;have d8:=hcb.cell 8 _ rfl;have Po:=hid hcb;have vR:=hid hba;have LG:=hid (Da at_ _ _ wa (HR.out.at_.up hba) X5.out);clear hcb hba;by_cases h3:300<t.size+d.size+ti.size
     ·have e4:decide ((300:Int)<(t.size:Int)+(d.size:Int)+(ti.size:Int))=true:=by simp;omega
      go_wp2;go_ret;exact ⟨1000,rfl,by unfold GD;omega,(fun h=>by omega),vR.out⟩
     have e4:decide ((300:Int)<(t.size:Int)+(d.size:Int)+(ti.size:Int))=false:=by simp;omega
     go_wp2_with fail
     refine LG.out.mono ?_;rintro e wb ⟨b,rfl,hsh,hbb⟩;have Mf:=aU vR.out hbb;have zM:=Po.out.below hbb;have d7:=zM.cell 7 _ rfl;have d8:=zM.cell 8 _ rfl;have WY:=hid hsh;have zP:=hid Mf;have OI:=hid zM;clear LG vR Po d1 d2 d3 d4 d5 d6 hsh hbb Mf zM;cases b with
     | true=>
      go_wp2;go_ret;exact ⟨1000,rfl,by unfold GD;omega,(fun h=>by omega),zP.out⟩
     | false=>
     by_cases h4:9<ar.length
     ·have e5:decide ((9:Int)<(ar.length:Int))=true:=by simp;omega
      go_wp2;go_ret;exact ⟨1000,rfl,by unfold GD;omega,(fun h=>by omega),zP.out⟩
     have e5:decide ((9:Int)<(ar.length:Int))=false:=by simp;omega
     by_cases h5:9<ci.length
     ·have e6:decide ((9:Int)<(ci.length:Int))=true:=by simp;omega
      go_wp2;go_ret;exact ⟨1000,rfl,by unfold GD;omega,(fun h=>by omega),zP.out⟩
     have e6:decide ((9:Int)<(ci.length:Int))=false:=by simp;omega
     have R2:Hid (Wt2 m ar (.int .i64 m) (.int .i64 0)):=⟨0,m,jf3 _,rfl,rfl,Nat.le_refl _,by omega,(fun _=>by simp)⟩;have HAR:Hid (∀ j y,ar[j]?=some y->∃ b off,aa=some ⟨b,off,none⟩/\wb.cell? ⟨b,off+j,none⟩=some (.string y)/\y.size<=140737488351232):=by intro j y hy;obtain ⟨b,off,h1,h2,h3,h4⟩:=og UG.out hy;exact ⟨b,off,h1,(fH (zP.out.block b h2) _).trans h4,by have:=X6.out y (jf4 hy);rw [jq] at this;exact this⟩
     go_wp2
     go_loop [5,8] (fun vn vj=>Wt2 m ar vn vj) (fun _ j=>ar.length-(intOf j).toNat)
     case atStart=>exact R2.out
     case round=>
      clear R2;obtain ⟨j,m2,hj,rfl,rfl,hm2,Ms,Qq⟩:=hrel;have HA2:=hid Qq;clear Qq;by_cases hjl:j<ar.length
      ·obtain ⟨y,hy⟩:∃ y,ar[j]?=some y:=⟨_,je6 hjl⟩;obtain ⟨b,off2,rfl,cy,hys⟩:=HAR.out j y hy;have HY:=hid hy;clear hy;go_wp2
       go_round
       case rel=>
        refine ⟨j+1,m2+y.size/40,by omega,by go_num,by go_num,by omega,by omega,fun h6=>?_⟩;exact q1z HY.out (HA2.out (by omega)) (by omega)
       case measure=>simp [intOf];omega
      ·have jb8:j=ar.length:=by omega
       subst jb8;have HA3:Hid (m2<=120->∀ c∈ar,c.size<=5000):=fun h=>by have:=HA2.out h;rwa [jfx] at this
       have R3:Hid (Wt3 m2 ci wb (.int .i64 m2) (.int .i64 0) wb):=⟨0,m2,jf3 _,rfl,rfl,Nat.le_refl _,by omega,(fun _=>by simp),Below.refl _ _⟩;clear HA2 HAR;have HCI:Hid (∀ j y,ci[j]?=some y->∃ b off,ai=some ⟨b,off,none⟩/\b<wb.heap.size/\wb.cell? ⟨b,off+j*4,none⟩=some (.string y.key)/\wb.cell? ⟨b,off+j*4+1,none⟩=some (.string y.pre)/\wb.cell? ⟨b,off+j*4+2,none⟩=some (.string y.suf)/\wb.cell? ⟨b,off+j*4+3,none⟩=some (.bool y.bare)/\y.key.size<=140737488351232/\y.pre.size<=140737488351232/\y.suf.size<=140737488351232):=by intro j y hy;obtain ⟨b,off,h1,h2,h3,k0,k1,k2,k3⟩:=Ji HSI.out hy;have hw:=X8.out y (jf4 hy);unfold Ci.wf sD at hw;rw [jq] at hw;have hs:=fH (zP.out.block b h2);exact ⟨b,off,h1,Nat.lt_of_lt_of_le h3 zP.out.size,(hs _).trans k0,(hs _).trans k1,(hs _).trans k2,(hs _).trans k3,hw⟩
       go_wp2
       go_loopw [5,9] (fun vn vj wz=>Wt3 m2 ci wb vn vj wz) (fun _ j _=>ci.length-(intOf j).toNat)
       case atStart=>exact R3.out
       case round=>
        clear R3;obtain ⟨j,m4,hj,rfl,rfl,OZ,hm5,Qr,hb3⟩:=hrel;have HA4:=hid Qr;have HB3:=hid hb3;have Mg:=OI.out.below hb3;have f8:=Mg.cell 8 _ rfl;have f9:=Mg.cell 9 _ rfl;have hlt3:=Mg.lt;have jdx:=hid Mg;clear Qr hb3 Mg;by_cases hjl:j<ci.length
        ·obtain ⟨y,hy⟩:∃ y,ci[j]?=some y:=⟨_,je6 hjl⟩;obtain ⟨b,off2,rfl,Sg,k0,k1,k2,k3,s0,s1,s2⟩:=HCI.out j y hy;have hs:=fH (HB3.out.block b Sg);have k0:=(hs _).trans k0;have k1:=(hs _).trans k1;have k2:=(hs _).trans k2;have k3:=(hs _).trans k3;have HY:=hid hy;obtain ⟨yk,yp,ys,yb⟩:=y;dsimp only at k0 k1 k2 k3 s0 s1 s2;clear hy hs;go_wp2;go_roundw;case rel=>
          refine ⟨j+1,m4+(yk.size+yp.size+ys.size)/40,by omega,by go_num,by go_num,by omega,by omega,fun h6=>?_,HB3.out.alloc HB3.out.size _⟩;exact q1z HY.out (HA4.out (by omega)) ⟨by show yk.size<=5000;omega,by show yp.size<=5000;omega,by show ys.size<=5000;omega⟩
         case measure=>simp [intOf];omega
        ·have jb9:j=ci.length:=by omega
         subst jb9;have HA5:Hid (m4<=120->∀ c∈ci,c.key.size<=5000/\c.pre.size<=5000/\c.suf.size<=5000):=fun h=>by have:=HA4.out h;rwa [jfx] at this
         have hb4:=hid (aU zP.out HB3.out);have RC:=hid (IH.out (aj.aS ks) (by omega) ks (dp+1) (.slice ak nk ck) wr (Nat.le_refl _) (by omega) (HR.out.kids.up hb4.out) X10.out);clear HA4 HCI;go_wp2_with fail
         refine RC.out.mono ?_;rintro e w5 ⟨wk,rfl,hwk,vQ,hb5⟩;have HW2:=hid vQ;have Jq:=hid (aU hb4.out hb5);unfold GD at hwk;clear vQ hb5 RC;go_wp2;go_roundw;case rel=>
          refine ⟨k+1,m4+wk,by omega,by go_num,by go_num,by unfold GD;omega,(fun h=>?_),Jq.out⟩;obtain ⟨i1,i2⟩:=sO.out (by omega);obtain ⟨j1,j2⟩:=HW2.out (by omega);have hsn:=aj.vG HX.out;rw [aj.sz] at hsn;refine ⟨aj.gT HX.out i1 (by unfold aj.small;exact ⟨by omega,by omega,by omega,WY.out trivial,by omega,by omega,HA3.out (by omega),HA5.out (by omega),j1⟩),by omega⟩
         case measure=>simp [intOf];omega
    ·have e3:decide ((m:Int)<(1000:Int))=false:=by simp;omega
     clear HS IH I8;go_wp2;go_ret;exact ⟨m,rfl,by unfold GD;omega,(fun h=>by omega),fJ.out⟩
   ·have hkl:k=l.length:=by omega
    subst hkl;clear HS IH I8;go_wp2;go_ret;refine ⟨m,rfl,by unfold GD;omega,(fun h=>?_),fJ.out⟩;have:=sO.out h;rw [jfx] at this;exact ⟨this.1,by omega⟩
open Go.RowKit
theorem Fx {y z:ByteArray} (h:y≠z):(y.toList != z.toList)=true:=by rw [Lib.toList_data,Lib.toList_data];simp only [bne_iff_ne,ne_eq];intro e;exact h (ByteArray.ext (Array.ext' e))
theorem MN {y z:ByteArray} (h:y≠z):(y.toList==z.toList)=false:=by have:=Fx h;simpa [bne] using this
end Go.Proofs.YtclikfjalmcoaaaGreatDoor

