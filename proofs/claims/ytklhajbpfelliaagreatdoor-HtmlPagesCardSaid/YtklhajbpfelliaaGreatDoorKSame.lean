/- Arguments that came in, read as the document's data, with what the form's reach says of their sizes. publisherref04.long: whether attributes are many, or long. publisherref04.weight: how many parts inlines have. publisherref04.texts, Pairs, attrs, SameLine, SameBlocks, Same: they answer whether the data are equal. -/
import Derived.Deep.Slices
import Derived.ProofKit
import Derived.OpenShut
import Derived.Test.YtklhajbpfelliaaGreatDoorKAppend
set_option maxHeartbeats 8000000
set_option maxRecDepth 100000
open Go.Lib (hid)
namespace Go.Proofs.YtklhajbpfelliaaGreatDoor
open List renaming getElem?_eq_getElem->jF9,mem_of_getElem?->jG7,getElem?_map->jGq,take_length->jH1
open Nat renaming zero_le->jG6
open Go renaming World->jIq,Value->jIz
open Go.RowKit Go.ChangeShapes Go.WideShapes Go.Deep
set_option linter.unusedVariables false
set_option linter.unusedSimpArgs false
section
variable {H:Type} {enc:TypeId × jIz->H} {w:jIq} {base:Nat} {spare:Nat->Bool} {held:Bool}
theorem aU.Ow {ok:Nat->Prop} {α:Type} (F:α->D) (R:α->List jIz):∀ (L:List α),(∀ i∈L,Rd ok w (F i) (R i))->aU ok w (L.map F) (L.map R)
 | [],_=>aU.none
 | x::L,h=>aU.cons (h x (by simp)) (aU.Ow F R L (fun i hi=>h i (by simp [hi])))
def Bc (P:Program) (t:TypeId) (d:DataW H):Prop:=(d.weights P t).all (·<=reachBytes)=true
theorem Ox {P:Program} {e:TypeId}:∀ {l:List (DataW H)},(DataW.weightsAll P e l).all (·<=reachBytes)=true->∀ d∈l,Bc P e d
 | [],_,d,hd=>by cases hd
 | x::l,h,d,hd=>by
  rw [DataW.weightsAll,List.all_append,Bool.and_eq_true] at h;rcases List.mem_cons.1 hd with rfl | hd
  ·exact h.1
  ·exact Ox h.2 d hd
theorem zT {P:Program}:∀ {ts:List TypeId} {l:List (DataW H)},(DataW.weightsEach P ts l).all (·<=reachBytes)=true->∀ (i:Nat) (t:TypeId) (d:DataW H),ts[i]?=some t->l[i]?=some d->Bc P t d
 | [],_,_,i,t,d,ht,_=>by simp at ht
 | _::_,[],_,i,t,d,_,hd=>by simp at hd
 | t0::ts,d0::l,h,0,t,d,ht,hd=>by
  rw [DataW.weightsEach,List.all_append,Bool.and_eq_true] at h;simp at ht hd;subst ht hd;exact h.1
 | t0::ts,d0::l,h,i+1,t,d,ht,hd=>by
  rw [DataW.weightsEach,List.all_append,Bool.and_eq_true] at h;exact zT h.2 i t d (by simpa using ht) (by simpa using hd)
theorem iK {P:Program} {t:TypeId} {fs:Array Field} {parts:List (DataW H)} (ht:P.underlying t=some (.struct fs)) (hw:Bc P t (.agg parts)) (i:Nat) (f:Field) (d:DataW H) (hf:fs[i]?=some f) (hd:parts[i]?=some d):Bc P f.type d:=by unfold Bc at hw;rw [DataW.weights,ht] at hw;exact zT hw i f.type d (by rw [jGq,Array.getElem?_toList,hf];rfl) hd
theorem Qx {P:Program} {t e:TypeId} {elems spare:List (DataW H)} (ht:P.underlying t=some (.slice e)) (hw:Bc P t (.slice elems spare)):elems.length*P.bytesOf e<=reachBytes/\∀ d∈elems,Bc P e d:=by unfold Bc at hw;rw [DataW.weights,ht] at hw;simp only [List.all_cons,List.all_append,Bool.and_eq_true,decide_eq_true_eq] at hw;refine ⟨Nat.le_trans (Nat.mul_le_mul_right _ (by omega)) hw.1,Ox hw.2.1⟩
theorem q1i {P:Program} {t:TypeId} {s:ByteArray} (hw:Bc P t (.lit (.string s.data.toList):DataW H)):s.size<=reachBytes:=by unfold Bc at hw;rw [DataW.weights] at hw;simpa using hw
theorem len2:∀ {l:List jIz},l.length=2->∃ c0 c1,l=[c0,c1]
 | [c0,c1],_=>⟨_,_,rfl⟩
theorem jC1:∀ {l:List jIz},l.length=3->∃ c0 c1 c2,l=[c0,c1,c2]
 | [c0,c1,c2],_=>⟨_,_,_,rfl⟩
theorem jC2:∀ {l:List jIz},l.length=4->∃ c0 c1 c2 c3,l=[c0,c1,c2,c3]
 | [c0,c1,c2,c3],_=>⟨_,_,_,_,rfl⟩
theorem jxq:∀ {l:List jIz},l.length=10->∃ c0 c1 c2 c3 c4 c5 c6 c7 c8 c9,l=[c0,c1,c2,c3,c4,c5,c6,c7,c8,c9]
 | [c0,c1,c2,c3,c4,c5,c6,c7,c8,c9],_=>⟨_,_,_,_,_,_,_,_,_,_,rfl⟩
theorem jxx:∀ {l:List jIz},l.length=11->∃ c0 c1 c2 c3 c4 c5 c6 c7 c8 c9 c10,l=[c0,c1,c2,c3,c4,c5,c6,c7,c8,c9,c10]
 | [c0,c1,c2,c3,c4,c5,c6,c7,c8,c9,c10],_=>⟨_,_,_,_,_,_,_,_,_,_,_,rfl⟩
theorem jP {P:Program} {α:Type} [Inhabited α] (f:α->D) (OK:α->Prop) {fuel:Nat} {t e:TypeId} {k:Nat} {cs:List jIz} {x:DataW H × List MemPlace} (ht:P.underlying t=some (.slice e)) (hk:P.cellsOf e=k) (hk0:0<k) (hel:∀ n cs' y,n<fuel->DataW.trod enc P w base spare held n e cs'=some y->Bc P e y.1->∃ a:α,OK a/\Rd (·<w.heap.size) w (f a) cs') (h:DataW.trod enc P w base spare held fuel t cs=some x) (hw:Bc P t x.1):∃ l:List α,(∀ a∈l,OK a)/\l.length*P.bytesOf e<=reachBytes/\Rd (·<w.heap.size) w (.sl k (l.map f)) cs:=by
 subst hk;rcases DataW.trod_slice ht h with ⟨rfl,_⟩ | ⟨a,len,cap,elems,rest,n,rfl,rfl,Qy,hb,hl,hm,hlen,jC3,_⟩
 ·exact ⟨[],by simp,by simp,Rd.aD _ _ _⟩
 rw [Qy] at hw;obtain ⟨hwl,hwe⟩:=Qx ht hw;rw [List.length_map] at hwl;have key:∀ i,i<len->∃ p:α × List jIz,OK p.1/\Rd (·<w.heap.size) w (f p.1) p.2/\p.2.length=P.cellsOf e/\∀ j,j<P.cellsOf e->w.cell? ((a.add (i*P.cellsOf e)).add j)=p.2[j]?:=by intro i hi;have h1:=jC3 i hi;rw [jF9 (by omega)] at h1;obtain ⟨cs',h2,h3⟩:=Option.bind_eq_some_iff.1 h1;obtain ⟨_,h4,h5⟩:=World.cells?_some h2;obtain ⟨y,hy1,hy2⟩:=hel n cs' _ (by omega) h3 (hwe _ (List.mem_map.2 ⟨_,List.getElem_mem _,rfl⟩));exact ⟨(y,cs'),hy1,hy2,h4,h5⟩
 obtain ⟨p,hp⟩:=choose_lt (α:=α × List jIz) key;refine ⟨(List.range len).map fun i=>(p i).1,?_,by rw [List.length_map,List.length_range];rw [hlen] at hwl;exact hwl,?_⟩
 ·intro y hy;obtain ⟨i,hi,rfl⟩:=List.mem_map.1 hy;exact (hp i (List.mem_range.1 hi)).1
 rw [List.map_map];have hL:=aU.Ow (ok:=(·<w.heap.size)) (w:=w) (f ∘ fun i=>(p i).1) (fun i=>(p i).2) (List.range len) (fun i hi=>(hp i (List.mem_range.1 hi)).2.1);have hrl:∀ r∈(List.range len).map (fun i=>(p i).2),r.length=P.cellsOf e:=by intro r hr;obtain ⟨i,hi,rfl⟩:=List.mem_map.1 hr;exact (hp i (List.mem_range.1 hi)).2.2.1
 have sS:((List.range len).map (f ∘ fun i=>(p i).1)).length=len:=by simp
 unfold Rd;refine ⟨some a,cap,_,by rw [sS],by omega,hm,hL,hrl,?_⟩;rw [sS];rcases Nat.eq_zero_or_pos len with h0 | h0
 ·exact .inl h0
 ·obtain ⟨b,off,spot⟩:=a;have c0:=(hp 0 h0).2.2.2 0 hk0;have hl0:=(hp 0 h0).2.2.1;rw [jF9 (by omega)] at c0;have hspot:spot=none:=by simpa [Addr.add] using World.cell?_spot c0
  subst hspot;have plain:∀ (o j:Nat),((⟨b,o,none⟩:Addr).add j)=⟨b,o+j,none⟩:=by intro o j;unfold Addr.add;split<;>simp_all
  rw [plain,plain] at c0;refine .inr ⟨b,off,rfl,nO c0,nO c0,fun j u hu=>?_⟩;have hj:j<len*P.cellsOf e:=by have h1:=(List.getElem?_eq_some_iff.1 hu).1;rw [lg (P.cellsOf e) _ hrl] at h1;simpa using h1
  have hi:j/P.cellsOf e<len:=Nat.div_lt_of_lt_mul (by rw [Nat.mul_comm];exact hj);have hr:j%P.cellsOf e<P.cellsOf e:=Nat.mod_lt _ hk0;have ej:j/P.cellsOf e*P.cellsOf e+j%P.cellsOf e=j:=by rw [Nat.mul_comm];exact Nat.div_add_mod j _
  have c1:=(hp _ hi).2.2.2 _ hr;have hlr:=(hp _ hi).2.2.1;rw [jF9 (by omega),plain,plain,Nat.add_assoc,ej] at c1;have hf:=YM (P.cellsOf e) _ hrl (j/P.cellsOf e) (j%P.cellsOf e) (p (j/P.cellsOf e)).2 _ (by rw [jGq,List.getElem?_range hi];rfl) (jF9 (by omega));rw [ej,hu] at hf;rw [c1];exact hf.symm
instance:Inhabited Pr:=⟨⟨.empty,.empty⟩⟩
instance:Inhabited Ci:=⟨⟨.empty,.empty,.empty,false⟩⟩
instance:Inhabited At:=⟨⟨.empty,[],[]⟩⟩
instance:Inhabited aj:=⟨.mk 0 .empty .empty .empty default [] [] []⟩
instance:Inhabited ah:=⟨.mk 0 0 .empty .empty .empty .empty default [] []⟩
def xW (s:ByteArray):Prop:=s.size<=reachBytes
def iOk (n:Int):Prop:=-9223372036854775808<=n/\n<=9223372036854775807
def Pr.wf (p:Pr):Prop:=xW p.key/\xW p.val
def Ci.wf (p:Ci):Prop:=xW p.key/\xW p.pre/\xW p.suf
def At.wf (a:At):Prop:=xW a.id/\(∀ c∈a.cls,xW c)/\a.cls.length<=reachBytes/\(∀ p∈a.aF,p.wf)/\a.aF.length<=reachBytes
mutual
def aj.wf:aj->Prop
 | .mk k t d ti a ar ci ks=>iOk k/\xW t/\xW d/\xW ti/\a.wf/\(∀ c∈ar,xW c)/\ar.length<=reachBytes/\(∀ c∈ci,c.wf)/\ci.length<=reachBytes/\aj.wF ks/\ks.length<=reachBytes
def aj.wF:List aj->Prop
 | []=>True
 | x::l=>x.wf/\aj.wF l
end
mutual
def ah.wf:ah->Prop
 | .mk k lv i t d ti a li ks=>iOk k/\iOk lv/\xW i/\xW t/\xW d/\xW ti/\a.wf/\aj.wF li/\li.length<=reachBytes/\ah.wF ks/\ks.length<=reachBytes
def ah.wF:List ah->Prop
 | []=>True
 | x::l=>x.wf/\ah.wF l
end
theorem aj.rX:∀ (l:List aj),(∀ x∈l,x.wf)->aj.wF l
 | [],_=>by unfold aj.wF;trivial
 | x::l,h=>by unfold aj.wF;exact ⟨h x (by simp),aj.rX l (fun y hy=>h y (by simp [hy]))⟩
theorem ah.rX:∀ (l:List ah),(∀ x∈l,x.wf)->ah.wF l
 | [],_=>by unfold ah.wF;trivial
 | x::l,h=>by unfold ah.wF;exact ⟨h x (by simp),ah.rX l (fun y hy=>h y (by simp [hy]))⟩
theorem Mw {n:Int} (h:(Lit.int .i64 n).wf=true):iOk n:=by have:=bounds_i64 h;exact this
section
variable {fuel:Nat} {cs:List jIz} {x:DataW H × List MemPlace}
theorem cS:Tryz.prog.cellsOf 9=1:=by kernel_rfl
theorem cI:Tryz.prog.cellsOf 3=1:=by kernel_rfl
theorem cB:Tryz.prog.cellsOf 4=1:=by kernel_rfl
theorem cP:Tryz.prog.cellsOf 37=2:=by kernel_rfl
theorem cC:Tryz.prog.cellsOf 86=4:=by kernel_rfl
theorem cA:Tryz.prog.cellsOf 43=3:=by kernel_rfl
theorem cIn:Tryz.prog.cellsOf 47=10:=by kernel_rfl
theorem cBl:Tryz.prog.cellsOf 51=11:=by kernel_rfl
theorem cLS:Tryz.prog.cellsOf 41=1:=by kernel_rfl
theorem cLP:Tryz.prog.cellsOf 22=1:=by kernel_rfl
theorem cLC:Tryz.prog.cellsOf 44=1:=by kernel_rfl
theorem cLI:Tryz.prog.cellsOf 45=1:=by kernel_rfl
theorem cLB:Tryz.prog.cellsOf 23=1:=by kernel_rfl
theorem cD:Tryz.prog.cellsOf 25=2:=by kernel_rfl
theorem rY {n k:Nat} (h:n*k<=reachBytes) (hk:1<=k):n<=reachBytes:=Nat.le_trans (Nat.le_mul_of_pos_right n hk) h
theorem yS:1<=Tryz.prog.bytesOf 9:=by decide +kernel
theorem yP:1<=Tryz.prog.bytesOf 37:=by decide +kernel
theorem yC:1<=Tryz.prog.bytesOf 86:=by decide +kernel
theorem yI:1<=Tryz.prog.bytesOf 47:=by decide +kernel
theorem yB:1<=Tryz.prog.bytesOf 51:=by decide +kernel
theorem Oy (h:DataW.trod enc Tryz.prog w base spare held fuel 41 cs=some x) (hw:Bc Tryz.prog 41 x.1):∃ l:List ByteArray,(∀ s∈l,xW s)/\l.length<=reachBytes/\Rd (·<w.heap.size) w (ku l) cs:=by
 obtain ⟨l,h1,h2,h3⟩:=jP D.str xW Tryz.underlying41 cS (by decide) (fun n cs' y _ hy Nv=>by
  obtain ⟨s,rfl,rfl,hs⟩:=DataW.trod_string Tryz.underlying9 hy;exact ⟨s,q1i Nv,Rd.dZ _ _ _⟩) h hw
 exact ⟨l,h1,rY h2 yS,h3⟩
theorem Wm{P Q:Prop}(q:Q)(h:Nonempty Q->P:=by
 intro qQ;have h0:s0.size<=reachBytes:=q1i (P:=Tryz.prog) (t:=9) (by have h':=hwf 0 _ _ rfl (by rw [List.getElem?_map,List.getElem?_eq_getElem (by omega)];rfl);rw [x0] at h';exact h');revert h0;exact qQ.elim fun x=>x):P:=h ⟨q⟩
theorem Wn{P Q:Prop}(q:Q)(h:Nonempty Q->P:=by
 intro qQ;have h1:s1.size<=reachBytes:=q1i (P:=Tryz.prog) (t:=9) (by have h':=hwf 1 _ _ rfl (by rw [List.getElem?_map,List.getElem?_eq_getElem (by omega)];rfl);rw [x1] at h';exact h');revert h1;exact qQ.elim fun x=>x):P:=h ⟨q⟩
theorem Zf (h:DataW.trod enc Tryz.prog w base spare held fuel 37 cs=some x) (hw:Bc Tryz.prog 37 x.1):∃ p:Pr,p.wf/\Rd (·<w.heap.size) w p.d cs:=by
 obtain ⟨xs,n,rfl,Qy,hlen,hxl,hf⟩:=DataW.trod_struct Tryz.underlying37 h;rw [Qy] at hw;have hwf:=fun i f d=>iK Tryz.underlying37 hw i f d
 rw [cP] at hlen;obtain ⟨c0,c1,rfl⟩:=len2 hlen;have f0:=hf 0 _ rfl;have f1:=hf 1 _ rfl;have hx2:xs.length=2:=by rw [hxl];rfl
 rw [List.getElem?_eq_getElem (by omega)] at f0 f1;simp only [cS,List.getElem_toArray,List.getElem_cons_zero,List.getElem_cons_succ,List.drop_zero,List.drop_succ_cons,List.take_succ_cons,List.take_zero] at f0 f1;obtain ⟨s0,e0,x0,_⟩:=DataW.trod_string Tryz.underlying9 f0;refine Wm ?_;intro h0;obtain ⟨s1,e1,x1,_⟩:=DataW.trod_string Tryz.underlying9 f1;refine Wn ?_;intro h1;cases e0;cases e1
 exact ⟨⟨s0,s1⟩,⟨h0,h1⟩,Pr.dJ _ _ ⟨s0,s1⟩⟩
theorem Wo{P Q:Prop}(q:Q)(h:Nonempty Q->P:=by
 intro qQ;have h2:s2.size<=reachBytes:=q1i (P:=Tryz.prog) (t:=9) (by have h':=hwf 2 _ _ rfl (by rw [List.getElem?_map,List.getElem?_eq_getElem (by omega)];rfl);rw [x2] at h';exact h');revert h2;exact qQ.elim fun x=>x):P:=h ⟨q⟩
theorem Wp (h:DataW.trod enc Tryz.prog w base spare held fuel 86 cs=some x) (hw:Bc Tryz.prog 86 x.1):∃ p:Ci,p.wf/\Rd (·<w.heap.size) w p.d cs:=by
 obtain ⟨xs,n,rfl,Qy,hlen,hxl,hf⟩:=DataW.trod_struct Tryz.underlying86 h;rw [Qy] at hw;have hwf:=fun i f d=>iK Tryz.underlying86 hw i f d
 rw [cC] at hlen;obtain ⟨c0,c1,c2,c3,rfl⟩:=jC2 hlen;have f0:=hf 0 _ rfl;have f1:=hf 1 _ rfl;have f2:=hf 2 _ rfl;have f3:=hf 3 _ rfl;have hx2:xs.length=4:=by rw [hxl];rfl
 rw [List.getElem?_eq_getElem (by omega)] at f0 f1 f2 f3;simp only [cS,cB,List.getElem_toArray,List.getElem_cons_zero,List.getElem_cons_succ,List.drop_zero,List.drop_succ_cons,List.take_succ_cons,List.take_zero] at f0 f1 f2 f3;obtain ⟨s0,e0,x0,_⟩:=DataW.trod_string Tryz.underlying9 f0;refine Wm ?_;intro h0;obtain ⟨s1,e1,x1,_⟩:=DataW.trod_string Tryz.underlying9 f1;refine Wn ?_;intro h1;obtain ⟨s2,e2,x2,_⟩:=DataW.trod_string Tryz.underlying9 f2;refine Wo ?_;intro h2;obtain ⟨b,e3,_⟩:=DataW.trod_bool Tryz.underlying4 f3;cases e0;cases e1;cases e2;cases e3
 exact ⟨⟨s0,s1,s2,b⟩,⟨h0,h1,h2⟩,Ci.dJ _ _ ⟨s0,s1,s2,b⟩⟩
theorem Jq (h:DataW.trod enc Tryz.prog w base spare held fuel 22 cs=some x) (hw:Bc Tryz.prog 22 x.1):∃ l:List Pr,(∀ s∈l,s.wf)/\l.length<=reachBytes/\Rd (·<w.heap.size) w (fJ l) cs:=by obtain ⟨l,h1,h2,h3⟩:=jP Pr.d Pr.wf Tryz.underlying22 cP (by decide) (fun n cs' y _ hy Nv=>Zf hy Nv) h hw;exact ⟨l,h1,rY h2 yP,h3⟩
theorem Wq (h:DataW.trod enc Tryz.prog w base spare held fuel 44 cs=some x) (hw:Bc Tryz.prog 44 x.1):∃ l:List Ci,(∀ s∈l,s.wf)/\l.length<=reachBytes/\Rd (·<w.heap.size) w (OG l) cs:=by obtain ⟨l,h1,h2,h3⟩:=jP Ci.d Ci.wf Tryz.underlying44 cC (by decide) (fun n cs' y _ hy Nv=>Wp hy Nv) h hw;exact ⟨l,h1,rY h2 yC,h3⟩
theorem Oz (h:DataW.trod enc Tryz.prog w base spare held fuel 43 cs=some x) (hw:Bc Tryz.prog 43 x.1):∃ (a:At) (vc vp:Value),a.wf/\cs=[.string a.id,vc,vp]/\AtR (·<w.heap.size) w a vc vp:=by
 obtain ⟨xs,n,rfl,Qy,hlen,hxl,hf⟩:=DataW.trod_struct Tryz.underlying43 h;rw [Qy] at hw;have hwf:=fun i f d=>iK Tryz.underlying43 hw i f d
 rw [cA] at hlen;obtain ⟨c0,c1,c2,rfl⟩:=jC1 hlen;have f0:=hf 0 _ rfl;have f1:=hf 1 _ rfl;have f2:=hf 2 _ rfl;have hx2:xs.length=3:=by rw [hxl];rfl
 rw [List.getElem?_eq_getElem (by omega)] at f0 f1 f2;simp only [cS,cLS,cLP,List.getElem_toArray,List.getElem_cons_zero,List.getElem_cons_succ,List.drop_zero,List.drop_succ_cons,List.take_succ_cons,List.take_zero] at f0 f1 f2;obtain ⟨s0,e0,x0,_⟩:=DataW.trod_string Tryz.underlying9 f0;refine Wm ?_;intro h0;obtain ⟨cl,k1,k2,k3⟩:=Oy f1 (hwf 1 _ _ rfl (by rw [List.getElem?_map,List.getElem?_eq_getElem (by omega)];rfl));obtain ⟨pr,m1,m2,m3⟩:=Jq f2 (hwf 2 _ _ rfl (by rw [List.getElem?_map,List.getElem?_eq_getElem (by omega)];rfl));cases e0
 exact ⟨⟨s0,cl,pr⟩,c1,c2,⟨h0,k1,k2,m1,m2⟩,rfl,k3,m3⟩
theorem jl0{P Q:Prop}(q:Q)(h:Nonempty Q->P:=by
 intro qQ;have h3:s3.size<=reachBytes:=q1i (P:=Tryz.prog) (t:=9) (by have h':=hwf 3 _ _ rfl (by rw [List.getElem?_map,List.getElem?_eq_getElem (by omega)];rfl);rw [x3] at h';exact h');revert h3;exact qQ.elim fun x=>x):P:=h ⟨q⟩
theorem jr8:∀ (fuel:Nat) (cs:List Value) (x:DataW H × List MemPlace),DataW.trod enc Tryz.prog w base spare held fuel 47 cs=some x->Bc Tryz.prog 47 x.1->∃ p:aj,p.wf/\Rd (·<w.heap.size) w p.d cs:=by
 intro fuel;induction fuel using Nat.strongRecOn with
 | _ fuel ih=>
  intro cs x h hw;obtain ⟨xs,n,rfl,Qy,hlen,hxl,hf⟩:=DataW.trod_struct Tryz.underlying47 h;rw [Qy] at hw;have hwf:=fun i f d=>iK Tryz.underlying47 hw i f d
  rw [cIn] at hlen;obtain ⟨c0,c1,c2,c3,c4,c5,c6,c7,c8,c9,rfl⟩:=jxq hlen;have f0:=hf 0 _ rfl;have f1:=hf 1 _ rfl;have f2:=hf 2 _ rfl;have f3:=hf 3 _ rfl;have f4:=hf 4 _ rfl;have f5:=hf 5 _ rfl;have f6:=hf 6 _ rfl;have f7:=hf 7 _ rfl;have hx2:xs.length=8:=by rw [hxl];rfl
  rw [List.getElem?_eq_getElem (by omega)] at f0 f1 f2 f3 f4 f5 f6 f7;simp only [cI,cS,cA,cLS,cLC,cLI,List.getElem_toArray,List.getElem_cons_zero,List.getElem_cons_succ,List.drop_zero,List.drop_succ_cons,List.take_succ_cons,List.take_zero] at f0 f1 f2 f3 f4 f5 f6 f7;obtain ⟨k,e0,_,h0⟩:=DataW.trod_int Tryz.underlying3 f0;obtain ⟨s1,e1,x1,_⟩:=DataW.trod_string Tryz.underlying9 f1;refine Wn ?_;intro h1;obtain ⟨s2,e2,x2,_⟩:=DataW.trod_string Tryz.underlying9 f2;refine Wo ?_;intro h2;obtain ⟨s3,e3,x3,_⟩:=DataW.trod_string Tryz.underlying9 f3;refine jl0 ?_;intro h3;obtain ⟨a,vc,vp,h4,e4,hA⟩:=Oz f4 (hwf 4 _ _ rfl (by rw [List.getElem?_map,List.getElem?_eq_getElem (by omega)];rfl));obtain ⟨ar,k1,k2,k3⟩:=Oy f5 (hwf 5 _ _ rfl (by rw [List.getElem?_map,List.getElem?_eq_getElem (by omega)];rfl));obtain ⟨ci,m1,m2,m3⟩:=Wq f6 (hwf 6 _ _ rfl (by rw [List.getElem?_map,List.getElem?_eq_getElem (by omega)];rfl));obtain ⟨ks,n1,n2,n3⟩:=jP aj.d aj.wf Tryz.underlying45 cIn (by decide) (fun m cs' y hm hy Nv=>ih m (by omega) cs' y hy Nv) f7 (hwf 7 _ _ rfl (by rw [List.getElem?_map,List.getElem?_eq_getElem (by omega)];rfl));cases e0;cases e1;cases e2;cases e3;cases e4
  exact ⟨.mk k s1 s2 s3 a ar ci ks,by unfold aj.wf;exact ⟨Mw h0,h1,h2,h3,h4,k1,k2,m1,m2,aj.rX _ n1,rY n2 yI⟩,aj.dJ _ _ _ _ ⟨hA,k3,m3,n3⟩⟩
theorem Zg (h:DataW.trod enc Tryz.prog w base spare held fuel 45 cs=some x) (hw:Bc Tryz.prog 45 x.1):∃ l:List aj,aj.wF l/\l.length<=reachBytes/\Rd (·<w.heap.size) w (bJ l) cs:=by obtain ⟨ks,n1,n2,n3⟩:=jP aj.d aj.wf Tryz.underlying45 cIn (by decide) (fun m cs' y hm hy Nv=>jr8 m cs' y hy Nv) h hw;exact ⟨ks,aj.rX _ n1,rY n2 yI,n3⟩
theorem jr9:∀ (fuel:Nat) (cs:List Value) (x:DataW H × List MemPlace),DataW.trod enc Tryz.prog w base spare held fuel 51 cs=some x->Bc Tryz.prog 51 x.1->∃ p:ah,p.wf/\Rd (·<w.heap.size) w p.d cs:=by
 intro fuel;induction fuel using Nat.strongRecOn with
 | _ fuel ih=>
  intro cs x h hw;obtain ⟨xs,n,rfl,Qy,hlen,hxl,hf⟩:=DataW.trod_struct Tryz.underlying51 h;rw [Qy] at hw;have hwf:=fun i f d=>iK Tryz.underlying51 hw i f d
  rw [cBl] at hlen;obtain ⟨c0,c1,c2,c3,c4,c5,c6,c7,c8,c9,c10,rfl⟩:=jxx hlen;have f0:=hf 0 _ rfl;have f1:=hf 1 _ rfl;have f2:=hf 2 _ rfl;have f3:=hf 3 _ rfl;have f4:=hf 4 _ rfl;have f5:=hf 5 _ rfl;have f6:=hf 6 _ rfl;have f7:=hf 7 _ rfl;have f8:=hf 8 _ rfl;have hx2:xs.length=9:=by rw [hxl];rfl
  rw [List.getElem?_eq_getElem (by omega)] at f0 f1 f2 f3 f4 f5 f6 f7 f8;simp only [cI,cS,cA,cLI,cLB,List.getElem_toArray,List.getElem_cons_zero,List.getElem_cons_succ,List.drop_zero,List.drop_succ_cons,List.take_succ_cons,List.take_zero] at f0 f1 f2 f3 f4 f5 f6 f7 f8;obtain ⟨k,e0,_,h0⟩:=DataW.trod_int Tryz.underlying3 f0;obtain ⟨lv,e1,_,h1⟩:=DataW.trod_int Tryz.underlying3 f1;obtain ⟨s2,e2,x2,_⟩:=DataW.trod_string Tryz.underlying9 f2;refine Wo ?_;intro h2;obtain ⟨s3,e3,x3,_⟩:=DataW.trod_string Tryz.underlying9 f3;refine jl0 ?_;intro h3;obtain ⟨s4,e4,x4,_⟩:=DataW.trod_string Tryz.underlying9 f4;have h4:s4.size<=reachBytes:=q1i (P:=Tryz.prog) (t:=9) (by have h':=hwf 4 _ _ rfl (by rw [List.getElem?_map,List.getElem?_eq_getElem (by omega)];rfl);rw [x4] at h';exact h');obtain ⟨s5,e5,x5,_⟩:=DataW.trod_string Tryz.underlying9 f5;have h5:s5.size<=reachBytes:=q1i (P:=Tryz.prog) (t:=9) (by have h':=hwf 5 _ _ rfl (by rw [List.getElem?_map,List.getElem?_eq_getElem (by omega)];rfl);rw [x5] at h';exact h');obtain ⟨a,vc,vp,h6,e6,hA⟩:=Oz f6 (hwf 6 _ _ rfl (by rw [List.getElem?_map,List.getElem?_eq_getElem (by omega)];rfl));obtain ⟨li,k1,k2,k3⟩:=Zg f7 (hwf 7 _ _ rfl (by rw [List.getElem?_map,List.getElem?_eq_getElem (by omega)];rfl));obtain ⟨ks,n1,n2,n3⟩:=jP ah.d ah.wf Tryz.underlying23 cBl (by decide) (fun m cs' y hm hy Nv=>ih m (by omega) cs' y hy Nv) f8 (hwf 8 _ _ rfl (by rw [List.getElem?_map,List.getElem?_eq_getElem (by omega)];rfl));cases e0;cases e1;cases e2;cases e3;cases e4;cases e5;cases e6
  exact ⟨.mk k lv s2 s3 s4 s5 a li ks,by unfold ah.wf;exact ⟨Mw h0,Mw h1,h2,h3,h4,h5,h6,k1,k2,ah.rX _ n1,rY n2 yB⟩,ah.dJ _ _ _ _ _ _ ⟨hA,k3,n3⟩⟩
theorem Zh (h:DataW.trod enc Tryz.prog w base spare held fuel 23 cs=some x) (hw:Bc Tryz.prog 23 x.1):∃ l:List ah,ah.wF l/\l.length<=reachBytes/\Rd (·<w.heap.size) w (lu l) cs:=by obtain ⟨ks,n1,n2,n3⟩:=jP ah.d ah.wf Tryz.underlying23 cBl (by decide) (fun m cs' y hm hy Nv=>jr9 m cs' y hy Nv) h hw;exact ⟨ks,ah.rX _ n1,rY n2 yB,n3⟩
theorem jp6 (h:DataW.trod enc Tryz.prog w base spare held fuel 25 cs=some x) (hw:Bc Tryz.prog 25 x.1):∃ (me:List Pr) (l:List ah) (vm vb:Value),(∀ p∈me,p.wf)/\me.length<=reachBytes/\ah.wF l/\l.length<=reachBytes/\cs=[vm,vb]/\Rd (·<w.heap.size) w (fJ me) [vm]/\Rd (·<w.heap.size) w (lu l) [vb]:=by
 obtain ⟨xs,n,rfl,Qy,hlen,hxl,hf⟩:=DataW.trod_struct Tryz.underlying25 h;rw [Qy] at hw;have hwf:=fun i f d=>iK Tryz.underlying25 hw i f d
 rw [cD] at hlen;obtain ⟨c0,c1,rfl⟩:=len2 hlen;have f0:=hf 0 _ rfl;have f1:=hf 1 _ rfl;have hx2:xs.length=2:=by rw [hxl];rfl
 rw [List.getElem?_eq_getElem (by omega)] at f0 f1;simp only [cLP,cLB,List.getElem_toArray,List.getElem_cons_zero,List.getElem_cons_succ,List.drop_zero,List.drop_succ_cons,List.take_succ_cons,List.take_zero] at f0 f1;obtain ⟨me,k1,k2,k3⟩:=Jq f0 (hwf 0 _ _ rfl (by rw [List.getElem?_map,List.getElem?_eq_getElem (by omega)];rfl));obtain ⟨l,n1,n2,n3⟩:=Zh f1 (hwf 1 _ _ rfl (by rw [List.getElem?_map,List.getElem?_eq_getElem (by omega)];rfl));exact ⟨me,l,c0,c1,k1,k2,n1,n2,rfl,k3,n3⟩
end
end
open Go.RowKit
def At.short (a:At):Prop:=a.cls.length<=40/\a.aF.length<=40/\a.id.size<=600/\(∀ c∈a.cls,c.size<=600)/\∀ p∈a.aF,p.key.size<=600/\p.val.size<=600
theorem q39 {α:Type} {P:α->Prop} {l:List α} {k:Nat} {y:α} (hy:l[k]?=some y) (h:∀ x∈l.take k,P x) (h2:P y):∀ x∈l.take (k+1),P x:=by
 rw [List.take_add_one,hy];intro x hx;rcases List.mem_append.1 hx with hx | hx
 ·exact h x hx
 ·simp at hx;rw [hx];exact h2
theorem jB {ok:Nat->Prop} {w:World} {l:List Pr} {a:Option Addr} {cap:Nat} (h:qP ok w 2 (l.map Pr.d) a cap) {k:Nat} {p:Pr} (hk:l[k]?=some p) : ∃ b off,a=some ⟨b,off,none⟩/\ok b/\b<w.heap.size/\w.cell? ⟨b,off+k*2,none⟩=some (.string p.key)/\w.cell? ⟨b,off+k*2+1,none⟩=some (.string p.val):=by refine Iq ?_;intro hlt b off ha hok hb hc r hr hl hcell;rw [Pr.open_ hr] at hcell;exact ⟨b,off,ha,hok,hb,hcell 0 _ rfl,by rw [Nat.add_assoc];exact hcell 1 _ rfl⟩
def Cn:Nat:=140737488351232
theorem kN:reachBytes=Cn:=by decide
def Lg1 (a:At) (vn vi:Value):Prop:=∃ k n:Nat,k<=a.cls.length/\vi=.int .i64 k/\vn=.int .i64 n/\n<=Cn*(k+1)/\(n<=600->a.id.size<=600/\∀ c∈a.cls.take k,c.size<=600)
def Lg2 (a:At) (w0:World) (vn vi:Value) (wr:World):Prop:=∃ k n q:Nat,k<=a.aF.length/\vi=.int .i64 k/\vn=.int .i64 n/\n<=Cn*(41+2*k)/\(n<=600->a.id.size<=600/\(∀ c∈a.cls,c.size<=600)/\∀ p∈a.aF.take k,p.key.size<=600/\p.val.size<=600)/\wr=w0.drewN q
theorem jl1{P:Prop}(h:P:=by
 clear HC HP W2 W4;go_enter Tryz.func23,Tryz.ntmps23;go_upto_region 2 with (fail)
 rw [<- hw0];clear hw0;go_wp2;go_ret;exact ⟨true,rfl,(fun h=>by cases h),HB0.out⟩):P:=h
theorem Jr (a:At) (vc vp:jIz) (w:jIq) (h:AtR (·<w.heap.size) w a vc vp) (hwf:a.wf) : Calls Tryz.prog 23 #[.agg #[.string a.id,vc,vp]] w fun e w'=>∃ b,e=.returned (.bool b)/\(b=false->a.short)/\Below w.heap.size w w':=by
 obtain ⟨w1,w2,w3,w4,w5⟩:=hwf;unfold xW at w1;rw [kN] at w1 w3 w5;obtain ⟨ac,cc,hvc,hsc⟩:=Rd.ay h.cls;obtain ⟨ap,cp,hvp,hsp⟩:=Rd.ay h.aF;obtain rfl:vc=.slice ac a.cls.length cc:=by simpa using hvc
 obtain rfl:vp=.slice ap a.aF.length cp:=by simpa using hvp
 have hcl:a.cls.length<=cc:=by simpa using hsc.le
 have hpl:a.aF.length<=cp:=by simpa using hsp.le
 have hcm:=hsc.max;have hpm:=hsp.max;unfold maxLen at hcm hpm;obtain ⟨w0,hw0⟩:∃ w0,w0=w.alloc (.cells #[.string a.id,.slice ac a.cls.length cc,.slice ap a.aF.length cp] 43):=⟨_,rfl⟩;have hb0:Below w.heap.size w w0:=by rw [hw0];exact (Below.refl _ _).alloc (Nat.le_refl _) _
 have q0:w0.cell? ⟨w.heap.size,0,none⟩=some (.string a.id):=by rw [hw0];exact Gv w [.string a.id,.slice ac a.cls.length cc,.slice ap a.aF.length cp] _ 0 _ rfl
 have q1:w0.cell? ⟨w.heap.size,1,none⟩=some (.slice ac a.cls.length cc):=by rw [hw0];exact Gv w [.string a.id,.slice ac a.cls.length cc,.slice ap a.aF.length cp] _ 1 _ rfl
 have q2:w0.cell? ⟨w.heap.size,2,none⟩=some (.slice ap a.aF.length cp):=by rw [hw0];exact Gv w [.string a.id,.slice ac a.cls.length cc,.slice ap a.aF.length cp] _ 2 _ rfl
 have HC:Hid (∀ k y,a.cls[k]?=some y->∃ b off,ac=some ⟨b,off,none⟩/\w0.cell? ⟨b,off+k,none⟩=some (.string y)):=by
  intro k y hy;obtain ⟨b,off,ha,hok,hb,hc⟩:=hsc.at_ (by have:=(List.getElem?_eq_some_iff.1 hy).1;simpa using Nat.lt_of_le_of_lt (jG6 _) this)
  obtain ⟨r,hr,hl,hcell⟩:=hc k _ (by rw [jGq,hy];rfl);obtain rfl:=hr.bR;have:=hcell 0 _ rfl;rw [Nat.mul_one,Nat.add_zero] at this;exact ⟨b,off,ha,(jy (hb0.block b hok) _).trans this⟩
 have HP:Hid (∀ k p,a.aF[k]?=some p->∃ b off,ap=some ⟨b,off,none⟩/\w0.cell? ⟨b,off+k*2,none⟩=some (.string p.key)/\w0.cell? ⟨b,off+k*2+1,none⟩=some (.string p.val)):=by intro k p hp;obtain ⟨b,off,ha,hok,hb,c0,c1⟩:=jB hsp hp;exact ⟨b,off,ha,(jy (hb0.block b hok) _).trans c0,(jy (hb0.block b hok) _).trans c1⟩
 have HB0:=hid hb0;have W2:=hid w2;have W4:=hid w4;clear h hsc hsp hvc hvp w2 w4 hb0;by_cases h40:40<a.cls.length
 ·have e1:decide ((40:Int)<(a.cls.length:Int))=true:=by simp;omega
  exact jl1
 have e1:decide ((40:Int)<(a.cls.length:Int))=false:=by simp;omega
 by_cases h41:40<a.aF.length
 ·have e2:decide ((40:Int)<(a.aF.length:Int))=true:=by simp;omega
  exact jl1
 have e2:decide ((40:Int)<(a.aF.length:Int))=false:=by simp;omega
 have R1:Hid (Lg1 a (.int .i64 a.id.size) (.int .i64 0)):=⟨0,a.id.size,jG6 _,rfl,rfl,by omega,fun h=>⟨h,by simp⟩⟩;go_enter Tryz.func23,Tryz.ntmps23;go_upto_region 2 with (fail)
 rw [<- hw0];clear hw0;go_wp2
 go_loop [3,4] (fun vn vi=>Lg1 a vn vi) (fun _ i=>a.cls.length-(intOf i).toNat)
 case atStart=>exact R1.out
 case round=>
  clear R1;obtain ⟨k,n,hk,rfl,rfl,hn,hall⟩:=hrel;have HA:=hid hall;clear hall;unfold Cn at hn w1;by_cases hlt:k<a.cls.length
  ·obtain ⟨y,hy⟩:∃ y,a.cls[k]?=some y:=⟨_,jF9 hlt⟩;obtain ⟨b,off,rfl,c0⟩:=HC.out k y hy;have hys:y.size<=140737488351232:=by have:=W2.out y (jG7 hy);unfold xW at this;rw [kN] at this;exact this
   have HY:=hid hy;clear hy;go_wp2
   go_round
   case rel=>
    refine ⟨k+1,n+y.size,by omega,by go_num,by go_num,by unfold Cn;omega,fun h6=>?_⟩;obtain ⟨i1,i2⟩:=HA.out (by omega);exact ⟨i1,q39 HY.out i2 (by omega)⟩
   case measure=>simp [intOf];omega
  ·have hkl:k=a.cls.length:=by omega
   subst hkl;have R2:Hid (Lg2 a w0 (.int .i64 n) (.int .i64 0) w0):=⟨0,n,0,jG6 _,rfl,rfl,by unfold Cn;omega,fun h=>by
    obtain ⟨i1,i2⟩:=HA.out h;rw [jH1] at i2;exact ⟨i1,i2,by simp⟩,rfl⟩
   clear HA;go_wp2
   go_loopw [3,5] (fun vn vi wr=>Lg2 a w0 vn vi wr) (fun _ i _=>a.aF.length-(intOf i).toNat)
   case atStart=>exact R2.out
   case round=>
    clear R2;obtain ⟨k,n,q,hk,rfl,rfl,hn,hall,rfl⟩:=hrel;have HA:=hid hall;clear hall;unfold Cn at hn;by_cases hlt:k<a.aF.length
    ·obtain ⟨p,hp⟩:∃ p,a.aF[k]?=some p:=⟨_,jF9 hlt⟩;obtain ⟨b,off,rfl,c0,c1⟩:=HP.out k p hp;obtain ⟨hy1,hy2⟩:p.key.size<=140737488351232/\p.val.size<=140737488351232:=by have:=W4.out p (jG7 hp);unfold Pr.wf xW at this;rw [kN] at this;exact this
     have HY:=hid hp;clear hp;obtain ⟨py,pv⟩:=p;dsimp only at c0 c1 hy1 hy2;go_wp2_with fail
     go_quiet (fail)
     go_wp2;go_roundw;case rel=>
      refine ⟨k+1,n+(py.size+pv.size),q+nq,by omega,by go_num,by go_num,by unfold Cn;omega,fun h6=>?_,rfl⟩;obtain ⟨i1,i2,i3⟩:=HA.out (by omega);exact ⟨i1,i2,q39 HY.out i3 ⟨by show py.size<=600;omega,by show pv.size<=600;omega⟩⟩
     case measure=>simp [intOf];omega
    ·have hkl:k=a.aF.length:=by omega
     subst hkl;by_cases h6:600<n
     ·have e3:decide ((600:Int)<(n:Int))=true:=by simp;omega
      go_wp2;go_ret;exact ⟨true,rfl,(fun h=>by cases h),ig HB0.out q⟩
     ·have e3:decide ((600:Int)<(n:Int))=false:=by simp;omega
      go_wp2;go_ret;refine ⟨false,rfl,fun _=>?_,ig HB0.out q⟩;obtain ⟨i1,i2,i3⟩:=HA.out (by omega);rw [jH1] at i3;exact ⟨by omega,by omega,i1,i2,i3⟩
open Go.RowKit
mutual
def aj.small:aj->Prop
 | .mk k t d ti a ar ci ks=>t.size<=300/\d.size<=300/\ti.size<=300/\a.short/\ar.length<=9/\ci.length<=9/\(∀ c∈ar,c.size<=5000)/\(∀ c∈ci,c.key.size<=5000/\c.pre.size<=5000/\c.suf.size<=5000)/\aj.aC ks
def aj.aC:List aj->Prop
 | []=>True
 | x::l=>x.small/\aj.aC l
end
theorem aj.jQ:∀ (l m:List aj),aj.aC l->aj.aC m->aj.aC (l++m)
 | [],m,_,h=>h
 | x::l,m,h,h2=>by unfold aj.aC at h;rw [List.cons_append];unfold aj.aC;exact ⟨h.1,aj.jQ l m h.2 h2⟩
theorem aj.oN {l:List aj} {k:Nat} {x:aj} (hx:l[k]?=some x) (h:aj.aC (l.take k)) (h2:x.small):aj.aC (l.take (k+1)):=by rw [List.take_add_one,hx];exact aj.jQ _ _ h (by unfold Option.toList aj.aC;exact ⟨h2,by unfold aj.aC;trivial⟩)
theorem aj.Fv (l m:List aj):aj.aY (l++m)=aj.aY l+aj.aY m:=by
 induction l with
 | nil=>rw [aj.aY];simp
 | cons x l ih=>rw [List.cons_append,aj.aY,aj.aY,ih];omega
theorem aj.tJ {l:List aj} {k:Nat} {x:aj} (hx:l[k]?=some x):aj.aY (l.take (k+1))=aj.aY (l.take k)+x.sz:=by rw [List.take_add_one,hx,aj.Fv];simp [aj.aY]
theorem aj.uE:∀ {l:List aj} {k:Nat} {x:aj},aj.wF l->l[k]?=some x->x.wf
 | [],_,_,_,h=>by simp at h
 | y::l,0,x,hw,h=>by unfold aj.wF at hw;simp at h;subst h;exact hw.1
 | y::l,k+1,x,hw,h=>by unfold aj.wF at hw;exact aj.uE hw.2 (by simpa using h)
theorem Rd.xD {ok:Nat->Prop} {w:jIq} {k:Nat} {l:List D} {v:jIz} (h:Rd ok w (.sl k l) [v]):∃ a n c,v=.slice a n c:=by obtain ⟨a',c',h',_⟩:=Rd.ay h;exact ⟨_,_,_,by simpa using h'⟩
theorem Rd.up {w w':jIq} {d:D} {cs:List jIz} (h:Rd (·<w.heap.size) w d cs) (hb:Below w.heap.size w w'):Rd (·<w'.heap.size) w' d cs:=
 Rd.keep (fun b h1 h2=>⟨Nat.lt_of_lt_of_le h2 hb.size,hb.block b h1⟩) _ _ h
theorem AtR.up {w w':jIq} {a:At} {vc vp:jIz} (h:AtR (·<w.heap.size) w a vc vp) (hb:Below w.heap.size w w'):AtR (·<w'.heap.size) w' a vc vp:=⟨h.cls.up hb,h.aF.up hb⟩
theorem gM.at2 {w w':jIq} {b o:Nat} {k:Int} {t d ti id:ByteArray} {vc vp va vi vk:jIz} (h:gM w b o k t d ti id vc vp va vi vk) (hb:w'.heap[b]?=w.heap[b]?):gM w' b o k t d ti id vc vp va vi vk:=by obtain ⟨c0,c1,c2,c3,c4,c5,c6,c7,c8,c9⟩:=h;exact ⟨(jy hb _).trans c0,(jy hb _).trans c1,(jy hb _).trans c2,(jy hb _).trans c3,(jy hb _).trans c4,(jy hb _).trans c5,(jy hb _).trans c6,(jy hb _).trans c7,(jy hb _).trans c8,(jy hb _).trans c9⟩
def CB (T:TypeId) (p:Nat) (cs:List jIz) (w:jIq):Prop:=w.heap[p]?=some (.cells cs.toArray T (0,0))
section
variable {T:TypeId} {p:Nat} {cs:List jIz} {w w':jIq}
theorem CB.cell (h:CB T p cs w) (j:Nat) (u:jIz) (hu:cs[j]?=some u):w.cell? ⟨p,j,none⟩=some u:=by unfold CB at h;simp [World.cell?,h,hu]
theorem CB.lt (h:CB T p cs w):p<w.heap.size:=by unfold CB at h;exact (Array.getElem?_eq_some_iff.1 h).1
theorem CB.below (h:CB T p cs w) (hb:Below w.heap.size w w'):CB T p cs w':=(hb.block p h.lt).trans h
theorem CB.new (T:TypeId) (cs:List jIz) (w:jIq):CB T w.heap.size cs (w.alloc (.cells cs.toArray T)):=heap_alloc_new w _
end
theorem JI {ok:Nat->Prop} {w:jIq} {l:List Ci} {a:Option Addr} {cap:Nat} (h:qP ok w 4 (l.map Ci.d) a cap) {k:Nat} {p:Ci} (hk:l[k]?=some p) : ∃ b off,a=some ⟨b,off,none⟩/\ok b/\b<w.heap.size/\w.cell? ⟨b,off+k*4,none⟩=some (.string p.key)/\w.cell? ⟨b,off+k*4+1,none⟩=some (.string p.pre)/\w.cell? ⟨b,off+k*4+2,none⟩=some (.string p.suf)/\w.cell? ⟨b,off+k*4+3,none⟩=some (.bool p.bare):=by refine Iq ?_;intro hlt b off ha hok hb hc r hr hl hcell;rw [Ci.open_ hr] at hcell;exact ⟨b,off,ha,hok,hb,hcell 0 _ rfl,by rw [Nat.add_assoc];exact hcell 1 _ rfl,by rw [Nat.add_assoc];exact hcell 2 _ rfl,by rw [Nat.add_assoc];exact hcell 3 _ rfl⟩
theorem jk {ok:Nat->Prop} {w:jIq} {l:List ByteArray} {a:Option Addr} {cap:Nat} (h:qP ok w 1 (l.map D.str) a cap) {k:Nat} {y:ByteArray} (hy:l[k]?=some y) : ∃ b off,a=some ⟨b,off,none⟩/\ok b/\b<w.heap.size/\w.cell? ⟨b,off+k,none⟩=some (.string y):=by
 obtain ⟨b,off,ha,hok,hb,hc⟩:=h.at_ (by have:=(List.getElem?_eq_some_iff.1 hy).1;simpa using Nat.lt_of_le_of_lt (jG6 _) this)
 obtain ⟨r,hr,hl,hcell⟩:=hc k _ (by rw [jGq,hy];rfl);obtain rfl:=hr.bR;have:=hcell 0 _ rfl;rw [Nat.mul_one,Nat.add_zero] at this;exact ⟨b,off,ha,hok,hb,this⟩
def Ws (dp:Nat):Nat:=(22-dp)*140737488355328
def jrj (w:jIq) (l:List aj) (dp:Nat) (e:Ending) (w':jIq):Prop:=
 ∃ m:Nat,e=.returned (.int .i64 m)/\m<=Ws dp/\(m<=120->aj.aC l/\aj.aY l<=m)/\Below w.heap.size w w'
def jl2 (w:jIq) (l:List aj) (dp:Nat) (vn vi:jIz) (wr:jIq):Prop:=
 ∃ k n:Nat,k<=l.length/\vi=.int .i64 k/\vn=.int .i64 n/\n<=Ws dp/\(n<=120->aj.aC (l.take k)/\aj.aY (l.take k)+(l.length-k)<=n)/\Below w.heap.size w wr
def Wt2 (n:Nat) (ar:List ByteArray) (vn vj:jIz):Prop:=∃ j m:Nat,j<=ar.length/\vj=.int .i64 j/\vn=.int .i64 m/\n<=m/\m<=n+j*3518437208781/\(m<=120->∀ c∈ar.take j,c.size<=5000)
def Wt3 (n:Nat) (ci:List Ci) (w0:jIq) (vn vj:jIz) (wr:jIq):Prop:=∃ j m:Nat,j<=ci.length/\vj=.int .i64 j/\vn=.int .i64 m/\n<=m/\m<=n+j*10555311626343/\(m<=120->∀ c∈ci.take j,c.key.size<=5000/\c.pre.size<=5000/\c.suf.size<=5000)/\Below w0.heap.size w0 wr
theorem qJ{P Q:Prop}(q:Q)(h:Nonempty Q->P:=by
 intro qQ;have hcap:l.length<=cap:=by simpa using hs.le
 have hmx:=hs.max;unfold maxLen at hmx;have HS:=hid hs;revert hcap hmx HS;exact qQ.elim fun x=>x):P:=h ⟨q⟩
theorem Wt{P:Prop}(h:P:=by
 go_wp2;go_ret;exact ⟨1000,rfl,by unfold Ws;omega,(fun h=>by omega),Ey.out⟩):P:=h
theorem jl3{P:Prop}(h:P:=by
 clear HS IH WV;go_enter Tryz.func24,Tryz.ntmps24;go_wp2;go_ret;exact ⟨1000,rfl,by unfold Ws;omega,(fun h=>by omega),Below.refl _ _⟩):P:=h
theorem Mx (n:Nat):∀ (l:List aj) (dp:Nat) (v:jIz) (w:jIq),aj.aY l<=n->dp<=21->Rd (·<w.heap.size) w (bJ l) [v]->aj.wF l -> Calls Tryz.prog 24 #[v,.int .i64 dp] w (jrj w l dp):=by
 induction n using Nat.strongRecOn with
 | _ n ih=>
  intro l dp v w hn hdp hrd hwf;obtain ⟨a,cap,hv,hs⟩:=Rd.ay hrd;obtain rfl:v=.slice a l.length cap:=by simpa using hv
  refine qJ ?_;intro hcap hmx HS;have IH:=hid ih;have WV:=hid hwf;clear hs hv hrd ih hwf;by_cases hd:20<dp
  ·have e1:decide ((20:Int)<(dp:Int))=true:=by simp;omega
   exact jl3
  have e1:decide ((20:Int)<(dp:Int))=false:=by simp;omega
  by_cases h2:200<l.length
  ·have e2:decide ((200:Int)<(l.length:Int))=true:=by simp;omega
   exact jl3
  have e2:decide ((200:Int)<(l.length:Int))=false:=by simp;omega
  have R0:Hid (jl2 w l dp (.int .i64 l.length) (.int .i64 0) w):=⟨0,l.length,jG6 _,rfl,rfl,by unfold Ws;omega,(fun _=>⟨by rw [List.take_zero];unfold aj.aC;trivial,by rw [List.take_zero,aj.aY];omega⟩),Below.refl _ _⟩;go_enter Tryz.func24,Tryz.ntmps24;go_wp2
  go_loopw [5,6] (fun vn vi wr=>jl2 w l dp vn vi wr) (fun _ i _=>l.length-(intOf i).toNat)
  case atStart=>exact R0.out
  case round=>
   clear R0;obtain ⟨k,m,hk,rfl,rfl,hm,hall,hbel⟩:=hrel;have Eu:=hid hall;have iV:=hid hbel;clear hall hbel;unfold Ws at hm;by_cases hlt:k<l.length
   ·by_cases hm1:m<1000
    ·have e3:decide ((m:Int)<(1000:Int))=true:=by simp;omega
     obtain ⟨x,hx⟩:∃ x,l[k]?=some x:=⟨_,jF9 hlt⟩;obtain ⟨kd,t,d,ti,at_,ar,ci,ks⟩:=x;obtain ⟨g,off,vc,vp,va,vi,vk,rfl,hok,hbl,hc,hR⟩:=MC HS.out hx;have hx2:=aj.uE WV.out hx;unfold aj.wf xW at hx2;obtain ⟨x1,x2,x3,x4,x5,x6,x7,x8,x9,x10,x11⟩:=hx2;rw [kN] at x2 x3 x4 x7 x9;unfold Cn at x2 x3 x4 x7 x9;have hsz:=aj.bI l k _ hx;rw [aj.sz] at hsz;obtain ⟨aa,ca,hva,hsa⟩:=Rd.ay hR.args;obtain ⟨ai,gL,hvi,hsi⟩:=Rd.ay hR.fC;obtain ⟨ac,nc,cc,rfl⟩:=Rd.xD hR.at_.cls
     obtain ⟨ap,np,cp,rfl⟩:=Rd.xD hR.at_.aF
     obtain ⟨ak,nk,ck,rfl⟩:=Rd.xD hR.kids;obtain rfl:va=.slice aa ar.length ca:=by simpa using hva
     obtain rfl:vi=.slice ai ci.length gL:=by simpa using hvi
     have hca:ar.length<=ca:=by simpa using hsa.le
     have hci:ci.length<=gL:=by simpa using hsi.le
     have jC4:=hsa.max;have jC5:=hsi.max;unfold maxLen at jC4 jC5;obtain ⟨c0,c1,c2,c3,c4,c5,c6,c7,c8,c9⟩:=hc.at2 (w':=wr) (iV.out.block g hok);have HR:=hid hR;have HSA:=hid hsa;have HSI:=hid hsi;have HX:=hid hx;have X5:=hid x5;have X6:=hid x6;have X8:=hid x8;have X10:=hid x10;clear hc hR hsa hsi hx x1 x5 x6 x8 x10 x11 hva hvi;go_upto_region 8 with (fail)
     obtain ⟨wa,Zi⟩:∃ wa,wa=wr.alloc (.cells #[.int .i64 kd,.string t,.string d,.string ti,.string at_.id,.slice ac nc cc,.slice ap np cp,.slice aa ar.length ca,.slice ai ci.length gL,.slice ak nk ck] 47):=⟨_,rfl⟩;have hcb:CB 47 wr.heap.size [.int .i64 kd,.string t,.string d,.string ti,.string at_.id,.slice ac nc cc,.slice ap np cp,.slice aa ar.length ca,.slice ai ci.length gL,.slice ak nk ck] wa:=by rw [Zi];exact CB.new _ _ _
     have hba:Below w.heap.size w wa:=by rw [Zi];exact iV.out.alloc iV.out.size _
     rw [<- Zi];clear Zi c0 c1 c2 c3 c4 c5 c6 c7 c8 c9;have d1:=hcb.cell 1 _ rfl;have d2:=hcb.cell 2 _ rfl;have d3:=hcb.cell 3 _ rfl;have d4:=hcb.cell 4 _ rfl;have d5:=hcb.cell 5 _ rfl;have d6:=hcb.cell 6 _ rfl;have d7:=hcb.cell 7 _ rfl;have d8:=hcb.cell 8 _ rfl;have xQ:=hid hcb;have EK:=hid hba;have LG:=hid (Jr at_ _ _ wa (HR.out.at_.up hba) X5.out);clear hcb hba;by_cases h3:300<t.size+d.size+ti.size
     ·have e4:decide ((300:Int)<(t.size:Int)+(d.size:Int)+(ti.size:Int))=true:=by simp;omega
      go_wp2;go_ret;exact ⟨1000,rfl,by unfold Ws;omega,(fun h=>by omega),EK.out⟩
     have e4:decide ((300:Int)<(t.size:Int)+(d.size:Int)+(ti.size:Int))=false:=by simp;omega
     go_wp2_with fail
     refine LG.out.mono ?_;rintro e wb ⟨b,rfl,hsh,hbb⟩;have Wu:=q01 EK.out hbb;have FY:=xQ.out.below hbb;have d7:=FY.cell 7 _ rfl;have d8:=FY.cell 8 _ rfl;have HSH:=hid hsh;have Ey:=hid Wu;have Wd:=hid FY;clear LG EK xQ d1 d2 d3 d4 d5 d6 hsh hbb Wu FY;cases b with
     | true=>
      exact Wt
     | false=>
     by_cases h4:9<ar.length
     ·have e5:decide ((9:Int)<(ar.length:Int))=true:=by simp;omega
      exact Wt
     have e5:decide ((9:Int)<(ar.length:Int))=false:=by simp;omega
     by_cases h5:9<ci.length
     ·have e6:decide ((9:Int)<(ci.length:Int))=true:=by simp;omega
      exact Wt
     have e6:decide ((9:Int)<(ci.length:Int))=false:=by simp;omega
     have R2:Hid (Wt2 m ar (.int .i64 m) (.int .i64 0)):=⟨0,m,jG6 _,rfl,rfl,Nat.le_refl _,by omega,(fun _=>by simp)⟩;have HAR:Hid (∀ j y,ar[j]?=some y->∃ b off,aa=some ⟨b,off,none⟩/\wb.cell? ⟨b,off+j,none⟩=some (.string y)/\y.size<=140737488351232):=by intro j y hy;obtain ⟨b,off,h1,h2,h3,h4⟩:=jk HSA.out hy;exact ⟨b,off,h1,(jy (Ey.out.block b h2) _).trans h4,by have:=X6.out y (jG7 hy);rw [kN] at this;exact this⟩
     go_wp2
     go_loop [5,8] (fun vn vj=>Wt2 m ar vn vj) (fun _ j=>ar.length-(intOf j).toNat)
     case atStart=>exact R2.out
     case round=>
      clear R2;obtain ⟨j,m2,hj,rfl,rfl,hm2,Kt,Jd⟩:=hrel;have HA2:=hid Jd;clear Jd;by_cases hjl:j<ar.length
      ·obtain ⟨y,hy⟩:∃ y,ar[j]?=some y:=⟨_,jF9 hjl⟩;obtain ⟨b,off2,rfl,cy,hys⟩:=HAR.out j y hy;have HY:=hid hy;clear hy;go_wp2
       go_round
       case rel=>
        refine ⟨j+1,m2+y.size/40,by omega,by go_num,by go_num,by omega,by omega,fun h6=>?_⟩;exact q39 HY.out (HA2.out (by omega)) (by omega)
       case measure=>simp [intOf];omega
      ·have jC6:j=ar.length:=by omega
       subst jC6;have HA3:Hid (m2<=120->∀ c∈ar,c.size<=5000):=fun h=>by have:=HA2.out h;rwa [jH1] at this
       have R3:Hid (Wt3 m2 ci wb (.int .i64 m2) (.int .i64 0) wb):=⟨0,m2,jG6 _,rfl,rfl,Nat.le_refl _,by omega,(fun _=>by simp),Below.refl _ _⟩;clear HA2 HAR;have HCI:Hid (∀ j y,ci[j]?=some y->∃ b off,ai=some ⟨b,off,none⟩/\b<wb.heap.size/\wb.cell? ⟨b,off+j*4,none⟩=some (.string y.key)/\wb.cell? ⟨b,off+j*4+1,none⟩=some (.string y.pre)/\wb.cell? ⟨b,off+j*4+2,none⟩=some (.string y.suf)/\wb.cell? ⟨b,off+j*4+3,none⟩=some (.bool y.bare)/\y.key.size<=140737488351232/\y.pre.size<=140737488351232/\y.suf.size<=140737488351232):=by intro j y hy;obtain ⟨b,off,h1,h2,h3,k0,k1,k2,k3⟩:=JI HSI.out hy;have hw:=X8.out y (jG7 hy);unfold Ci.wf xW at hw;rw [kN] at hw;have hs:=jy (Ey.out.block b h2);exact ⟨b,off,h1,Nat.lt_of_lt_of_le h3 Ey.out.size,(hs _).trans k0,(hs _).trans k1,(hs _).trans k2,(hs _).trans k3,hw⟩
       go_wp2
       go_loopw [5,9] (fun vn vj wz=>Wt3 m2 ci wb vn vj wz) (fun _ j _=>ci.length-(intOf j).toNat)
       case atStart=>exact R3.out
       case round=>
        clear R3;obtain ⟨j,m4,hj,rfl,rfl,OI,hm5,jl4,hb3⟩:=hrel;have HA4:=hid jl4;have HB3:=hid hb3;have Wv:=Wd.out.below hb3;have f8:=Wv.cell 8 _ rfl;have f9:=Wv.cell 9 _ rfl;have hlt3:=Wv.lt;have jF1:=hid Wv;clear jl4 hb3 Wv;by_cases hjl:j<ci.length
        ·obtain ⟨y,hy⟩:∃ y,ci[j]?=some y:=⟨_,jF9 hjl⟩;obtain ⟨b,off2,rfl,jmk,k0,k1,k2,k3,s0,s1,s2⟩:=HCI.out j y hy;have hs:=jy (HB3.out.block b jmk);have k0:=(hs _).trans k0;have k1:=(hs _).trans k1;have k2:=(hs _).trans k2;have k3:=(hs _).trans k3;have HY:=hid hy;obtain ⟨yk,yp,ys,yb⟩:=y;dsimp only at k0 k1 k2 k3 s0 s1 s2;clear hy hs;go_wp2;go_roundw;case rel=>
          refine ⟨j+1,m4+(yk.size+yp.size+ys.size)/40,by omega,by go_num,by go_num,by omega,by omega,fun h6=>?_,HB3.out.alloc HB3.out.size _⟩;exact q39 HY.out (HA4.out (by omega)) ⟨by show yk.size<=5000;omega,by show yp.size<=5000;omega,by show ys.size<=5000;omega⟩
         case measure=>simp [intOf];omega
        ·have jC7:j=ci.length:=by omega
         subst jC7;have HA5:Hid (m4<=120->∀ c∈ci,c.key.size<=5000/\c.pre.size<=5000/\c.suf.size<=5000):=fun h=>by have:=HA4.out h;rwa [jH1] at this
         have hb4:=hid (q01 Ey.out HB3.out);have RC:=hid (IH.out (aj.aY ks) (by omega) ks (dp+1) (.slice ak nk ck) wr (Nat.le_refl _) (by omega) (HR.out.kids.up hb4.out) X10.out);clear HA4 HCI;go_wp2_with fail
         refine RC.out.mono ?_;rintro e w5 ⟨wk,rfl,hwk,Bg,hb5⟩;have HW2:=hid Bg;have xJ:=hid (q01 hb4.out hb5);unfold Ws at hwk;clear Bg hb5 RC;go_wp2;go_roundw;case rel=>
          refine ⟨k+1,m4+wk,by omega,by go_num,by go_num,by unfold Ws;omega,(fun h=>?_),xJ.out⟩;obtain ⟨i1,i2⟩:=Eu.out (by omega);obtain ⟨j1,j2⟩:=HW2.out (by omega);have hsn:=aj.tJ HX.out;rw [aj.sz] at hsn;refine ⟨aj.oN HX.out i1 (by unfold aj.small;exact ⟨by omega,by omega,by omega,HSH.out trivial,by omega,by omega,HA3.out (by omega),HA5.out (by omega),j1⟩),by omega⟩
         case measure=>simp [intOf];omega
    ·have e3:decide ((m:Int)<(1000:Int))=false:=by simp;omega
     clear HS IH WV;go_wp2;go_ret;exact ⟨m,rfl,by unfold Ws;omega,(fun h=>by omega),iV.out⟩
   ·have hkl:k=l.length:=by omega
    subst hkl;clear HS IH WV;go_wp2;go_ret;refine ⟨m,rfl,by unfold Ws;omega,(fun h=>?_),iV.out⟩;have:=Eu.out h;rw [jH1] at this;exact ⟨this.1,by omega⟩
open Go.RowKit
theorem Ep {y z:ByteArray} (h:y≠z):(y.toList != z.toList)=true:=by rw [Lib.toList_data,Lib.toList_data];simp only [bne_iff_ne,ne_eq];intro e;exact h (ByteArray.ext (Array.ext' e))
theorem MG {y z:ByteArray} (h:y≠z):(y.toList==z.toList)=false:=by have:=Ep h;simpa [bne] using this
end Go.Proofs.YtklhajbpfelliaaGreatDoor

