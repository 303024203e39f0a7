/- Arguments that came in, read as the document's data, with what the form's reach says of their sizes. publisherref04.long: whether attributes are many, or long. publisherref04.weight: how many parts inlines have. publisherref04.texts, Pairs, attrs, SameLine, SameBlocks, Same: they answer whether the data are equal. -/
import Derived.Deep.Slices
import Derived.ProofKit
import Derived.OpenShut
import Derived.Test.YtnmldmofggkoeaaGreatDoorKAppend
namespace Go.Proofs.YtnmldmofggkoeaaGreatDoor
open List renaming getElem?_eq_getElem->XR,getElem?_map->Ye
open Go renaming Value->YL
open Go.RowKit Go.ChangeShapes Go.WideShapes Go.Deep
set_option linter.unusedVariables false
set_option linter.unusedSimpArgs false
section
variable {H:Type} {enc:TypeId × YL->H} {w:World} {base:Nat} {spare:Nat->Bool} {held:Bool}
theorem aH.Ae {ok:Nat->Prop} {α:Type} (F:α->D) (R:α->List YL):∀ (L:List α),(∀ i∈L,Rd ok w (F i) (R i))->aH ok w (L.map F) (L.map R)
 | [],_=>aH.none
 | x::L,h=>aH.cons (h x (by simp)) (aH.Ae F R L (fun i hi=>h i (by simp [hi])))
def yA (P:Program) (t:TypeId) (d:DataW H):Prop:=(d.weights P t).all (·<=reachBytes)=true
theorem Af {P:Program} {e:TypeId}:∀ {l:List (DataW H)},(DataW.weightsAll P e l).all (·<=reachBytes)=true->∀ d∈l,yA P e d
 | [],_,d,hd=>by cases hd
 | x::l,h,d,hd=>by
  rw [DataW.weightsAll,List.all_append,Bool.and_eq_true] at h;rcases List.mem_cons.1 hd with rfl | hd
  ·exact h.1
  ·exact Af h.2 d hd
theorem pE {P:Program}:∀ {ts:List TypeId} {l:List (DataW H)},(DataW.weightsEach P ts l).all (·<=reachBytes)=true->∀ (i:Nat) (t:TypeId) (d:DataW H),ts[i]?=some t->l[i]?=some d->yA P t d
 | [],_,_,i,t,d,ht,_=>by simp at ht
 | _::_,[],_,i,t,d,_,hd=>by simp at hd
 | t0::ts,d0::l,h,0,t,d,ht,hd=>by
  rw [DataW.weightsEach,List.all_append,Bool.and_eq_true] at h;simp at ht hd;subst ht hd;exact h.1
 | t0::ts,d0::l,h,i+1,t,d,ht,hd=>by
  rw [DataW.weightsEach,List.all_append,Bool.and_eq_true] at h;exact pE h.2 i t d (by simpa using ht) (by simpa using hd)
theorem yB {P:Program} {t:TypeId} {fs:Array Field} {parts:List (DataW H)} (ht:P.underlying t=some (.struct fs)) (hw:yA P t (.agg parts)) (i:Nat) (f:Field) (d:DataW H) (hf:fs[i]?=some f) (hd:parts[i]?=some d):yA P f.type d:=by unfold yA at hw;rw [DataW.weights,ht] at hw;exact pE hw i f.type d (by rw [Ye,Array.getElem?_toList,hf];rfl) hd
theorem BJ {P:Program} {t e:TypeId} {elems spare:List (DataW H)} (ht:P.underlying t=some (.slice e)) (hw:yA P t (.slice elems spare)):elems.length*P.bytesOf e<=reachBytes/\∀ d∈elems,yA P e d:=by unfold yA at hw;rw [DataW.weights,ht] at hw;simp only [List.all_cons,List.all_append,Bool.and_eq_true,decide_eq_true_eq] at hw;refine ⟨Nat.le_trans (Nat.mul_le_mul_right _ (by omega)) hw.1,Af hw.2.1⟩
theorem zm {P:Program} {t:TypeId} {s:ByteArray} (hw:yA P t (.lit (.string s.data.toList):DataW H)):s.size<=reachBytes:=by unfold yA at hw;rw [DataW.weights] at hw;simpa using hw
theorem QV:∀ {l:List YL},l.length=4->∃ c0 c1 c2 c3,l=[c0,c1,c2,c3]
 | [c0,c1,c2,c3],_=>⟨_,_,_,_,rfl⟩
theorem uW {P:Program} {α:Type} [Inhabited α] (f:α->D) (OK:α->Prop) {fuel:Nat} {t e:TypeId} {k:Nat} {cs:List YL} {x:DataW H × List MemPlace} (ht:P.underlying t=some (.slice e)) (hk:P.cellsOf e=k) (hk0:0<k) (hel:∀ n cs' y,n<fuel->DataW.trod enc P w base spare held n e cs'=some y->yA P e y.1->∃ a:α,OK a/\Rd (·<w.heap.size) w (f a) cs') (h:DataW.trod enc P w base spare held fuel t cs=some x) (hw:yA P t x.1):∃ l:List α,(∀ a∈l,OK a)/\l.length*P.bytesOf e<=reachBytes/\Rd (·<w.heap.size) w (.sl k (l.map f)) cs:=by
 subst hk;rcases DataW.trod_slice ht h with ⟨rfl,_⟩ | ⟨a,len,cap,elems,rest,n,rfl,rfl,QW,hb,hl,hm,hlen,R6,_⟩
 ·exact ⟨[],by simp,by simp,Rd.aJ _ _ _⟩
 rw [QW] at hw;obtain ⟨hwl,Xa⟩:=BJ ht hw;rw [List.length_map] at hwl;have key:∀ i,i<len->∃ p:α × List YL,OK p.1/\Rd (·<w.heap.size) w (f p.1) p.2/\p.2.length=P.cellsOf e/\∀ j,j<P.cellsOf e->w.cell? ((a.add (i*P.cellsOf e)).add j)=p.2[j]?:=by intro i hi;have h1:=R6 i hi;rw [XR (by omega)] at h1;obtain ⟨cs',h2,h3⟩:=Option.bind_eq_some_iff.1 h1;obtain ⟨_,h4,h5⟩:=World.cells?_some h2;obtain ⟨y,hy1,hy2⟩:=hel n cs' _ (by omega) h3 (Xa _ (List.mem_map.2 ⟨_,List.getElem_mem _,rfl⟩));exact ⟨(y,cs'),hy1,hy2,h4,h5⟩
 obtain ⟨p,hp⟩:=choose_lt (α:=α × List YL) key;refine ⟨(List.range len).map fun i=>(p i).1,?_,by rw [List.length_map,List.length_range];rw [hlen] at hwl;exact hwl,?_⟩
 ·intro y hy;obtain ⟨i,hi,rfl⟩:=List.mem_map.1 hy;exact (hp i (List.mem_range.1 hi)).1
 rw [List.map_map];have hL:=aH.Ae (ok:=(·<w.heap.size)) (w:=w) (f ∘ fun i=>(p i).1) (fun i=>(p i).2) (List.range len) (fun i hi=>(hp i (List.mem_range.1 hi)).2.1);have hrl:∀ r∈(List.range len).map (fun i=>(p i).2),r.length=P.cellsOf e:=by intro r hr;obtain ⟨i,hi,rfl⟩:=List.mem_map.1 hr;exact (hp i (List.mem_range.1 hi)).2.2.1
 have I9:((List.range len).map (f ∘ fun i=>(p i).1)).length=len:=by simp
 unfold Rd;refine ⟨some a,cap,_,by rw [I9],by omega,hm,hL,hrl,?_⟩;rw [I9];rcases Nat.eq_zero_or_pos len with h0 | h0
 ·exact .inl h0
 ·obtain ⟨b,off,spot⟩:=a;have c0:=(hp 0 h0).2.2.2 0 hk0;have hl0:=(hp 0 h0).2.2.1;rw [XR (by omega)] at c0;have hspot:spot=none:=by simpa [Addr.add] using World.cell?_spot c0
  subst hspot;have plain:∀ (o j:Nat),((⟨b,o,none⟩:Addr).add j)=⟨b,o+j,none⟩:=by intro o j;unfold Addr.add;split<;>simp_all
  rw [plain,plain] at c0;refine .inr ⟨b,off,rfl,fJ c0,fJ c0,fun j u hu=>?_⟩;have hj:j<len*P.cellsOf e:=by have h1:=(List.getElem?_eq_some_iff.1 hu).1;rw [ku (P.cellsOf e) _ hrl] at h1;simpa using h1
  have hi:j/P.cellsOf e<len:=Nat.div_lt_of_lt_mul (by rw [Nat.mul_comm];exact hj);have hr:j%P.cellsOf e<P.cellsOf e:=Nat.mod_lt _ hk0;have ej:j/P.cellsOf e*P.cellsOf e+j%P.cellsOf e=j:=by rw [Nat.mul_comm];exact Nat.div_add_mod j _
  have c1:=(hp _ hi).2.2.2 _ hr;have hlr:=(hp _ hi).2.2.1;rw [XR (by omega),plain,plain,Nat.add_assoc,ej] at c1;have hf:=flat_get (P.cellsOf e) _ hrl (j/P.cellsOf e) (j%P.cellsOf e) (p (j/P.cellsOf e)).2 _ (by rw [Ye,List.getElem?_range hi];rfl) (XR (by omega));rw [ej,hu] at hf;rw [c1];exact hf.symm
instance:Inhabited Pr:=⟨⟨.empty,.empty⟩⟩
instance:Inhabited Ci:=⟨⟨.empty,.empty,.empty,false⟩⟩
instance:Inhabited At:=⟨⟨.empty,[],[]⟩⟩
instance:Inhabited ah:=⟨.mk 0 .empty .empty .empty default [] [] []⟩
instance:Inhabited aj:=⟨.mk 0 0 .empty .empty .empty .empty default [] []⟩
def UO (s:ByteArray):Prop:=s.size<=reachBytes
section
variable {fuel:Nat} {cs:List YL} {x:DataW H × List MemPlace}
theorem cS:Tryz.prog.cellsOf 9=1:=by kernel_rfl
theorem cI:Tryz.prog.cellsOf 3=1:=by kernel_rfl
theorem cB:Tryz.prog.cellsOf 4=1:=by kernel_rfl
theorem VN:Tryz.prog.cellsOf 35=1:=by kernel_rfl
theorem K8 {n k:Nat} (h:n*k<=reachBytes) (hk:1<=k):n<=reachBytes:=Nat.le_trans (Nat.le_mul_of_pos_right n hk) h
theorem yS:1<=Tryz.prog.bytesOf 9:=by decide +kernel
theorem Gf (h:DataW.trod enc Tryz.prog w base spare held fuel 35 cs=some x) (hw:yA Tryz.prog 35 x.1):∃ l:List ByteArray,(∀ s∈l,UO s)/\l.length<=reachBytes/\Rd (·<w.heap.size) w (dL l) cs:=by
 obtain ⟨l,h1,h2,h3⟩:=uW D.str UO Tryz.underlying35 cS (by decide) (fun n cs' y _ hy QX=>by
  obtain ⟨s,rfl,rfl,hs⟩:=DataW.trod_string Tryz.underlying9 hy;exact ⟨s,zm QX,Rd.bG _ _ _⟩) h hw
 exact ⟨l,h1,K8 h2 yS,h3⟩
end
end
open Go.RowKit
def At.short (a:At):Prop:=a.cls.length<=40/\a.aS.length<=40/\a.id.size<=600/\(∀ c∈a.cls,c.size<=600)/\∀ p∈a.aS,p.key.size<=600/\p.val.size<=600
theorem Ep {ok:Nat->Prop} {w:World} {l:List Pr} {a:Option Addr} {cap:Nat} (h:lD ok w 2 (l.map Pr.d) a cap) {k:Nat} {p:Pr} (hk:l[k]?=some p) : ∃ b off,a=some ⟨b,off,none⟩/\ok b/\b<w.heap.size/\w.cell? ⟨b,off+k*2,none⟩=some (.string p.key)/\w.cell? ⟨b,off+k*2+1,none⟩=some (.string p.val):=by
 have hlt:k<l.length:=(List.getElem?_eq_some_iff.1 hk).1;obtain ⟨b,off,ha,hok,hb,hc⟩:=h.at_ (by simpa using Nat.lt_of_le_of_lt (Nat.zero_le _) hlt)
 obtain ⟨r,hr,hl,hcell⟩:=hc k _ (by rw [Ye,hk];rfl);rw [Pr.open_ hr] at hcell;exact ⟨b,off,ha,hok,hb,hcell 0 _ rfl,by rw [Nat.add_assoc];exact hcell 1 _ rfl⟩
open Go.RowKit
mutual
def ah.small:ah->Prop
 | .mk k t d ti a ar ci ks=>t.size<=300/\d.size<=300/\ti.size<=300/\a.short/\ar.length<=9/\ci.length<=9/\(∀ c∈ar,c.size<=5000)/\(∀ c∈ci,c.key.size<=5000/\c.pre.size<=5000/\c.suf.size<=5000)/\ah.aK ks
def ah.aK:List ah->Prop
 | []=>True
 | x::l=>x.small/\ah.aK l
end
theorem ah.zZ (l m:List ah):ah.aV (l++m)=ah.aV l+ah.aV m:=by
 induction l with
 | nil=>rw [ah.aV];simp
 | cons x l ih=>rw [List.cons_append,ah.aV,ah.aV,ih];omega
theorem ah.wN {l:List ah} {k:Nat} {x:ah} (hx:l[k]?=some x):ah.aV (l.take (k+1))=ah.aV (l.take k)+x.sz:=by rw [List.take_add_one,hx,ah.zZ];simp [ah.aV]
theorem Rd.P8 {ok:Nat->Prop} {w:World} {k:Nat} {l:List D} {v:YL} (h:Rd ok w (.sl k l) [v]):∃ a n c,v=.slice a n c:=by obtain ⟨a',c',h',_⟩:=Rd.aC h;exact ⟨_,_,_,by simpa using h'⟩
theorem Rd.up {w w':World} {d:D} {cs:List YL} (h:Rd (·<w.heap.size) w d cs) (hb:Below w.heap.size w w'):Rd (·<w'.heap.size) w' d cs:=
 Rd.keep (fun b h1 h2=>⟨Nat.lt_of_lt_of_le h2 hb.size,hb.block b h1⟩) _ _ h
theorem AtR.up {w w':World} {a:At} {vc vp:YL} (h:AtR (·<w.heap.size) w a vc vp) (hb:Below w.heap.size w w'):AtR (·<w'.heap.size) w' a vc vp:=⟨h.cls.up hb,h.aS.up hb⟩
theorem dI.at2 {w w':World} {b o:Nat} {k:Int} {t d ti id:ByteArray} {vc vp va vi vk:YL} (h:dI w b o k t d ti id vc vp va vi vk) (hb:w'.heap[b]?=w.heap[b]?):dI w' b o k t d ti id vc vp va vi vk:=by obtain ⟨c0,c1,c2,c3,c4,c5,c6,c7,c8,c9⟩:=h;exact ⟨(lF hb _).trans c0,(lF hb _).trans c1,(lF hb _).trans c2,(lF hb _).trans c3,(lF hb _).trans c4,(lF hb _).trans c5,(lF hb _).trans c6,(lF hb _).trans c7,(lF hb _).trans c8,(lF hb _).trans c9⟩
def CB (T:TypeId) (p:Nat) (cs:List YL) (w:World):Prop:=w.heap[p]?=some (.cells cs.toArray T (0,0))
section
variable {T:TypeId} {p:Nat} {cs:List YL} {w w':World}
theorem CB.cell (h:CB T p cs w) (j:Nat) (u:YL) (hu:cs[j]?=some u):w.cell? ⟨p,j,none⟩=some u:=by unfold CB at h;simp [World.cell?,h,hu]
theorem CB.lt (h:CB T p cs w):p<w.heap.size:=by unfold CB at h;exact (Array.getElem?_eq_some_iff.1 h).1
theorem CB.below (h:CB T p cs w) (hb:Below w.heap.size w w'):CB T p cs w':=(hb.block p h.lt).trans h
theorem CB.new (T:TypeId) (cs:List YL) (w:World):CB T w.heap.size cs (w.alloc (.cells cs.toArray T)):=heap_alloc_new w _
end
theorem Kv {ok:Nat->Prop} {w:World} {l:List Ci} {a:Option Addr} {cap:Nat} (h:lD ok w 4 (l.map Ci.d) a cap) {k:Nat} {p:Ci} (hk:l[k]?=some p) : ∃ b off,a=some ⟨b,off,none⟩/\ok b/\b<w.heap.size/\w.cell? ⟨b,off+k*4,none⟩=some (.string p.key)/\w.cell? ⟨b,off+k*4+1,none⟩=some (.string p.pre)/\w.cell? ⟨b,off+k*4+2,none⟩=some (.string p.suf)/\w.cell? ⟨b,off+k*4+3,none⟩=some (.bool p.bare):=by
 have hlt:k<l.length:=(List.getElem?_eq_some_iff.1 hk).1;obtain ⟨b,off,ha,hok,hb,hc⟩:=h.at_ (by simpa using Nat.lt_of_le_of_lt (Nat.zero_le _) hlt)
 obtain ⟨r,hr,hl,hcell⟩:=hc k _ (by rw [Ye,hk];rfl);rw [Ci.open_ hr] at hcell;exact ⟨b,off,ha,hok,hb,hcell 0 _ rfl,by rw [Nat.add_assoc];exact hcell 1 _ rfl,by rw [Nat.add_assoc];exact hcell 2 _ rfl,by rw [Nat.add_assoc];exact hcell 3 _ rfl⟩
theorem kF {ok:Nat->Prop} {w:World} {l:List ByteArray} {a:Option Addr} {cap:Nat} (h:lD ok w 1 (l.map D.str) a cap) {k:Nat} {y:ByteArray} (hy:l[k]?=some y) : ∃ b off,a=some ⟨b,off,none⟩/\ok b/\b<w.heap.size/\w.cell? ⟨b,off+k,none⟩=some (.string y):=by
 obtain ⟨b,off,ha,hok,hb,hc⟩:=h.at_ (by have:=(List.getElem?_eq_some_iff.1 hy).1;simpa using Nat.lt_of_le_of_lt (Nat.zero_le _) this)
 obtain ⟨r,hr,hl,hcell⟩:=hc k _ (by rw [Ye,hy];rfl);obtain rfl:=hr.aP;have:=hcell 0 _ rfl;rw [Nat.mul_one,Nat.add_zero] at this;exact ⟨b,off,ha,hok,hb,this⟩
open Go.RowKit
theorem zM {y z:ByteArray} (h:y≠z):(y.toList != z.toList)=true:=by rw [Lib.toList_data,Lib.toList_data];simp only [bne_iff_ne,ne_eq];intro e;exact h (ByteArray.ext (Array.ext' e))
theorem Gj {y z:ByteArray} (h:y≠z):(y.toList==z.toList)=false:=by have:=zM h;simpa [bne] using this
end Go.Proofs.YtnmldmofggkoeaaGreatDoor

