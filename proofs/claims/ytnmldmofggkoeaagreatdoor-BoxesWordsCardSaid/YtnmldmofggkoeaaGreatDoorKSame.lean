/- Arguments that came in, read as the document's data, with what the form's reach says of their sizes. publisherref04.long: whether attributes are many, or long. publisherref04.weight: how many parts inlines have. publisherref04.texts, Pairs, attrs, SameLine, SameBlocks, Same: they answer whether the data are equal. -/
import Derived.Deep.Slices
import Derived.ProofKit
import Derived.OpenShut
import Derived.Test.YtnmldmofggkoeaaGreatDoorKAppend
namespace Go.Proofs.YtnmldmofggkoeaaGreatDoor
open List renaming getElem?_eq_getElem->YG,getElem?_map->YZ
open Go renaming Value->Zw
open Go.RowKit Go.ChangeShapes Go.WideShapes Go.Deep
set_option linter.unusedVariables false
set_option linter.unusedSimpArgs false
section
variable {H:Type} {enc:TypeId × Zw->H} {w:World} {base:Nat} {spare:Nat->Bool} {held:Bool}
theorem aG.Ao {ok:Nat->Prop} {α:Type} (F:α->D) (R:α->List Zw):∀ (L:List α),(∀ i∈L,Rd ok w (F i) (R i))->aG ok w (L.map F) (L.map R)
 | [],_=>aG.none
 | x::L,h=>aG.cons (h x (by simp)) (aG.Ao F R L (fun i hi=>h i (by simp [hi])))
def Gi (P:Program) (t:TypeId) (d:DataW H):Prop:=(d.weights P t).all (·<=reachBytes)=true
theorem Ap {P:Program} {e:TypeId}:∀ {l:List (DataW H)},(DataW.weightsAll P e l).all (·<=reachBytes)=true->∀ d∈l,Gi P e d
 | [],_,d,hd=>by cases hd
 | x::l,h,d,hd=>by
  rw [DataW.weightsAll,List.all_append,Bool.and_eq_true] at h;rcases List.mem_cons.1 hd with rfl | hd
  ·exact h.1
  ·exact Ap h.2 d hd
theorem wE {P:Program}:∀ {ts:List TypeId} {l:List (DataW H)},(DataW.weightsEach P ts l).all (·<=reachBytes)=true->∀ (i:Nat) (t:TypeId) (d:DataW H),ts[i]?=some t->l[i]?=some d->Gi P t d
 | [],_,_,i,t,d,ht,_=>by simp at ht
 | _::_,[],_,i,t,d,_,hd=>by simp at hd
 | t0::ts,d0::l,h,0,t,d,ht,hd=>by
  rw [DataW.weightsEach,List.all_append,Bool.and_eq_true] at h;simp at ht hd;subst ht hd;exact h.1
 | t0::ts,d0::l,h,i+1,t,d,ht,hd=>by
  rw [DataW.weightsEach,List.all_append,Bool.and_eq_true] at h;exact wE h.2 i t d (by simpa using ht) (by simpa using hd)
theorem BU {P:Program} {t e:TypeId} {elems spare:List (DataW H)} (ht:P.underlying t=some (.slice e)) (hw:Gi P t (.slice elems spare)):elems.length*P.bytesOf e<=reachBytes/\∀ d∈elems,Gi P e d:=by unfold Gi at hw;rw [DataW.weights,ht] at hw;simp only [List.all_cons,List.all_append,Bool.and_eq_true,decide_eq_true_eq] at hw;refine ⟨Nat.le_trans (Nat.mul_le_mul_right _ (by omega)) hw.1,Ap hw.2.1⟩
theorem uY {P:Program} {α:Type} [Inhabited α] (f:α->D) (OK:α->Prop) {fuel:Nat} {t e:TypeId} {k:Nat} {cs:List Zw} {x:DataW H × List MemPlace} (ht:P.underlying t=some (.slice e)) (hk:P.cellsOf e=k) (hk0:0<k) (hel:∀ n cs' y,n<fuel->DataW.trod enc P w base spare held n e cs'=some y->Gi P e y.1->∃ a:α,OK a/\Rd (·<w.heap.size) w (f a) cs') (h:DataW.trod enc P w base spare held fuel t cs=some x) (hw:Gi P t x.1):∃ l:List α,(∀ a∈l,OK a)/\l.length*P.bytesOf e<=reachBytes/\Rd (·<w.heap.size) w (.sl k (l.map f)) cs:=by
 subst hk;rcases DataW.trod_slice ht h with ⟨rfl,_⟩ | ⟨a,len,cap,elems,rest,n,rfl,rfl,XU,hb,hl,hm,hlen,Td,_⟩
 ·exact ⟨[],by simp,by simp,Rd.aJ _ _ _⟩
 rw [XU] at hw;obtain ⟨hwl,XV⟩:=BU ht hw;rw [List.length_map] at hwl;have key:∀ i,i<len->∃ p:α × List Zw,OK p.1/\Rd (·<w.heap.size) w (f p.1) p.2/\p.2.length=P.cellsOf e/\∀ j,j<P.cellsOf e->w.cell? ((a.add (i*P.cellsOf e)).add j)=p.2[j]?:=by intro i hi;have h1:=Td i hi;rw [YG (by omega)] at h1;obtain ⟨cs',h2,h3⟩:=Option.bind_eq_some_iff.1 h1;obtain ⟨_,h4,h5⟩:=World.cells?_some h2;obtain ⟨y,hy1,hy2⟩:=hel n cs' _ (by omega) h3 (XV _ (List.mem_map.2 ⟨_,List.getElem_mem _,rfl⟩));exact ⟨(y,cs'),hy1,hy2,h4,h5⟩
 obtain ⟨p,hp⟩:=choose_lt (α:=α × List Zw) key;refine ⟨(List.range len).map fun i=>(p i).1,?_,by rw [List.length_map,List.length_range];rw [hlen] at hwl;exact hwl,?_⟩
 ·intro y hy;obtain ⟨i,hi,rfl⟩:=List.mem_map.1 hy;exact (hp i (List.mem_range.1 hi)).1
 rw [List.map_map];have hL:=aG.Ao (ok:=(·<w.heap.size)) (w:=w) (f ∘ fun i=>(p i).1) (fun i=>(p i).2) (List.range len) (fun i hi=>(hp i (List.mem_range.1 hi)).2.1);have hrl:∀ r∈(List.range len).map (fun i=>(p i).2),r.length=P.cellsOf e:=by intro r hr;obtain ⟨i,hi,rfl⟩:=List.mem_map.1 hr;exact (hp i (List.mem_range.1 hi)).2.2.1
 have Js:((List.range len).map (f ∘ fun i=>(p i).1)).length=len:=by simp
 unfold Rd;refine ⟨some a,cap,_,by rw [Js],by omega,hm,hL,hrl,?_⟩;rw [Js];rcases Nat.eq_zero_or_pos len with h0 | h0
 ·exact .inl h0
 ·obtain ⟨b,off,spot⟩:=a;have c0:=(hp 0 h0).2.2.2 0 hk0;have hl0:=(hp 0 h0).2.2.1;rw [YG (by omega)] at c0;have hspot:spot=none:=by simpa [Addr.add] using World.cell?_spot c0
  subst hspot;have plain:∀ (o j:Nat),((⟨b,o,none⟩:Addr).add j)=⟨b,o+j,none⟩:=by intro o j;unfold Addr.add;split<;>simp_all
  rw [plain,plain] at c0;refine .inr ⟨b,off,rfl,fM c0,fM c0,fun j u hu=>?_⟩;have hj:j<len*P.cellsOf e:=by have h1:=(List.getElem?_eq_some_iff.1 hu).1;rw [kL (P.cellsOf e) _ hrl] at h1;simpa using h1
  have hi:j/P.cellsOf e<len:=Nat.div_lt_of_lt_mul (by rw [Nat.mul_comm];exact hj);have hr:j%P.cellsOf e<P.cellsOf e:=Nat.mod_lt _ hk0;have ej:j/P.cellsOf e*P.cellsOf e+j%P.cellsOf e=j:=by rw [Nat.mul_comm];exact Nat.div_add_mod j _
  have c1:=(hp _ hi).2.2.2 _ hr;have hlr:=(hp _ hi).2.2.1;rw [YG (by omega),plain,plain,Nat.add_assoc,ej] at c1;have hf:=flat_get (P.cellsOf e) _ hrl (j/P.cellsOf e) (j%P.cellsOf e) (p (j/P.cellsOf e)).2 _ (by rw [YZ,List.getElem?_range hi];rfl) (YG (by omega));rw [ej,hu] at hf;rw [c1];exact hf.symm
instance:Inhabited Pr:=⟨⟨.empty,.empty⟩⟩
instance:Inhabited Ci:=⟨⟨.empty,.empty,.empty,false⟩⟩
instance:Inhabited At:=⟨⟨.empty,[],[]⟩⟩
instance:Inhabited ah:=⟨.mk 0 .empty .empty .empty default [] [] []⟩
instance:Inhabited aj:=⟨.mk 0 0 .empty .empty .empty .empty default [] []⟩
section
variable {fuel:Nat} {cs:List Zw} {x:DataW H × List MemPlace}
theorem cB:Tryz.prog.cellsOf 4=1:=by kernel_rfl
end
end
open Go.RowKit
def At.short (a:At):Prop:=a.cls.length<=40/\a.aT.length<=40/\a.id.size<=600/\(∀ c∈a.cls,c.size<=600)/\∀ p∈a.aT,p.key.size<=600/\p.val.size<=600
theorem Ep {ok:Nat->Prop} {w:World} {l:List Pr} {a:Option Addr} {cap:Nat} (h:jV ok w 2 (l.map Pr.d) a cap) {k:Nat} {p:Pr} (hk:l[k]?=some p) : ∃ b off,a=some ⟨b,off,none⟩/\ok b/\b<w.heap.size/\w.cell? ⟨b,off+k*2,none⟩=some (.string p.key)/\w.cell? ⟨b,off+k*2+1,none⟩=some (.string p.val):=by
 have hlt:k<l.length:=(List.getElem?_eq_some_iff.1 hk).1;obtain ⟨b,off,ha,hok,hb,hc⟩:=h.at_ (by simpa using Nat.lt_of_le_of_lt (Nat.zero_le _) hlt)
 obtain ⟨r,hr,hl,hcell⟩:=hc k _ (by rw [YZ,hk];rfl);rw [Pr.open_ hr] at hcell;exact ⟨b,off,ha,hok,hb,hcell 0 _ rfl,by rw [Nat.add_assoc];exact hcell 1 _ rfl⟩
open Go.RowKit
mutual
def ah.small:ah->Prop
 | .mk k t d ti a ar ci ks=>t.size<=300/\d.size<=300/\ti.size<=300/\a.short/\ar.length<=9/\ci.length<=9/\(∀ c∈ar,c.size<=5000)/\(∀ c∈ci,c.key.size<=5000/\c.pre.size<=5000/\c.suf.size<=5000)/\ah.aQ ks
def ah.aQ:List ah->Prop
 | []=>True
 | x::l=>x.small/\ah.aQ l
end
theorem ah.Aj (l m:List ah):ah.aW (l++m)=ah.aW l+ah.aW m:=by
 induction l with
 | nil=>rw [ah.aW];simp
 | cons x l ih=>rw [List.cons_append,ah.aW,ah.aW,ih];omega
theorem ah.wV {l:List ah} {k:Nat} {x:ah} (hx:l[k]?=some x):ah.aW (l.take (k+1))=ah.aW (l.take k)+x.sz:=by rw [List.take_add_one,hx,ah.Aj];simp [ah.aW]
theorem Rd.QA {ok:Nat->Prop} {w:World} {k:Nat} {l:List D} {v:Zw} (h:Rd ok w (.sl k l) [v]):∃ a n c,v=.slice a n c:=by obtain ⟨a',c',h',_⟩:=Rd.aD h;exact ⟨_,_,_,by simpa using h'⟩
theorem Rd.up {w w':World} {d:D} {cs:List Zw} (h:Rd (·<w.heap.size) w d cs) (hb:Below w.heap.size w w'):Rd (·<w'.heap.size) w' d cs:=
 Rd.keep (fun b h1 h2=>⟨Nat.lt_of_lt_of_le h2 hb.size,hb.block b h1⟩) _ _ h
theorem AtR.up {w w':World} {a:At} {vc vp:Zw} (h:AtR (·<w.heap.size) w a vc vp) (hb:Below w.heap.size w w'):AtR (·<w'.heap.size) w' a vc vp:=⟨h.cls.up hb,h.aT.up hb⟩
theorem dD.at2 {w w':World} {b o:Nat} {k:Int} {t d ti id:ByteArray} {vc vp va vi vk:Zw} (h:dD w b o k t d ti id vc vp va vi vk) (hb:w'.heap[b]?=w.heap[b]?):dD w' b o k t d ti id vc vp va vi vk:=by obtain ⟨c0,c1,c2,c3,c4,c5,c6,c7,c8,c9⟩:=h;exact ⟨(mg hb _).trans c0,(mg hb _).trans c1,(mg hb _).trans c2,(mg hb _).trans c3,(mg hb _).trans c4,(mg hb _).trans c5,(mg hb _).trans c6,(mg hb _).trans c7,(mg hb _).trans c8,(mg hb _).trans c9⟩
def CB (T:TypeId) (p:Nat) (cs:List Zw) (w:World):Prop:=w.heap[p]?=some (.cells cs.toArray T (0,0))
section
variable {T:TypeId} {p:Nat} {cs:List Zw} {w w':World}
theorem CB.cell (h:CB T p cs w) (j:Nat) (u:Zw) (hu:cs[j]?=some u):w.cell? ⟨p,j,none⟩=some u:=by unfold CB at h;simp [World.cell?,h,hu]
theorem CB.lt (h:CB T p cs w):p<w.heap.size:=by unfold CB at h;exact (Array.getElem?_eq_some_iff.1 h).1
theorem CB.below (h:CB T p cs w) (hb:Below w.heap.size w w'):CB T p cs w':=(hb.block p h.lt).trans h
theorem CB.new (T:TypeId) (cs:List Zw) (w:World):CB T w.heap.size cs (w.alloc (.cells cs.toArray T)):=heap_alloc_new w _
end
theorem KS {ok:Nat->Prop} {w:World} {l:List Ci} {a:Option Addr} {cap:Nat} (h:jV ok w 4 (l.map Ci.d) a cap) {k:Nat} {p:Ci} (hk:l[k]?=some p) : ∃ b off,a=some ⟨b,off,none⟩/\ok b/\b<w.heap.size/\w.cell? ⟨b,off+k*4,none⟩=some (.string p.key)/\w.cell? ⟨b,off+k*4+1,none⟩=some (.string p.pre)/\w.cell? ⟨b,off+k*4+2,none⟩=some (.string p.suf)/\w.cell? ⟨b,off+k*4+3,none⟩=some (.bool p.bare):=by
 have hlt:k<l.length:=(List.getElem?_eq_some_iff.1 hk).1;obtain ⟨b,off,ha,hok,hb,hc⟩:=h.at_ (by simpa using Nat.lt_of_le_of_lt (Nat.zero_le _) hlt)
 obtain ⟨r,hr,hl,hcell⟩:=hc k _ (by rw [YZ,hk];rfl);rw [Ci.open_ hr] at hcell;exact ⟨b,off,ha,hok,hb,hcell 0 _ rfl,by rw [Nat.add_assoc];exact hcell 1 _ rfl,by rw [Nat.add_assoc];exact hcell 2 _ rfl,by rw [Nat.add_assoc];exact hcell 3 _ rfl⟩
theorem su {ok:Nat->Prop} {w:World} {l:List ByteArray} {a:Option Addr} {cap:Nat} (h:jV ok w 1 (l.map D.str) a cap) {k:Nat} {y:ByteArray} (hy:l[k]?=some y) : ∃ b off,a=some ⟨b,off,none⟩/\ok b/\b<w.heap.size/\w.cell? ⟨b,off+k,none⟩=some (.string y):=by
 obtain ⟨b,off,ha,hok,hb,hc⟩:=h.at_ (by have:=(List.getElem?_eq_some_iff.1 hy).1;simpa using Nat.lt_of_le_of_lt (Nat.zero_le _) this)
 obtain ⟨r,hr,hl,hcell⟩:=hc k _ (by rw [YZ,hy];rfl);obtain rfl:=hr.aR;have:=hcell 0 _ rfl;rw [Nat.mul_one,Nat.add_zero] at this;exact ⟨b,off,ha,hok,hb,this⟩
open Go.RowKit
theorem zN {y z:ByteArray} (h:y≠z):(y.toList != z.toList)=true:=by rw [Lib.toList_data,Lib.toList_data];simp only [bne_iff_ne,ne_eq];intro e;exact h (ByteArray.ext (Array.ext' e))
theorem Gw {y z:ByteArray} (h:y≠z):(y.toList==z.toList)=false:=by have:=zN h;simpa [bne] using this
end Go.Proofs.YtnmldmofggkoeaaGreatDoor

