/- Regions that draw their order, with a last store: what S says is asked behind every operation but one (the number z, a store that waits for whatever is taken first): it may write a cell that S names. Regions that draw their order, with a last store that need not be the last operation: what S says is asked behind every operation but number z, and only until z has come up. -/
import Derived.Deep.RegionHeld3
import Derived.Deep.CutBlock
import Derived.RowKit
namespace Go.Proofs.YtdneicipdlofiaaGreatDoor
open Go.RowKit
set_option linter.unusedVariables false
section
variable {P:Program} {ops:Array Oper} {Q:Exit->Act->World->Prop} {md:Region.Mode} {S:World->Prop} {z:Nat}
theorem yD {listed:Array Bool} {j:Nat} (h:listed.getD j true=false) (h2:listed.getD j false=true):False:=by
 rcases Nat.lt_or_ge j listed.size with hlt | hge
 ·simp [hlt] at h h2;rw [h] at h2;cases h2
 ·simp [Array.getElem?_eq_none hge] at h
inductive Waits (md:Region.Mode) (ops:Array Oper) (listed:Array Bool) (i:Nat):Nat->Prop
 | one {j:Nat} {o:Oper} {e} (h:ops[j]?=some o) (he:e∈o.after) (hb:Region.binds md e=true) (hon:e.on=i) (hu:listed.getD i true=false):Waits md ops listed i j
 | more {j:Nat} {o:Oper} {e} (h:ops[j]?=some o) (he:e∈o.after) (hb:Region.binds md e=true) (hu:listed.getD e.on true=false) (hw:Waits md ops listed i e.on):Waits md ops listed i j
theorem Waits.not {listed:Array Bool} {i j:Nat} (h:Waits md ops listed i j):j ∉ Region.ready md ops listed:=by
 intro hr;obtain ⟨-,o2,ho2,hall⟩:=mem_ready.1 hr;cases h with
 | one h he hb hon hu=>
  rw [h] at ho2;cases ho2
  have:=hall _ he hb;rw [hon] at this;exact yD hu this
 | more h he hb hu hw=>
  rw [h] at ho2;cases ho2
  exact yD hu (hall _ he hb)
theorem Waits.step {listed:Array Bool} {i j k:Nat} (h:Waits md ops listed i j) (hk:k∈Region.ready md ops listed) (hki:k≠i):Waits md ops (listed.setIfInBounds k true) i j:=by
 induction h with
 | one h he hb hon hu=>exact .one h he hb hon (by rw [getD_set_ne true hki];exact hu)
 | more h he hb hu hw ih=>exact .more h he hb (by rw [getD_set_ne true (by intro q;rw [q] at hk;exact hw.not hk)];exact hu) ih
def pY (md:Region.Mode) (ops:Array Oper) (listed:Array Bool) (i:Nat):Nat->Nat->Bool
 | 0,_=>false
 | n+1,j=>((ops[j]?).map fun o=>o.after.any fun e=>Region.binds md e&&!listed.getD e.on true&&(e.on==i||pY md ops listed i n e.on)).getD false
theorem Gf {listed:Array Bool} {i:Nat}:∀ (n j:Nat),pY md ops listed i n j=true->Waits md ops listed i j
 | 0,_,h=>by cases h
 | n+1,j,h=>by
  unfold pY at h;cases ho:ops[j]? with
  | none=>rw [ho] at h;cases h
  | some o=>
   rw [ho] at h;have h:(o.after.any fun e=>Region.binds md e&&!listed.getD e.on true&&(e.on==i||pY md ops listed i n e.on))=true:=h;rw [Array.any_eq_true] at h;obtain ⟨t,ht,h⟩:=h;have hm:o.after[t]∈o.after:=Array.getElem_mem ht;generalize o.after[t]=e at h hm;rw [Bool.and_eq_true,Bool.and_eq_true,Bool.or_eq_true] at h;obtain ⟨⟨hb,hu⟩,hor⟩:=h;have hu:listed.getD e.on true=false:=by cases q:listed.getD e.on true with | true=>rw [q] at hu;cases hu | false=>rfl
   rcases hor with hor | hor
   ·have hor:=eq_of_beq hor;exact .one ho hm hb hor (by rw [<- hor];exact hu)
   ·exact .more ho hm hb hu (Gf n _ hor)
end
open Go.RowKit
section
variable {P:Program} {ops:Array Oper} {Q:Exit->Act->World->Prop} {md:Region.Mode} {S:World->Prop} {z:Nat}
def fI (P:Program) (md:Region.Mode) (ops:Array Oper) (Q:Exit->Act->World->Prop) (S:World->Prop) (z:Nat) (fuel:Nat) (listed:Array Bool) (a:Act) (w:World):Prop:=
 match fuel with
 | 0=>Region.ready md ops listed=[]/\Q .normal a w
 | n+1=>(Region.ready md ops listed=[]->Q .normal a w)/\∀ i∈Region.ready md ops listed,
   wpOp P ops Q i (fun a' w'=>(i≠z->listed.getD z true=false->S w')/\fI P md ops Q S z n (listed.setIfInBounds i true) a' w') a w
theorem I9 (n:Nat):∀ (listed:Array Bool) (a:Act) (w:World),fI P md ops Q S z n listed a w->wpAny P md ops Q n listed a w:=by
 induction n with
 | zero=>exact fun _ _ _ h=>h
 | succ n ih=>exact fun _ _ _ h=>⟨h.1,fun i hi=>wpOp_mono (fun _ _ h2=>ih _ _ _ h2.2) (h.2 i hi)⟩
theorem Gg {i:Nat} {oi:Oper} {v:Value} {n:Nat} {listed:Array Bool} {a:Act} {w:World} (hi:ops[i]?=some oi) (hs:Region.noSelect ops=true) (hf:Region.free md ops listed i=true) (hr:(Region.ready md ops listed).contains i=true) (hz:pY md ops listed i 40 z=true) (hz0:listed.getD z true=false) (hQ:∀ c a w,Q (.panic c) (a.put oi.dst v) w->Q (.panic c) a w) (hy:YieldsIf P ops S oi v a) (hS:S w) (h:fI P md ops Q S z n (listed.setIfInBounds i true) (a.put oi.dst v) w):fI P md ops Q S z (n+1) listed a w:=by
 have hsel:=Region.noSelect_spec hs;have hfr:=Region.free_spec hi hf;have hrd:i∈Region.ready md ops listed:=by simpa using hr
 have hwz:=Gf _ _ hz;clear hs hf hr hz;induction n generalizing listed a w with
 | zero=>
  refine ⟨fun e=>(by rw [e] at hrd;cases hrd),fun j hj=>?_⟩;by_cases e:j=i
  ·subst e;exact hy.wpOp hi hS ⟨fun _ _=>hS,h⟩
  ·have h2:=ready_mono hj e;rw [h.1] at h2;cases h2
 | succ n ih=>
  refine ⟨fun e=>(by rw [e] at hrd;cases hrd),fun j hj=>?_⟩;by_cases e:j=i
  ·subst e;exact hy.wpOp hi hS ⟨fun _ _=>hS,h⟩
  ·have hstep:=h.2 j (ready_mono hj e);have hjz:j≠z:=fun q=>hwz.not (q ▸ hj)
   obtain ⟨hun,oj,hoj,haft⟩:=mem_ready.1 hj;have hw:∀ x∈oj.after,Region.binds md x=true->x.on≠i:=by intro x hx hb hxi;have t1:=haft x hx hb;rw [hxi] at t1;exact yD (mem_ready.1 hrd).1 t1
   have hkeep:=wpOp_putIf hoj (hfr j oj hoj e hun hw) (fun cs b=>hsel i oi cs b hi) (fun cs b=>hsel j oj cs b hoj) hQ hy hstep;refine wpOp_mono (fun a' w' h3=>?_) hkeep;obtain ⟨hy',hS',hrest⟩:=h3;have hiz:i≠z:=fun q=>hwz.not (q ▸ hrd)
   have hz1:(listed.setIfInBounds i true).getD z true=false:=by rw [getD_set_ne true hiz];exact hz0
   refine ⟨fun q _=>hS' q hz1,ih (by rw [getD_set_ne true hjz];exact hz0) hy' (hS' hjz hz1) ?_ ?_ (ready_mono hrd (Ne.symm e)) (hwz.step hj e)⟩
   ·rw [Array.setIfInBounds_comm _ _ e];exact hrest
   ·intro k ok hk hki hku hno;refine hfr k ok hk hki ?_ hno;by_cases hjk:j=k
    ·subst hjk;exact hun
    ·rw [getD_set_ne true hjk] at hku;exact hku
theorem gX {listed:Array Bool} {a:Act} {w:World} (hr:Region.ready md ops listed=[]) (h:Q .normal a w) (n:Nat):fI P md ops Q S z n listed a w:=by
 cases n with
 | zero=>exact ⟨hr,h⟩
 | succ n=>exact ⟨fun _=>h,by rw [hr];simp⟩
theorem Ja {n:Nat} {listed:Array Bool} {a:Act} {w:World} {i:Nat} {o:Oper} (hr:Region.ready md ops listed=[i]) (ho:ops[i]?=some o) (h:∀ K':Act->World->Prop,Shut (∀ a w,(i≠z->listed.getD z true=false->S w)->((i≠z->listed.getD z true=false->S w)->fI P md ops Q S z n (listed.setIfInBounds i true) a w)->K' a w)->if Region.wanted o (yielded ops a.tmps)=true then Oper.wp P o a w K' Q else K' (a.put o.dst undef) w):fI P md ops Q S z (n+1) listed a w:=by
 refine ⟨fun e=>(by rw [hr] at e;cases e),fun j hj=>?_⟩;rw [hr] at hj;obtain rfl:j=i:=by simpa using hj
 exact wpOp_step ho (fun K' hK=>h K' (fun a w h1 h2=>hK a w ⟨h1,h2 h1⟩))
theorem gW (z:Nat) (S:World->Prop) {id:Nat} {a:Act} {w:World} (hm:P.follows .mixedOrders=true) (hS:S w.drew) (h:S w.drew->fI P .any ops Q S z ops.size (Array.replicate ops.size false) a w.drew):(Code.region id ops true).wp P Q a w:=
 wp_region_any hm (I9 _ _ _ _ (h hS))
theorem Du {l:List Oper} {i:Nat} {oi:Oper} {v:Value} {n:Nat} {listed:Array Bool} {a:Act} {w:World} (hi:l[i]?=some oi) (hs:Region.noSelect l.toArray=true) (hf:Region.free md l.toArray listed i=true) (hr:(Region.ready md l.toArray listed).contains i=true) (hz:pY md l.toArray listed i 40 z=true) (hz0:listed.getD z true=false) (hQ:∀ c a w,Q (.panic c) (a.put oi.dst v) w->Q (.panic c) a w) (hS:S w) (hy:YieldsIf P l.toArray S oi v a) (h:fI P md l.toArray Q S z n (listed.setIfInBounds i true) (a.put oi.dst v) w):fI P md l.toArray Q S z (n+1) listed a w:=
 Gg (by rw [List.getElem?_toArray];exact hi) hs hf hr hz hz0 hQ hy hS h
def jf6 (md:Region.Mode) (l:List Oper) (listed:Array Bool) (i z:Nat):Bool:=
 Region.noSelect l.toArray&&(Region.free md l.toArray listed i&&((Region.ready md l.toArray listed).contains i&&(pY md l.toArray listed i 40 z&&!listed.getD z true)))
theorem gI {l:List Oper} (i:Nat) {oi:Oper} {v:Value} {n:Nat} {listed:Array Bool} {a:Act} {w:World} (hi:l[i]?=some oi) (hc:jf6 md l listed i z=true) (hS:S w) (hwt:Region.wanted oi (yielded l.toArray a.tmps)=true) (hv:∀ w,S w->(execOp a.eval oi).run P w=.ok (.value v) w) (h:fI P md l.toArray Q S z n (listed.setIfInBounds i true) (a.put oi.dst v) w) (hQ:∀ c a w,Q (.panic c) (a.put oi.dst v) w->Q (.panic c) a w:=by exact fun _ _ _ h=>h):fI P md l.toArray Q S z (n+1) listed a w:=by unfold jf6 at hc;simp only [Bool.and_eq_true,Bool.not_eq_true'] at hc;exact Du hi hc.1 hc.2.1 hc.2.2.1 hc.2.2.2.1 hc.2.2.2.2 hQ hS (Or.inl ⟨hwt,hv⟩) h
theorem Gu {l:List Oper} {n:Nat} {listed:Array Bool} {a:Act} {w:World} {i:Nat} {o:Oper} (ho:l[i]?=some o) (hr:Region.ready md l.toArray listed=[i]) (h:∀ K':Act->World->Prop,Shut (∀ a w,(i≠z->listed.getD z true=false->S w)->((i≠z->listed.getD z true=false->S w)->fI P md l.toArray Q S z n (listed.setIfInBounds i true) a w)->K' a w)->if Region.wanted o (yielded l.toArray a.tmps)=true then Oper.wp P o a w K' Q else K' (a.put o.dst undef) w):fI P md l.toArray Q S z (n+1) listed a w:=
 Ja hr (by rw [List.getElem?_toArray];exact ho) h
end
end Go.Proofs.YtdneicipdlofiaaGreatDoor

