/- Plain part: the anchors of the boxes are the identifiers of the blocks, in order; groups, heights and texts of boxes. Each block of a small, well-formed document has its contract. publisherlaw39.BoxesAnchors: the walk of 'unlike', and the law's own walk. Proved: the tied card of publisherlaw39.BoxesAnchors: it returns true at every input, and the arguments read as before; the tables are what the program's text lays. No other condition. -/
import Derived.Test.YtdneicipdlofiaaGreatDoorKBxFw
import Derived.Test.YtdneicipdlofiaaGreatDoorKPaJ
import Derived.Test.YtdneicipdlofiaaGreatDoorKLaid6
import Derived.Test.YtdneicipdlofiaaGreatDoorCards
import Derived.Test.YtdneicipdlofiaaGreatDoorTie
set_option maxHeartbeats 8000000
set_option maxRecDepth 100000
namespace Go.Proofs.YtdneicipdlofiaaGreatDoor
open List renaming getElem?_eq_getElem->joq,length_append->jp4,nil_append->jpz,append_assoc->jq4,mem_cons_self->jr1,append_nil->jrx
open Nat renaming zero_le->jpj
set_option linter.unusedVariables false
set_option linter.unusedSimpArgs false
structure jQ (st:St) (n:Nat) (ids:List ByteArray) (r:List Bx × St):Prop where
 an:r.2.err=0->st.aV=false->r.1.flatMap Bx.an++r.2.pend=st.pend++ids
 fg:r.2.err=0->st.aV=true->r.2.groups=st.groups/\r.2.pend=st.pend
 gr:r.2.err=0->st.aV=false->(st.groups:Int)<=r.2.groups/\(∀ b∈r.1,(st.groups:Int)<=b.gr/\b.gr<r.2.groups)/\r.1.Pairwise (fun a b=>a.gr<=b.gr)
 tx:∀ b∈r.1,dW b.text=true/\1<=b.ht
 ht:bE r.1<=2*n
section
variable {st s1:St} {n n':Nat} {ids jax:List ByteArray} {r:List Bx × St}
theorem jQ.nil (st:St) (n:Nat):jQ st n [] ([],st):=
 ⟨fun _ _=>by simp,fun _ _=>⟨rfl,rfl⟩,fun _ _=>⟨Int.le_refl _,fun b hb=>(by cases hb),List.Pairwise.nil⟩,fun b hb=>(by cases hb),by simp [bE];omega⟩
theorem jQ.stop (n:Nat) (ids:List ByteArray) {s:St} (h:s.err≠0):jQ st n ids ([],s):=
 ⟨fun e=>absurd e h,fun e=>absurd e h,fun e=>absurd e h,fun b hb=>(by cases hb),by simp [bE];omega⟩
theorem jQ.mono (h:jQ st n ids r) (hn:n<=n'):jQ st n' ids r:=⟨h.an,h.fg,h.gr,h.tx,by have:=h.ht;omega⟩
theorem jQ.from_ (h:jQ s1 n ids r) (hp:s1.pend=st.pend) (hg:s1.groups=st.groups) (hf:s1.aV=st.aV):jQ st n ids r:=
 ⟨fun e f=>by rw [<- hp];exact h.an e (hf.trans f),fun e f=>by rw [<- hp,<- hg];exact h.fg e (hf.trans f),fun e f=>by rw [<- hg];exact h.gr e (hf.trans f),h.tx,h.ht⟩
theorem jQ.leaf (st:St) (n:Nat) (L:List Bx) (own:List ByteArray) (hL:L≠[]) (ha:∀ y∈L,y.an=[]) (ht:∀ b∈L,dW b.text=true/\1<=b.ht) (hn:bE L<=2*n):jQ st n own (bO st L own):=by
 unfold bO;by_cases hf:st.aV=true
 ·rw [if_pos hf];exact ⟨fun _ f=>(by rw [hf] at f;cases f),fun _ _=>⟨rfl,rfl⟩,fun _ f=>(by rw [hf] at f;cases f),ht,hn⟩
 ·rw [if_neg hf];cases L with
  | nil=>exact absurd rfl hL
  | cons x l=>
   have hz:∀ (l:List Bx),(∀ y∈l,y.an=[])->(l.map (cZ st.groups)).flatMap Bx.an=[]:=by intro l hl;rw [List.flatMap_eq_nil_iff];intro b hb;obtain ⟨y,hy,rfl⟩:=List.mem_map.1 hb;exact hl y hy
   refine ⟨fun _ _=>?_,fun _ f=>absurd f hf,fun _ _=>⟨?_,?_,?_⟩,?_,?_⟩
   ·simp only;rw [List.flatMap_cons,hz l (fun y hy=>ha y (List.mem_cons_of_mem _ hy))];show (st.pend++own)++[]++[]=_;simp
   ·show (st.groups:Int)<=((st.groups+1:Nat):Int);omega
   ·intro b hb;have hb2:b.gr=st.groups:=by
     rcases List.mem_cons.1 hb with rfl | hb
     ·rfl
     ·obtain ⟨y,-,rfl⟩:=List.mem_map.1 hb;rfl
    rw [hb2];show (st.groups:Int)<=st.groups/\(st.groups:Int)<((st.groups+1:Nat):Int);omega
   ·rw [List.pairwise_cons];have hall:∀ b∈l.map (cZ st.groups),b.gr=st.groups:=by
     intro b hb;obtain ⟨y,-,rfl⟩:=List.mem_map.1 hb;rfl
    refine ⟨fun b hb=>by rw [hall b hb];exact Int.le_refl _,?_⟩;rw [List.pairwise_iff_forall_sublist];intro a b hab;have h1:=hall a (hab.subset (by simp));have h2:=hall b (hab.subset (by simp));rw [h1,h2];exact Int.le_refl _
   ·intro b hb;rcases List.mem_cons.1 hb with rfl | hb
    ·exact ht x (jr1 ..)
    ·obtain ⟨y,hy,rfl⟩:=List.mem_map.1 hb;exact ht y (List.mem_cons_of_mem _ hy)
   ·have:bE (qy st.groups (st.pend++own) x::l.map (cZ st.groups))=bE (x::l):=by
     unfold bE;rw [List.map_cons,List.map_cons,List.map_map];rfl
    simp only;rw [this];exact hn
theorem jQ.jv {a:List Bx} (h1:jQ st n ids (a,s1)) (he:s1.err=0) (hf:s1.aV=st.aV) (h2:jQ s1 n' jax r):jQ st (n+n') (ids++jax) (ahead a r):=by
 unfold ahead;by_cases h:r.2.err≠0
 ·rw [if_pos h];exact jQ.stop _ _ h
 ·rw [if_neg h];have e2:=Decidable.not_not.1 h;refine ⟨fun _ f=>?_,fun _ f=>?_,fun _ f=>?_,fun b hb=>?_,?_⟩
  ·have k1:=h1.an he f;have k2:=h2.an e2 (hf.trans f);simp only at k1 ⊢;rw [List.flatMap_append,jq4,k2,<- jq4,k1,jq4]
  ·have k1:=h1.fg he f;have k2:=h2.fg e2 (hf.trans f);exact ⟨k2.1.trans k1.1,k2.2.trans k1.2⟩
  ·obtain ⟨a1,a2,a3⟩:=h1.gr he f;obtain ⟨b1,b2,b3⟩:=h2.gr e2 (hf.trans f);simp only at a1 a2 a3 ⊢;refine ⟨by omega,fun b hb=>?_,?_⟩
   ·rcases List.mem_append.1 hb with hb | hb
    ·have:=a2 b hb;omega
    ·have:=b2 b hb;omega
   ·rw [List.pairwise_append];refine ⟨a3,b3,fun x hx y hy=>?_⟩;have:=a2 x hx;have:=b2 y hy;omega
  ·rcases List.mem_append.1 hb with hb | hb
   ·exact h1.tx b hb
   ·exact h2.tx b hb
  ·have k1:=h1.ht;have k2:=h2.ht;simp only at k1 ⊢;rw [qG];omega
end
theorem qO (p:Px) (h:Int) (keep:Nat->Bool) (ts:List ByteArray):∀ y∈bK p h keep ts,y.an=[]:=by intro y hy;obtain ⟨i,-,rfl⟩:=List.mem_map.1 hy;rfl
structure Px.ok (p:Px):Prop where
 f:dW p.first=true
 r:dW p.rest=true
theorem Px.ok.text {p:Px} (h:p.ok) (i:Nat) {s:ByteArray} (hs:dW s=true):dW (p.text i s)=true:=by
 unfold Px.text;split
 ·exact ND _ _ h.f hs
 ·exact ND _ _ h.r hs
theorem Px.ok.next {p:Px} (h:p.ok):p.next.ok:=⟨h.r,h.r⟩
theorem OH (n:Nat):dW (rW n)=true:=oP _ (fun c hc=>by rw [List.eq_of_mem_replicate hc];decide)
theorem Px.ok.mark {p:Px} (h:p.ok) {m:ByteArray} (hm:dW m=true):(p.mark m).ok:=⟨ND _ _ h.f hm,ND _ _ h.r (OH _)⟩
theorem Px.ok.app {p:Px} (h:p.ok) {m:ByteArray} (hm:dW m=true):(Px.mk (p.first++m) (p.rest++m)).ok:=⟨ND _ _ h.f hm,ND _ _ h.r hm⟩
theorem Cj {p:Px} (hp:p.ok) (h:Int) (keep:Nat->Bool) (ts:List ByteArray) (h1:1<=h) (hv:∀ x∈ts,dW x=true):∀ b∈bK p h keep ts,dW b.text=true/\1<=b.ht:=by intro b hb;unfold bK at hb;obtain ⟨i,hi,rfl⟩:=List.mem_map.1 hb;have hi2:=List.mem_range.1 hi;refine ⟨hp.text i ?_,h1⟩;rw [List.getD_eq_getElem?_getD,joq hi2];exact hv _ (List.getElem_mem hi2)
theorem uW (p:Px) (h:Int) (keep:Nat->Bool) (ts:List ByteArray) (hn:ts≠[]):bK p h keep ts≠[]:=by intro e;have:=Si p h keep ts;rw [e] at this;exact hn (List.length_eq_zero_iff.1 this.symm)
theorem Sj (n:Nat):∀ c∈Lib.decDigits n,32<=c.toNat/\c.toNat<127:=by
 induction n using Nat.strongRecOn with
 | _ n ih=>
  intro c hc;rw [Lib.decDigits] at hc;have hd:∀ m:Nat,m<10->32<=(UInt8.ofNat (48+m)).toNat/\(UInt8.ofNat (48+m)).toNat<127:=by
   intro m hm;have:(UInt8.ofNat (48+m)).toNat=48+m:=by simp;omega
   omega
  split at hc
  ·rename_i h
   rw [List.mem_singleton] at hc;subst hc;exact hd n h
  ·rcases List.mem_append.1 hc with hc | hc
   ·exact ih (n/10) (by omega) c hc
   ·rw [List.mem_singleton] at hc;subst hc;exact hd (n%10) (by omega)
theorem Lx (n:Int):dW (Nr n)=true:=oP _ (Sj _)
theorem Hy (k lv:Int) (i:Nat):dW (dn k lv i)=true:=by
 unfold dn;split
 ·exact ND _ _ (Lx _) (by decide +kernel)
 ·decide +kernel
theorem Ck {p:Px} (hp:p.ok) (st:St) (n:Nat) (s:ByteArray) (own:List ByteArray) (hs:dW s=true) (hn:1<=n):jQ st n own (bO st [Bx.new (p.first++s) 1 false] own):=by refine jQ.leaf _ _ _ _ (by simp) (fun y hy=>by rw [List.mem_singleton] at hy;subst hy;rfl) (fun b hb=>?_) (by simp [bE,Bx.new];omega);rw [List.mem_singleton] at hb;subst hb;exact ⟨ND _ _ hp.f hs,by show (1:Int)<=1;omega⟩
theorem Sk {a:At} (h:a.none=true):ig a=[]:=by unfold At.none eP at h;simp only [Bool.and_eq_true,decide_eq_true_eq] at h;unfold ig;rw [if_pos h.1.1]
theorem sM (cl:ByteArray->Bool) {k lv:Int} {i t d ti:ByteArray} {a:At} {li:List aj} {ks:List ah} {par:Int} {dp:Nat} (h:(ah.mk k lv i t d ti a li ks).err cl par dp=0):dD k par=true:=by
 rw [ah.err] at h;split at h
 ·cases h
 ·split at h
  ·cases h
  ·rename_i hb
   cases hx:dD k par
   ·exact absurd (.inr hx) hb
   ·rfl
theorem wS:∀ (L:List Bx) (rs:List ah),L.length=rs.length->(∀ y∈L,y.an=[])->(bQ L rs).flatMap Bx.an=rs.flatMap uG
 | [],rs,h,_=>by cases rs with | nil=>rfl | cons _ _=>cases h
 | x::L,[],h,_=>by cases h
 | x::L,r::rs,h,ht=>by
  show (({ x with an:=x.an++uG r }:Bx)::bQ L rs).flatMap Bx.an=_;rw [List.flatMap_cons,wS L rs (by simpa using h) (fun y hy=>ht y (List.mem_cons_of_mem _ hy)),List.flatMap_cons];show x.an++uG r++_=_;rw [ht x (jr1 ..)];rfl
theorem EF:∀ (L:List Bx) (rs:List ah),L.length=rs.length->(bQ L rs).map Bx.gr=L.map Bx.gr
 | [],rs,h=>by cases rs with | nil=>rfl | cons _ _=>cases h
 | x::L,[],h=>by cases h
 | x::L,r::rs,h=>by
  show x.gr::(bQ L rs).map Bx.gr=_;rw [EF L rs (by simpa using h),List.map_cons]
theorem EG:∀ (L:List Bx) (rs:List ah),L.length=rs.length->(bQ L rs).map Bx.ht=L.map Bx.ht
 | [],rs,h=>by cases rs with | nil=>rfl | cons _ _=>cases h
 | x::L,[],h=>by cases h
 | x::L,r::rs,h=>by
  show x.ht::(bQ L rs).map Bx.ht=_;rw [EG L rs (by simpa using h),List.map_cons]
theorem Az {L:List Bx} {rs:List ah} {b:Bx} (h:b∈bQ L rs):∃ y∈L,b.gr=y.gr/\b.text=y.text/\b.ht=y.ht:=by unfold bQ at h;obtain ⟨z,hz,rfl⟩:=List.mem_map.1 h;exact ⟨z.1,(List.of_mem_zip hz).1,rfl,rfl,rfl⟩
theorem OI (st:St) {p:Px} (hp:p.ok) (n:Nat) (ks:List ah) (hk:ks≠[]) (hn:ks.length<=n) (hid:∀ r∈ks,r.ids=uG r) (hv:∀ r∈ks,dW (jh r)=true):jQ st n (ah.aN ks) (iy st p ks):=by
 have hl:jQ st n [] (bO st (bK p 1 (fun i=>decide (i=0)&&decide (1<ks.length)) (ks.map jh)) []):=
  jQ.leaf _ _ _ _ (uW _ _ _ _ (by simpa using hk)) (qO _ _ _ _) (Cj hp 1 _ _ (by omega) (fun x hx=>by obtain ⟨r,hr,rfl⟩:=List.mem_map.1 hx;exact hv r hr)) (by rw [nT];simp;omega)
 have KX:ah.aN ks=ks.flatMap uG:=by
  clear hl hk hn hv;induction ks with
  | nil=>rw [ah.aN];rfl
  | cons x l ih=>rw [ah.aN,List.flatMap_cons,hid x (jr1 ..),ih (fun r hr=>hid r (List.mem_cons_of_mem _ hr))]
 have hlen:(bO st (bK p 1 (fun i=>decide (i=0)&&decide (1<ks.length)) (ks.map jh)) []).1.length=ks.length:=by rw [(gD st _ [] (ks.length+1) (by omega) (by rw [Si];simp)).2,Si,List.length_map]
 unfold iy;by_cases hf:st.aV=true
 ·simp only [if_pos hf];exact ⟨fun _ f=>(by rw [hf] at f;cases f),hl.fg,fun _ f=>(by rw [hf] at f;cases f),hl.tx,hl.ht⟩
 ·simp only [if_neg hf];obtain ⟨x,l,hx⟩:∃ x l,bK p 1 (fun i=>decide (i=0)&&decide (1<ks.length)) (ks.map jh)=x::l:=by
   cases h:bK p 1 (fun i=>decide (i=0)&&decide (1<ks.length)) (ks.map jh) with
   | nil=>exact absurd h (uW _ _ _ _ (by simpa using hk))
   | cons x l=>exact ⟨x,l,rfl⟩
  have han:=qO p 1 (fun i=>decide (i=0)&&decide (1<ks.length)) (ks.map jh);rw [hx] at han;have hE:bO st (bK p 1 (fun i=>decide (i=0)&&decide (1<ks.length)) (ks.map jh)) []=(qy st.groups (st.pend++[]) x::l.map (cZ st.groups),{ st with groups:=st.groups+1,pend:=[],count:=st.count+(x::l).length }):=by rw [hx];unfold bO;rw [if_neg hf]
  rw [hE] at hl hlen ⊢;obtain ⟨h1,h2,h3,h4,h5⟩:=hl;have htail:∀ y∈l.map (cZ st.groups),y.an=[]:=by intro y hy;obtain ⟨z,hz,rfl⟩:=List.mem_map.1 hy;exact han z (List.mem_cons_of_mem _ hz)
  have hhead:(qy st.groups (st.pend++[]) x).an=st.pend:=by show st.pend++[]=_;simp
  generalize qy st.groups (st.pend++[]) x=X at *;generalize l.map (cZ st.groups)=L at *;simp only at h1 h2 h3 h4 h5 hlen ⊢;refine ⟨fun _ f=>?_,fun _ f=>absurd f hf,fun e f=>?_,fun b hb=>?_,?_⟩
  ·cases ks with
   | nil=>exact absurd rfl hk
   | cons r rs=>
    have e2:L.length=rs.length:=by simpa using hlen
    simp only;rw [KX,jrx];show (({ X with an:=X.an++uG r }:Bx)::bQ L rs).flatMap Bx.an=_;rw [List.flatMap_cons,wS L rs e2 htail,List.flatMap_cons];show X.an++uG r++_=_;rw [hhead,jq4]
  ·obtain ⟨g1,g2,g3⟩:=h3 e f;refine ⟨g1,fun b hb=>?_,?_⟩
   ·obtain ⟨y,hy,e1,e2,e3⟩:=Az hb;rw [e1];exact g2 y hy
   ·have:=EF (X::L) ks hlen;rw [<- List.pairwise_map (f:=Bx.gr) (R:=fun a b=>a<=b)] at g3 ⊢;rw [this];exact g3
  ·obtain ⟨y,hy,e1,e2,e3⟩:=Az hb;rw [e2,e3];exact h4 y hy
  ·have:bE (bQ (X::L) ks)=bE (X::L):=by unfold bE;rw [EG _ _ hlen]
   rw [this];exact h5
theorem wT (cl:ByteArray->Bool) {k lv:Int} {i t d ti:ByteArray} {a:At} {li:List aj} {ks:List ah} (h1:uX cl k lv i t d ti a li ks=0) (h2:EH k lv i t d ti a li ks=true):aj.vU li:=aj.wU li 0 true 0 (OJ cl h1 h2)
theorem Sl (cl:ByteArray->Bool) {k lv:Int} {i t d ti:ByteArray} {a:At} {li:List aj} {ks:List ah} (h:uX cl k lv i t d ti a li ks=0) (hk:k=14):dW i=true:=by
 subst hk;unfold uX at h;rw [if_neg (by decide),if_neg (by decide),if_neg (by decide),if_neg (by decide),if_neg (by decide),if_neg (by decide),if_neg (by decide),if_pos (.inr rfl)] at h;cases hn:fO i
 ·rw [if_pos hn] at h;cases h
 ·exact nP (Af i hn)
theorem Sm (cl:ByteArray->Bool) {k lv:Int} {i t d ti:ByteArray} {a:At} {li:List aj} {ks:List ah} (h:uX cl k lv i t d ti a li ks=0) (hk:k=3\/k=4):gU t=true:=by
 unfold uX at h;cases hb:gU t
 ·exfalso;revert h;rcases hk with rfl | rfl
  ·rw [if_neg (by decide),if_neg (by decide),if_neg (by decide),if_pos rfl,if_pos (.inr (.inr hb))];decide
  ·rw [if_neg (by decide),if_neg (by decide),if_neg (by decide),if_neg (by decide),if_pos rfl,if_pos hb];decide
 ·rfl
theorem JK (cl:ByteArray->Bool) {k lv:Int} {i t d ti:ByteArray} {a:At} {li:List aj} {ks:List ah} (h:uX cl k lv i t d ti a li ks=0) (hk:k=10):ks≠[]:=by
 subst hk;unfold uX at h;rw [if_neg (by decide),if_neg (by decide),if_neg (by decide),if_neg (by decide),if_neg (by decide),if_neg (by decide),if_pos rfl] at h;rintro rfl;revert h;unfold jw;split
 ·decide
 ·split
  ·decide
  ·split
   ·decide
   ·simp
structure jaz (k:Int) (a:At) (li:List aj) (ks:List ah):Prop where
 k1:1<=k
 k15:k<=15
 at_:k≠2->k≠4->k≠13->ig a=[]
 ln:k≠1->k≠2->k≠12->li=[]
 kd:(k<6\/k=12\/k=15)->ks=[]
theorem sN {k lv:Int} {i t d ti:ByteArray} {a:At} {li:List aj} {ks:List ah} (h:EH k lv i t d ti a li ks=true):jaz k a li ks:=by
 unfold EH at h;simp only [Bool.and_eq_true,decide_eq_true_eq] at h;obtain ⟨⟨⟨⟨⟨⟨⟨⟨b1,b2⟩,b3⟩,b4⟩,b5⟩,b6⟩,b7⟩,b8⟩,b9⟩:=h;refine ⟨b1,b2,fun h1 h2 h3=>?_,fun h1 h2 h3=>?_,fun h1=>?_⟩
 ·rw [Bool.or_eq_true] at b7;rcases b7 with b | b
  ·simp at b;omega
  ·exact Sk b
 ·rw [Bool.or_eq_true] at b8;rcases b8 with b | b
  ·simp at b;omega
  ·simpa using b
 ·rw [Bool.or_eq_true] at b9;rcases b9 with b | b
  ·simp at b;omega
  ·simpa using b
theorem JL (cl:ByteArray->Bool) (dp:Nat) (r:ah) (h:r.err cl 10 dp=0):r.ids=uG r/\dW (jh r)=true:=by
 obtain ⟨k,lv,i,t,d,ti,a,li,ks⟩:=r;have hp:=sM cl h;obtain ⟨h1,h2,h3⟩:=Sn cl h;have hk:k=11:=by unfold dD at hp;rw [if_neg (by decide),if_pos rfl] at hp;exact of_decide_eq_true hp
 subst hk;have hf:=sN h2;have e1:=hf.at_ (by decide) (by decide) (by decide)
 have e2:=hf.ln (by decide) (by decide) (by decide);have hc:=(uY cl 11 (dp+1) ks).1 h3;have hcell:∀ c∈ks,c.ids=aW (Uy c) (kZ c)/\dW (fq (kZ c))=true:=by
  intro c hcm;have hce:=hc c hcm;obtain ⟨k',lv',i',t',d',YR,a',Xk,ks'⟩:=c;have hp':=sM cl hce;obtain ⟨g1,g2,g3⟩:=Sn cl hce;have hk':k'=12:=by unfold dD at hp';rw [if_neg (by decide),if_neg (by decide),if_pos rfl] at hp';exact of_decide_eq_true hp'
  subst hk';have hf':=sN g2;have e3:=hf'.kd (.inr (.inl rfl));subst e3;refine ⟨?_,?_⟩
  ·rw [ah.ids,ah.aN,jrx];rfl
  ·have:=aj.iO Xk (wT cl g1 g2);unfold vL BP at this;exact this
 refine ⟨?_,?_⟩
 ·rw [ah.ids,e1,e2];show []++bJ (aj.aA [])++ah.aN ks=ks.flatMap fun c=>aW (Uy c) (kZ c)
  rw [show bJ (aj.aA [])=[] from rfl,jpz,jpz];clear hc h3 h2 h1 hf e1 e2 hp h;induction ks with
  | nil=>rw [ah.aN];rfl
  | cons x l ih=>rw [ah.aN,List.flatMap_cons,(hcell x (jr1 ..)).1,ih (fun c hc=>hcell c (List.mem_cons_of_mem _ hc))]
 ·unfold jh;refine tX _ _ (oP _ (by decide)) (fun x hx=>?_);obtain ⟨c,hc2,rfl⟩:=List.mem_map.1 hx;exact (hcell c hc2).2
theorem wp1:dW (⟨#[45,45,45]⟩:ByteArray)=true:=by decide +kernel
theorem ji6:dW GR=true:=by decide +kernel
theorem Xl {W:Int} {st:St} {p:Px} {ks:List ah} {n:Nat} {own:List ByteArray} (hp:p.ok) (h:jQ { st with aV:=true } n (ah.aN ks) (ah.bX W { st with aV:=true } p ks)) (he:(ah.bX W { st with aV:=true } p ks).2.err=0) (hn:1<=n) : jQ st n own (bO { (ah.bX W { st with aV:=true } p ks).2 with aV:=st.aV } [fV p (ah.bX W { st with aV:=true } p ks).1] own):=by
 generalize ah.bX W { st with aV:=true } p ks=r at *;obtain ⟨hg,hpd⟩:=h.fg he rfl;have hone:jQ { r.2 with aV:=st.aV } n own (bO { r.2 with aV:=st.aV } [fV p r.1] own):=by
  have ha:(fV p r.1).an=[]:=by unfold fV;split<;>rfl
  have hv:dW (fV p r.1).text=true/\1<=(fV p r.1).ht/\(fV p r.1).ht<=2*n:=by
   unfold fV;split
   ·exact ⟨hp.f,by show (1:Int)<=1;omega,by show (1:Int)<=_;omega⟩
   ·rename_i hne
    refine ⟨tX _ _ UA (fun x hx=>?_),?_,?_⟩
    ·obtain ⟨b,hb,rfl⟩:=List.mem_map.1 hx;exact (h.tx b hb).1
    ·show 1<=GQ r.1;rw [qF];have h1:=nQ (fun b hb=>(h.tx b hb).2:∀ b∈r.1,1<=b.ht);have h2:r.1.length≠0:=fun e=>hne (List.length_eq_zero_iff.1 e)
     omega
    ·show GQ r.1<=_;rw [qF];exact h.ht
  refine jQ.leaf _ _ _ _ (by simp) (fun y hy=>by rw [List.mem_singleton] at hy;subst hy;exact ha) (fun b hb=>by rw [List.mem_singleton] at hb;subst hb;exact ⟨hv.1,hv.2.1⟩) ?_;simp [bE];omega
 exact hone.from_ hpd hg rfl
mutual
theorem anB (W:Int) (hW:1<=W/\W<=1048576) (cl:ByteArray->Bool):∀ (x:ah) (par:Int) (dp:Nat) (st:St) (p:Px),par≠7->par≠8->par≠10->par≠11->x.err cl par dp=0->p.ok->jQ st x.bM x.ids (ah.dG W st p x)
 | .mk k lv i t d ti a li ks,par,dp,st,p,q7,q8,Na,Nb,h,hp=>by
  have hv:(ah.mk k lv i t d ti a li ks).bM=30+i.size+2*t.size+2*(aj.ay li).length+(bJ (aj.aA li)).length+ah.aK ks:=by rw [ah.bM]
  have hpl:=sM cl h;obtain ⟨h1,h2,h3⟩:=Sn cl h;have hf:=sN h2;have hk9:k≠9/\k≠11/\k≠12:=by unfold dD at hpl;rw [if_neg (by omega),if_neg Na,if_neg Nb] at hpl;simp at hpl;omega
  rw [ah.dG,hv,ah.ids];have hown:∀ (hkd:ks=[]),ig a++bJ (aj.aA li)++ah.aN ks=aW a li:=by rintro rfl;rw [ah.aN,jrx];rfl
  have hnone:ig a=[]->li=[]->ig a++bJ (aj.aA li)++ah.aN ks=ah.aN ks:=by intro e1 e2;rw [e1,e2];rfl
  split
  ·rename_i c1
   rw [hown (hf.kd (by omega))];split
   ·rename_i he;exact jQ.stop _ _ he
   ·obtain ⟨l1,l2⟩:=jr li p W hW;refine jQ.leaf _ _ _ _ (uW _ _ _ _ l2) (qO _ _ _ _) (Cj hp _ _ _ (by split<;>omega) (BU li _ (wT cl h1 h2))) ?_;rw [nT];split<;>omega
  ·rename_i c1
   split
   ·rename_i c3
    rw [hown (hf.kd (by omega))];have l1:=jM (gT t);have l2:=eG t;refine jQ.leaf _ _ _ _ (uW _ _ _ _ (fun e=>by have:=fA (gT t);rw [e] at this;simp at this)) (qO _ _ _ _) (Cj hp _ _ _ (by omega) (vS _ (Hf t (Sm cl h1 c3)))) ?_;rw [nT];omega
   ·rename_i c3
    split
    ·rename_i c5
     rw [hown (hf.kd (by omega))];exact Ck hp _ _ _ _ wp1 (by omega)
    ·rename_i c5
     split
     ·rename_i c10
      rw [hnone (hf.at_ (by omega) (by omega) (by omega)) (hf.ln (by omega) (by omega) (by omega))];have hr:=(uY cl k (dp+1) ks).1 h3;rw [c10] at hr;exact OI st hp _ ks (JK cl h1 c10) (by have:=iR ks;omega) (fun r hm=>(JL cl _ r (hr r hm)).1) (fun r hm=>(JL cl _ r (hr r hm)).2)
     ·rename_i c10
      split
      ·rename_i c6
       rw [hnone (hf.at_ (by omega) (by omega) (by omega)) (hf.ln (by omega) (by omega) (by omega))];exact (U5 W hW cl ks k (dp+1) st _ (by omega) (by omega) (by omega) (by omega) h3 (hp.app ji6)).mono (by omega)
      ·rename_i c6
       split
       ·rename_i c7
        rw [hnone (hf.at_ (by omega) (by omega) (by omega)) (hf.ln (by omega) (by omega) (by omega))];exact (anT W hW cl ks k (dp+1) st p k lv 0 (by omega) h3 hp).mono (by omega)
       ·rename_i c7
        split
        ·rename_i c13
         have hli:=hf.ln (by omega) (by omega) (by omega);split
         ·have hk:=U5 W hW cl ks k (dp+1) { st with aV:=true } p (by omega) (by omega) (by omega) (by omega) h3 hp;simp only;split
          ·rename_i he;exact jQ.stop _ _ he
          ·rename_i he
           have hk2:=hk.mono (show ah.aK ks<=30+i.size+2*t.size+2*(aj.ay li).length+(bJ (aj.aA li)).length+ah.aK ks by omega);exact Xl hp hk2 (Decidable.not_not.1 he) (by omega)
         ·simp only;by_cases hid:a.id.data.toList≠[]/\st.aV=false
          ·rw [if_pos hid];have hk:=U5 W hW cl ks k (dp+1) { st with pend:=st.pend++[a.id] } p (by omega) (by omega) (by omega) (by omega) h3 hp;have hg:(ah.bX W { st with pend:=st.pend++[a.id] } p ks).2.aV=st.aV:=(jo W hW ks { st with pend:=st.pend++[a.id] } p).rR.f;generalize ah.bX W { st with pend:=st.pend++[a.id] } p ks=r at *;have hii:ig a=[a.id]:=by unfold ig;rw [if_neg hid.1]
           have hst:∀ {R:List Bx × St} {N:Nat},jQ { st with pend:=st.pend++[a.id] } N (ah.aN ks) R->jQ st N (ig a++bJ (aj.aA li)++ah.aN ks) R:=by intro R N hR;refine ⟨fun e f=>?_,fun e f=>absurd f (by rw [hid.2];decide),hR.gr,hR.tx,hR.ht⟩;rw [hR.an e f,hii,hli];show st.pend++[a.id]++_=st.pend++([a.id]++[]++_);simp
           refine hst ?_;split
           ·exact hk.mono (by omega)
           ·rename_i hc
            have e0:r.2.err=0:=Decidable.not_not.1 (fun e=>hc (.inr (.inr e)));have ez:r.1=[]:=Decidable.not_not.1 (fun e=>hc (.inl e));have ho:=Ck hp r.2 (30+i.size+2*t.size+2*(aj.ay li).length+(bJ (aj.aA li)).length+ah.aK ks) ⟨#[]⟩ [] gq (by omega);have a1:=hk.an e0 hid.2;rw [ez,List.flatMap_nil,jpz] at a1;have hfg:r.2.aV=false:=hg.trans hid.2;refine ⟨fun e f=>?_,fun e f=>absurd f (by show ¬ st.aV=true;rw [hid.2];decide),fun e f=>?_,ho.tx,ho.ht⟩
            ·rw [ho.an e hfg,a1];simp
            ·obtain ⟨b1,b2,b3⟩:=ho.gr e hfg;have b0:=(hk.gr e0 hid.2).1;simp only at b0 ⊢;exact ⟨by omega,fun b hb=>by have:=b2 b hb;omega,b3⟩
          ·rw [if_neg hid];have hk:=U5 W hW cl ks k (dp+1) st p (by omega) (by omega) (by omega) (by omega) h3 hp;have hg:(ah.bX W st p ks).2.aV=st.aV:=(jo W hW ks st p).rR.f;generalize ah.bX W st p ks=r at *;have hi0:st.aV=false->ig a=[]:=fun f=>by
            unfold ig;rw [if_pos (Decidable.not_not.1 (fun e=>hid ⟨e,f⟩))]
           have KX:st.aV=false->ig a++bJ (aj.aA li)++ah.aN ks=ah.aN ks:=fun f=>hnone (hi0 f) hli
           split
           ·exact ⟨fun e f=>by rw [KX f];exact hk.an e f,hk.fg,hk.gr,hk.tx,by have:=hk.ht;omega⟩
           ·rename_i hc
            have hft:st.aV=true:=by
             cases hf:st.aV with
             | true=>rfl
             | false=>exact absurd (.inr (.inl (Decidable.not_not.1 (fun e=>hid ⟨e,hf⟩)))) hc
            have e0:r.2.err=0:=Decidable.not_not.1 (fun e=>hc (.inr (.inr e)));have ho:=Ck hp r.2 (30+i.size+2*t.size+2*(aj.ay li).length+(bJ (aj.aA li)).length+ah.aK ks) ⟨#[]⟩ [] gq (by omega);refine ⟨fun _ f=>(by rw [hft] at f;cases f),fun e _=>?_,fun _ f=>(by rw [hft] at f;cases f),ho.tx,ho.ht⟩;have k1:=ho.fg e (hg.trans hft);have k2:=hk.fg e0 hft;exact ⟨k1.1.trans k2.1,k1.2.trans k2.2⟩
        ·rename_i c13
         split
         ·rename_i c14
          rw [hnone (hf.at_ (by omega) (by omega) (by omega)) (hf.ln (by omega) (by omega) (by omega))];refine (U5 W hW cl ks k (dp+1) st _ (by omega) (by omega) (by omega) (by omega) h3 (hp.mark ?_)).mono (by omega);exact ND _ _ (ND _ _ (by decide +kernel) (Sl cl h1 c14)) (by decide +kernel)
         ·rename_i c14
          have c15:k=15:=by have:=hf.k1;have:=hf.k15;omega
          rw [hnone (hf.at_ (by omega) (by omega) (by omega)) (hf.ln (by omega) (by omega) (by omega)),hf.kd (.inr (.inr c15)),ah.aN];exact jQ.nil _ _
theorem U5 (W:Int) (hW:1<=W/\W<=1048576) (cl:ByteArray->Bool):∀ (l:List ah) (par:Int) (dp:Nat) (st:St) (p:Px),par≠7->par≠8->par≠10->par≠11->ah.aT cl par dp l=0->p.ok->jQ st (ah.aK l) (ah.aN l) (ah.bX W st p l)
 | [],par,dp,st,p,_,_,_,_,_,_=>by rw [ah.bX,ah.aN,ah.aK];exact jQ.nil _ _
 | x::l,par,dp,st,p,q7,q8,Na,Nb,h,hp=>by
  have hx:=(uY cl par dp (x::l)).1 h x (jr1 ..);have hl:=(uY cl par dp l).2 (fun b hb=>(uY cl par dp (x::l)).1 h b (List.mem_cons_of_mem _ hb));have h1:=anB W hW cl x par dp st p q7 q8 Na Nb hx hp;rw [ah.aN,JA];by_cases he:(x.dG W st p).2.lim.err=0
  ·rw [sI he];obtain ⟨e1,e2⟩:=wK he;rw [e1];exact jQ.jv h1 e2 (jR W hW x st p).rR.f (U5 W hW cl l par dp _ _ q7 q8 Na Nb hl hp.next)
  ·rw [kL he];exact jQ.stop _ _ he
theorem anT (W:Int) (hW:1<=W/\W<=1048576) (cl:ByteArray->Bool):∀ (l:List ah) (par:Int) (dp:Nat) (st:St) (p:Px) (k lv:Int) (i:Nat),par=7\/par=8->ah.aT cl par dp l=0->p.ok->jQ st (ah.aK l) (ah.aN l) (ah.oK W st p k lv i l)
 | [],par,dp,st,p,k,lv,i,_,_,_=>by rw [ah.oK,ah.aN,ah.aK];exact jQ.nil _ _
 | x::l,par,dp,st,p,k,lv,i,hpar,h,hp=>by
  have hx:=(uY cl par dp (x::l)).1 h x (jr1 ..);have hl:=(uY cl par dp l).2 (fun b hb=>(uY cl par dp (x::l)).1 h b (List.mem_cons_of_mem _ hb));have h1:=anI W hW cl x par dp st (p.mark (dn k lv i)) hpar hx (hp.mark (Hy k lv i));rw [ah.aN,JA];by_cases he:(x.tJ W st (p.mark (dn k lv i))).2.err=0
  ·rw [sK he];exact jQ.jv h1 he (AA W hW x st _).rR.f (anT W hW cl l par dp _ _ _ _ _ hpar hl hp.next)
  ·rw [kM he];exact jQ.stop _ _ he
theorem anI (W:Int) (hW:1<=W/\W<=1048576) (cl:ByteArray->Bool):∀ (x:ah) (par:Int) (dp:Nat) (st:St) (q:Px),par=7\/par=8->x.err cl par dp=0->q.ok->jQ st x.bM x.ids (ah.tJ W st q x)
 | .mk k lv i t d ti a li ks,par,dp,st,q,hpar,h,hq=>by
  have hv:(ah.mk k lv i t d ti a li ks).bM=30+i.size+2*t.size+2*(aj.ay li).length+(bJ (aj.aA li)).length+ah.aK ks:=by rw [ah.bM]
  have hpl:=sM cl h;obtain ⟨h1,h2,h3⟩:=Sn cl h;have hf:=sN h2;have hk9:k=9:=by unfold dD at hpl;rw [if_pos hpar] at hpl;exact of_decide_eq_true hpl
  have e1:=hf.at_ (by omega) (by omega) (by omega)
  have e2:=hf.ln (by omega) (by omega) (by omega);rw [ah.tJ,hv,ah.ids,e1,e2];show jQ st _ ([]++[]++ah.aN ks) _;rw [jrx,jpz];split
  ·rename_i hk
   rw [hk,ah.aN];exact Ck hq _ _ _ _ gq (by omega)
  ·exact (U5 W hW cl ks k (dp+1) st q (by omega) (by omega) (by omega) (by omega) h3 hq).mono (by omega)
end
theorem wV (W:Int) (hW:1<=W/\W<=1048576) (cl:ByteArray->Bool) (l:List ah) (h:ah.aT cl 0 0 l=0) (he:(zT W l).2=0) : (zT W l).1.flatMap Bx.an=ah.aN l/\(∀ b∈(zT W l).1,dW b.text=true/\1<=b.ht/\b.ht<=2*ah.aK l/\0<=b.gr)/\(zT W l).1.Pairwise (fun a b=>a.gr<=b.gr)/\(zT W l).1.length<=4096:=by
 have ha:=U5 W hW cl l 0 0 ⟨0,[],0,false,0⟩ ⟨⟨#[]⟩,⟨#[]⟩⟩ (by decide) (by decide) (by decide) (by decide) h ⟨gq,gq⟩;have hpd:=lY W hW l ⟨0,[],0,false,0⟩ ⟨⟨#[]⟩,⟨#[]⟩⟩;unfold zT at he ⊢;simp only at he ⊢;generalize ah.bX W ⟨0,[],0,false,0⟩ ⟨⟨#[]⟩,⟨#[]⟩⟩ l=r at *;by_cases e:r.2.err=0
 ·rw [if_neg (by simpa using e)] at he ⊢;by_cases e2:4096<r.1.length
  ·rw [if_pos e2] at he;cases he
  ·rw [if_neg e2];have h1:=ha.an e rfl;have hp:r.2.pend=[]:=by
    rcases (hpd e).1 rfl with ⟨-,h2⟩ | h2
    ·exact h2
    ·exact h2
   rw [hp,jrx] at h1;obtain ⟨g1,g2,g3⟩:=ha.gr e rfl;refine ⟨h1,fun b hb=>⟨(ha.tx b hb).1,(ha.tx b hb).2,Int.le_trans (OM (fun b hb=>(ha.tx b hb).2) b hb) ha.ht,(g2 b hb).1⟩,g3,Nat.le_of_not_lt e2⟩
 ·rw [if_pos e] at he;exact absurd he e
theorem EI:∀ (l seen:List ByteArray),(∀ a∈l,fO a=true)->(seen++l).Nodup->uS seen l=0
 | [],_,_,_=>rfl
 | x::l,seen,hn,hd=>by
  rw [uS,if_neg (by rw [hn x (jr1 ..)];simp)];have hx:x ∉ seen:=fun hx=>by
   rw [List.nodup_append] at hd;exact hd.2.2 x hx x (jr1 ..) rfl
  have hh:fu seen x=false:=by
   cases h:fu seen x
   ·rfl
   ·exact absurd ((mW seen x).1 h) hx
  rw [if_neg (by rw [hh];simp)];exact EI l (seen++[x]) (fun a ha=>hn a (List.mem_cons_of_mem _ ha)) (by rw [jq4];exact hd)
theorem wW:∀ (l:List Bx) (seen:List ByteArray) (g:Int),(∀ b∈l,1<=b.ht/\b.ht<=1048576/\dW b.text=true/\g<=b.gr)->l.Pairwise (fun a b=>a.gr<=b.gr)->(∀ a∈l.flatMap Bx.an,fO a=true)->(seen++l.flatMap Bx.an).Nodup->jl seen g l=0
 | [],_,_,_,_,_,_=>rfl
 | x::l,seen,g,h,hp,hn,hd=>by
  rw [List.pairwise_cons] at hp;rw [List.flatMap_cons] at hn hd;obtain ⟨h1,h2,h3,h4⟩:=h x (jr1 ..);have e:oC seen g x=0:=by unfold oC;rw [if_neg (by omega),if_neg (by rw [h3];simp),if_neg (by omega)];refine EI _ _ (fun a ha=>hn a (List.mem_append_left _ ha)) ?_;rw [<- jq4] at hd;exact (List.nodup_append.1 hd).1
  rw [jl,if_neg (by rw [e];simp)];refine wW l _ _ (fun b hb=>?_) hp.2 (fun a ha=>hn a (List.mem_append_right _ ha)) (by rw [jq4];exact hd);obtain ⟨a1,a2,a3,a4⟩:=h b (List.mem_cons_of_mem _ hb);exact ⟨a1,a2,a3,hp.1 b hb⟩
mutual
theorem aj.wX:∀ (x:aj),x.src->∀ a∈bJ x.deep,fO a=true
 | .mk k t d ti at_ ar ci ks,h,a,ha=>by
  rw [aj.src] at h;obtain ⟨h1,h2⟩:=h;rw [aj.deep] at ha;unfold bJ at ha;rw [List.filterMap_cons] at ha;split at ha
  ·exact aj.dI ks h2 a ha
  ·rename_i b hb
   have hb2:at_.id.data.toList≠[]/\b=at_.id:=by
    have hb:(if at_.id.data.toList=[] then none else some at_.id)=some b:=hb;by_cases h0:at_.id.data.toList=[]
    ·rw [if_pos h0] at hb;cases hb
    ·rw [if_neg h0] at hb;exact ⟨h0,(Option.some.inj hb).symm⟩
   rcases List.mem_cons.1 ha with e | ha
   ·rw [e,hb2.2];have hem:eP at_.id=false:=by unfold eP;exact decide_eq_false hb2.1
    have hgo:fO at_.id=true:=by
     have hf:zh k t d ti at_ ar ci ks=true:=by
      cases hf:zh k t d ti at_ ar ci ks
      ·unfold su at h1;rw [if_pos hf] at h1;cases h1
      ·rfl
     have hkk:k=10\/k=11:=by
      unfold zh at hf;simp only [Bool.and_eq_true,decide_eq_true_eq] at hf;have:=hf.1.1.1.2;rw [Bool.or_eq_true] at this;rcases this with b | b
      ·simpa using b
      ·unfold At.none at b;rw [hem] at b;simp at b
     refine wY at_ ?_ hem
     unfold su at h1;rw [if_neg (by rw [hf];simp)] at h1;rcases hkk with rfl | rfl
     ·rw [if_neg (by decide),if_neg (by decide),if_neg (by decide),if_neg (by decide),if_pos (.inr rfl)] at h1;unfold gF at h1;revert h1;split
      ·intro h;cases h
      ·split
       ·intro h;cases h
       ·split
        ·intro h;cases h
        ·split
         ·intro h;cases h
         ·rw [if_pos rfl];exact fun h=>h
     ·rw [if_neg (by decide),if_neg (by decide),if_neg (by decide),if_neg (by decide),if_neg (by decide),if_pos rfl] at h1;split at h1
      ·cases h1
      ·exact h1
    exact hgo
   ·exact aj.dI ks h2 a ha
theorem aj.dI:∀ (l:List aj),aj.vU l->∀ a∈bJ (aj.aA l),fO a=true
 | [],_,a,ha=>by cases ha
 | x::l,h,a,ha=>by
  rw [aj.vU] at h;rw [aj.aA] at ha;unfold bJ at ha;rw [List.filterMap_append] at ha;rcases List.mem_append.1 ha with ha | ha
  ·exact aj.wX x h.1 a ha
  ·exact aj.dI l h.2 a ha
end
mutual
theorem ah.wX (cl:ByteArray->Bool):∀ (x:ah) (par:Int) (dp:Nat),x.err cl par dp=0->∀ a∈x.ids,fO a=true
 | .mk k lv i t d ti at_ li ks,par,dp,h,a,ha=>by
  obtain ⟨h1,h2,h3⟩:=Sn cl h;rw [ah.ids] at ha;rcases List.mem_append.1 ha with ha | ha
  ·rcases List.mem_append.1 ha with ha | ha
   ·have hf:=sN h2;unfold ig at ha;split at ha
    ·cases ha
    ·rename_i hne
     rw [List.mem_singleton] at ha;subst ha;have hem:eP at_.id=false:=by unfold eP;exact decide_eq_false hne
     have hk:k=2\/k=4\/k=13:=Decidable.byContradiction fun hk=>by
      have:=hf.at_ (by omega) (by omega) (by omega)
      unfold ig at this;rw [if_neg hne] at this;cases this
     refine wY at_ ?_ hem
     unfold uX at h1;rcases hk with rfl | rfl | rfl
     ·rw [if_neg (by decide),if_pos rfl] at h1;split at h1
      ·cases h1
      ·split at h1
       ·rename_i h5;exact absurd h1 h5
       ·rename_i h5;exact Decidable.not_not.1 h5
     ·rw [if_neg (by decide),if_neg (by decide),if_neg (by decide),if_neg (by decide),if_pos rfl] at h1;split at h1
      ·cases h1
      ·split at h1
       ·cases h1
       ·exact h1
     ·rw [if_neg (by decide),if_neg (by decide),if_neg (by decide),if_neg (by decide),if_neg (by decide),if_neg (by decide),if_neg (by decide),if_pos (.inl rfl)] at h1;split at h1
      ·cases h1
      ·exact h1
   ·exact aj.dI li (wT cl h1 h2) a ha
  ·exact ah.dI cl ks k (dp+1) h3 a ha
theorem ah.dI (cl:ByteArray->Bool):∀ (l:List ah) (par:Int) (dp:Nat),ah.aT cl par dp l=0->∀ a∈ah.aN l,fO a=true
 | [],_,_,_,a,ha=>by rw [ah.aN] at ha;cases ha
 | x::l,par,dp,h,a,ha=>by
  have hx:=(uY cl par dp (x::l)).1 h x (jr1 ..);have hl:=(uY cl par dp l).2 (fun b hb=>(uY cl par dp (x::l)).1 h b (List.mem_cons_of_mem _ hb));rw [ah.aN] at ha;rcases List.mem_append.1 ha with ha | ha
  ·exact ah.wX cl x par dp hx a ha
  ·exact ah.dI cl l par dp hl a ha
end
theorem OP (W:Int) (hW:1<=W/\W<=1048576) (cl:ByteArray->Bool) (l:List ah) (h:ah.aT cl 0 0 l=0) (he:(zT W l).2=0) (hv:ah.aK l<=500000) (hd:(ah.aN l).Nodup):jm (zT W l).1=0:=by
 obtain ⟨h1,h2,h3,h4⟩:=wV W hW cl l h he;unfold jm;rw [if_neg (by omega)];refine wW _ _ _ (fun b hb=>?_) h3 (fun a ha=>?_) (by rw [h1];exact hd)
 ·obtain ⟨a1,a2,a3,a4⟩:=h2 b hb;exact ⟨a2,by omega,a1,a4⟩
 ·rw [h1] at ha;exact ah.dI cl l 0 0 h a ha
open Go.RowKit
mutual
theorem aj.OQ:∀ (x:aj),x.small->x.shown.length<=302*x.sz
 | .mk k t d ti a ar ci ks,h=>by
  rw [aj.small] at h;obtain ⟨h1,h2,-,-,-,-,-,-,h9⟩:=h;have hk:=aj.kN ks h9;have e1:t.data.toList.length=t.size:=Array.length_toList;have e2:d.data.toList.length=d.size:=Array.length_toList;rw [aj.shown,aj.sz,Nat.mul_add];split
  ·omega
  ·split
   ·simp;omega
   ·split
    ·simp;omega
    ·split
     ·omega
     ·split
      ·rw [List.length_cons,jp4];simp only [List.length_cons,List.length_nil];omega
      ·split
       ·omega
       ·simp
theorem aj.kN:∀ (l:List aj),aj.aG l->(aj.ay l).length<=302*aj.aX l
 | [],_=>by rw [aj.ay];exact jpj _
 | x::l,h=>by
  rw [aj.aG] at h;rw [aj.ay,aj.aX,jp4,Nat.mul_add];have:=aj.OQ x h.1;have:=aj.kN l h.2;omega
end
theorem qP (l:List aj):(bJ (aj.aA l)).length<=aj.aX l:=by rw [<- aj.dJ];exact List.length_filterMap_le _ _
mutual
theorem ah.OT:∀ (x:ah),x.small->x.bM<=930*x.all
 | .mk k lv i t d ti a li ks,h=>by
  rw [ah.small] at h;obtain ⟨h1,h2,-,-,-,h6,-,h8⟩:=h;have a1:=aj.kN li h6;have a2:=qP li;have a3:=ah.qQ ks h8;rw [ah.bM,ah.all];omega
theorem ah.qQ:∀ (l:List ah),ah.aG l->ah.aK l<=930*ah.aZ l
 | [],_=>by rw [ah.aK];exact jpj _
 | x::l,h=>by
  rw [ah.aG] at h;rw [ah.aK,ah.aZ];have:=ah.OT x h.1;have:=ah.qQ l h.2;omega
end
mutual
theorem JM:∀ (x:ah),x.all<=1000->∀ b∈x.each,BX b
 | .mk k lv i t d ti a li ks,h,b,hb=>by
  rw [ah.all] at h;rw [ah.each] at hb;rcases List.mem_cons.1 hb with rfl | hb
  ·show (bJ (aj.aA li)).length<=_;have:=qP li;omega
  ·exact EJ ks (by omega) b hb
theorem EJ:∀ (l:List ah),ah.aZ l<=1000->∀ b∈ah.aS l,BX b
 | [],_,b,hb=>by rw [ah.aS] at hb;cases hb
 | x::l,h,b,hb=>by
  rw [ah.aZ] at h;rw [ah.aS] at hb;rcases List.mem_append.1 hb with hb | hb
  ·exact JM x (by omega) b hb
  ·exact EJ l (by omega) b hb
end
theorem ah.Sq (ks:List ah) (r c:ah) (hr:r∈ks) (hc:c∈ze r) (h:ah.aG ks):aj.aG (kZ c):=by
 have key:∀ (l:List ah),ah.aG l->∀ x∈l,x.small:=by
  intro l;induction l with
  | nil=>intro _ x hx;cases hx
  | cons y l ih=>
   intro h x hx;rw [ah.aG] at h;rcases List.mem_cons.1 hx with rfl | hx
   ·exact h.1
   ·exact ih h.2 x hx
 have h1:=key ks h r hr;obtain ⟨k,lv,i,t,d,ti,a,li,ks'⟩:=r;rw [ah.small] at h1;have h2:=key ks' h1.2.2.2.2.2.2.2 c hc;obtain ⟨k,lv,i,t,d,ti,a,li,ji7⟩:=c;rw [ah.small] at h2;exact h2.2.2.2.2.2.1
theorem ah.EK (ks:List ah) (r c:ah) (hr:r∈ks) (hc:c∈ze r):aj.aX (kZ c)<=ah.aZ ks:=by
 have key:∀ (l:List ah),∀ x∈l,x.all<=ah.aZ l:=by
  intro l;induction l with
  | nil=>intro x hx;cases hx
  | cons y l ih=>
   intro x hx;rw [ah.aZ];rcases List.mem_cons.1 hx with rfl | hx
   ·omega
   ·have:=ih x hx;omega
 have h1:=key ks r hr;obtain ⟨k,lv,i,t,d,ti,a,li,ks'⟩:=r;have h2:=key ks' c hc;rw [ah.all] at h1;obtain ⟨k,lv,i,t,d,ti,a,li,ji7⟩:=c;rw [ah.all] at h2;show aj.aX li<=_;omega
mutual
theorem Sr (cl:ByteArray->Bool) (m:Nat) (W:Int) (hW:1<=W/\W<=1048576) (w0:World) (Ch:PT w0):∀ (x:ah) (par:Int) (dp:Nat),par≠7->par≠8->par≠10->par≠11->x.err cl par dp=0->x.small->x.all<=120->R7 m W w0 x
 | .mk k lv i t d ti a li ks,par,dp,q7,q8,Na,Nb,h,hs,ha=>by
  have hpl:=sM cl h;obtain ⟨h1,h2,h3⟩:=Sn cl h;have hf:=sN h2;have hv:=ah.OT _ hs;have hv2:(ah.mk k lv i t d ti a li ks).bM=30+i.size+2*t.size+2*(aj.ay li).length+(bJ (aj.aA li)).length+ah.aK ks:=by rw [ah.bM]
  have DF:=JM _ (Nat.le_trans ha (by decide));have hu2:=qP li;rw [ah.small] at hs;obtain ⟨s1,s2,-,-,-,s6,s7,s8⟩:=hs;have hsh:=aj.kN li s6;rw [ah.all] at ha hv;intro vc dO vl vk hR st vp p w hin;rcases (by have:=hf.k1;have:=hf.k15;omega:k=1\/k=2\/k=3\/k=4\/k=5\/k=6\/k=7\/k=8\/k=9\/k=10\/k=11\/k=12\/k=13\/k=14\/k=15) with rfl | rfl | rfl | rfl | rfl | rfl | rfl | rfl | rfl | rfl | rfl | rfl | rfl | rfl | rfl
  ·by_cases hle:fU li=0
   ·exact kK m W w0 st vp p 1 lv i t d ti a li ks vc dO vl vk w (by omega) hin hR (by omega) hle (by omega) (by omega)
   ·exact ED m W w0 st vp p 1 lv i t d ti a li ks vc dO vl vk w (by omega) hin hR (by omega) hle (by omega) (by omega)
  ·by_cases hle:fU li=0
   ·exact kK m W w0 st vp p 2 lv i t d ti a li ks vc dO vl vk w (by omega) hin hR (by omega) hle (by omega) (by omega)
   ·exact ED m W w0 st vp p 2 lv i t d ti a li ks vc dO vl vk w (by omega) hin hR (by omega) hle (by omega) (by omega)
  ·have e:=hf.ln (by decide) (by decide) (by decide);subst e;exact kK m W w0 st vp p 3 lv i t d ti a [] ks vc dO vl vk w (by omega) hin hR (by omega) (by decide +kernel) (by omega) (by omega)
  ·have e:=hf.ln (by decide) (by decide) (by decide);subst e;exact kK m W w0 st vp p 4 lv i t d ti a [] ks vc dO vl vk w (by omega) hin hR (by omega) (by decide +kernel) (by omega) (by omega)
  ·have e:=hf.ln (by decide) (by decide) (by decide);subst e;exact kK m W w0 st vp p 5 lv i t d ti a [] ks vc dO vl vk w (by omega) hin hR (by omega) (by decide +kernel) (by omega) (by omega)
  ·exact Ay m W w0 st vp p lv i t d ti a li ks vc dO vl vk w hin hR (q1z m W w0 ks (jy cl m W hW w0 Ch ks 6 (dp+1) (by decide) (by decide) (by decide) (by decide) h3 s8 (by omega)) (fun x _ st p=>jR W hW x st p))
  ·exact wR m W w0 st vp p 7 lv i t d ti a li ks vc dO vl vk w hin hR (.inl rfl) (fun e=>absurd e (by decide)) (Cm cl m W hW w0 Ch ks 7 (dp+1) (.inl rfl) h3 s8 (by omega)) (fun x _ st q=>AA W hW x st q) (fun e=>absurd e (by decide))
  ·exact wR m W w0 st vp p 8 lv i t d ti a li ks vc dO vl vk w hin hR (.inr rfl) (fun _=>U6 cl h1 rfl) (Cm cl m W hW w0 Ch ks 8 (dp+1) (.inr rfl) h3 s8 (by omega)) (fun x _ st q=>AA W hW x st q) (fun _=>Ch)
  ·exact absurd hpl (by unfold dD;rw [if_neg (by omega),if_neg Na,if_neg Nb];decide)
  ·exact Ll m W w0 st vp p lv i t d ti a li ks vc dO vl vk w hin hR (JK cl h1 rfl) (fun r hr=>fun c hc=>⟨by
    have:=ah.Sq ks r c hr hc s8;have:=ah.EK ks r c hr hc;have:=aj.kN (kZ c) (by assumption);omega,by
    have:=ah.EK ks r c hr hc;have:=qP (kZ c);omega⟩)
  ·exact absurd hpl (by unfold dD;rw [if_neg (by omega),if_neg Na,if_neg Nb];decide)
  ·exact absurd hpl (by unfold dD;rw [if_neg (by omega),if_neg Na,if_neg Nb];decide)
  ·by_cases hi:i=D5
   ·have hB:=q1z m W w0 ks (jy cl m W hW w0 Ch ks 13 (dp+1) (by decide) (by decide) (by decide) (by decide) h3 s8 (by omega)) (fun x _ st p=>jR W hW x st p);have hft:=hin.fit;rw [hv2] at hft;exact RY m W w0 st vp p lv i t d ti a li ks vc dO vl vk w hin hR hB hi (U7 W hW cl ks 13 (dp+1) _ p h3 (by have:=hft.f;omega) (by have:=hft.r;omega)) DF
   ·exact Sv m W w0 st vp p lv i t d ti a li ks vc dO vl vk w hin hR (q1z m W w0 ks (jy cl m W hW w0 Ch ks 13 (dp+1) (by decide) (by decide) (by decide) (by decide) h3 s8 (by omega)) (fun x _ st p=>jR W hW x st p)) hi
  ·exact OE m W w0 st vp p lv i t d ti a li ks vc dO vl vk w hin hR (q1z m W w0 ks (jy cl m W hW w0 Ch ks 14 (dp+1) (by decide) (by decide) (by decide) (by decide) h3 s8 (by omega)) (fun x _ st p=>jR W hW x st p))
  ·exact OG m W w0 st vp p lv i t d ti a li ks vc dO vl vk w hin hR
theorem jy (cl:ByteArray->Bool) (m:Nat) (W:Int) (hW:1<=W/\W<=1048576) (w0:World) (Ch:PT w0):∀ (l:List ah) (par:Int) (dp:Nat),par≠7->par≠8->par≠10->par≠11->ah.aT cl par dp l=0->ah.aG l->ah.aZ l<=120->∀ x∈l,R7 m W w0 x
 | [],par,dp,q7,q8,Na,Nb,h,hs,ha,x,hx=>by cases hx
 | y::l,par,dp,q7,q8,Na,Nb,h,hs,ha,x,hx=>by
  have hy:=(uY cl par dp (y::l)).1 h y (jr1 ..);have hl:=(uY cl par dp l).2 (fun b hb=>(uY cl par dp (y::l)).1 h b (List.mem_cons_of_mem _ hb));rw [ah.aG] at hs;rw [ah.aZ] at ha;rcases List.mem_cons.1 hx with e | hx
  ·rw [e];exact Sr cl m W hW w0 Ch y par dp q7 q8 Na Nb hy hs.1 (by omega)
  ·exact jy cl m W hW w0 Ch l par dp q7 q8 Na Nb hl hs.2 (by omega) x hx
theorem Cm (cl:ByteArray->Bool) (m:Nat) (W:Int) (hW:1<=W/\W<=1048576) (w0:World) (Ch:PT w0):∀ (l:List ah) (par:Int) (dp:Nat),par=7\/par=8->ah.aT cl par dp l=0->ah.aG l->ah.aZ l<=120->∀ x∈l,gV m W w0 (ze x)
 | [],par,dp,hp,h,hs,ha,x,hx=>by cases hx
 | .mk k lv i t d ti a li ks::l,par,dp,hp,h,hs,ha,x,hx=>by
  have hy:=(uY cl par dp (.mk k lv i t d ti a li ks::l)).1 h _ (jr1 ..);have hl:=(uY cl par dp l).2 (fun b hb=>(uY cl par dp (.mk k lv i t d ti a li ks::l)).1 h b (List.mem_cons_of_mem _ hb));rw [ah.aG] at hs;rw [ah.aZ,ah.all] at ha;rcases List.mem_cons.1 hx with e | hx
  ·rw [e];have hpl:=sM cl hy;obtain ⟨h1,h2,h3⟩:=Sn cl hy;have hk9:k=9:=by
    unfold dD at hpl;rw [if_pos hp] at hpl;exact of_decide_eq_true hpl
   have hs1:=hs.1;rw [ah.small] at hs1;exact q1z m W w0 ks (jy cl m W hW w0 Ch ks k (dp+1) (by omega) (by omega) (by omega) (by omega) h3 hs1.2.2.2.2.2.2.2 (by omega)) (fun x _ st p=>jR W hW x st p)
  ·exact Cm cl m W hW w0 Ch l par dp hp hl hs.2 (by omega) x hx
end
open Go.RowKit
theorem Hz {l:List ByteArray} {k:Nat} {y:ByteArray} (hy:l[k]?=some y) (h:(l.take k).Nodup):(l.take (k+1)).Nodup↔fu (l.take k) y=false:=by
 rw [List.take_add_one,hy,Sw];show (l.take k++[y]).Nodup↔_;rw [List.nodup_append];constructor
 ·rintro ⟨-,-,h3⟩ hm;exact h3 y hm y (by simp) rfl
 ·intro h3;refine ⟨h,by simp,fun a ha b hb e=>?_⟩;rw [List.mem_singleton] at hb;subst hb;subst e;exact h3 ha
theorem H8 {l:List ByteArray} (h:l.Nodup) (k:Nat):(l.take k).Nodup:=h.sublist (List.take_sublist k l)
theorem Cn (X:List ByteArray) (v:Value) (w:World) (hs:gQ w 1 v X.length (X.map Value.string)) : Calls Tryz.prog 22 #[v] w fun e w'=>e=.returned (.bool (decide X.Nodup))/\Below w.heap.size w w':=by
 obtain ⟨-,ax,cx,rfl,p1,p2,p3⟩:=hs;have P3:=Lib.hid p3;clear p3;unfold maxLen at p2;obtain ⟨V,hV⟩:∃ V,V=decide X.Nodup:=⟨_,rfl⟩;rw [<- hV];have HV:=Lib.hid hV;clear hV;go_enter Tryz.func22,Tryz.ntmps22;go_wp2
 go_loopw [3] (fun i wr=>∃ k q:Nat,k<=X.length/\i=.int .i64 k/\(X.take k).Nodup/\wr=w.drewN q) (fun i _=>X.length-(intOf i).toNat)
 case atStart=>exact ⟨0,0,jpj _,rfl,by simp,rfl⟩
 case round=>
  obtain ⟨k,q,hk,rfl,hnd,rfl⟩:=hrel;by_cases hlt:k<X.length
  ·rcases P3.out with p3 | ⟨g1,o1,rfl,p3⟩
   ·omega
   obtain ⟨y,hy⟩:∃ y,X[k]?=some y:=⟨_,joq hlt⟩;have c1:=p3 k (.string y) (by simp [hy]);obtain ⟨wq,hwq⟩:∃ wq,wq=w.drewN q:=⟨_,rfl⟩;have cq:wq.cell? ⟨g1,o1+k,none⟩=some (.string y):=by rw [hwq];exact c1
   obtain ⟨b,hb⟩:∃ b,b=fu (X.take k) y:=⟨_,rfl⟩;have hst:gQ w 1 (.slice (some ⟨g1,o1,none⟩) k cx) k ((X.take k).map Value.string):=by
    refine ⟨by simp;omega,_,_,rfl,by omega,by unfold maxLen;omega,.inr ⟨g1,o1,rfl,fun j u hu=>p3 j u ?_⟩⟩;rw [List.getElem?_map] at hu ⊢;rw [List.getElem?_take] at hu;split at hu
    ·exact hu
    ·cases hu
   have YB:gQ wq 1 (.slice (some ⟨g1,o1,none⟩) k cx) k ((X.take k).map Value.string):=by rw [hwq];exact hst
   have hkt:(X.take k).length=k:=by simp;omega
   have N3:Hid (∀ m,Calls Tryz.prog 52 #[.slice (some ⟨g1,o1,none⟩) k cx,.string y] (wq.drewN m) fun e w'=>e=.returned (.bool b)/\w'=wq.drewN m):=fun m=>(OU (X.take k) y _ (wq.drewN m) (by rw [hkt];exact YB)).mono fun _ _ h=>⟨by rw [h.1,hb],h.2.symm⟩
   have rZ:=Lib.hid (Hz hy hnd);rw [<- hb] at rZ;rw [<- hwq];have HQ:=Lib.hid hwq;have Wx:=Lib.hid hlt;clear c1 hwq YB hst hkt hy p3 P3 hnd hb;cases b with
   | true=>
    have HF:Hid (V=false):=by
     show V=false;rw [HV.out];refine decide_eq_false fun h=>?_
     have:=rZ.out.1 (H8 h (k+1));cases this
    go_wp2_with fail
    go_quiet (first | (go_at_call 52;with_reducible exact Calls.quiet_of_same (N3.out _)))
    go_wp2;go_ret;exact ⟨by rw [HF.out];rfl,by rw [HQ.out];exact eZ (eZ (Below.refl _ _) _) _⟩
   | false=>
    go_wp2_with fail
    go_quiet (first | (go_at_call 52;with_reducible exact Calls.quiet_of_same (N3.out _)))
    go_wp2;go_roundw;case rel=>exact ⟨k+1,q+nq,by have:=Wx.out;omega,by go_num,rZ.out.2 (by simp),by rw [HQ.out,World.drewN_drewN]⟩
    case measure=>have:=Wx.out;simp [intOf];omega
  ·have HF:Hid (V=true):=by
    show V=true;rw [HV.out];rw [List.take_of_length_le (by omega)] at hnd;exact decide_eq_true hnd
   clear hnd P3;go_wp2;go_ret;exact ⟨by rw [HF.out];rfl,eZ (Below.refl _ _) _⟩
def AwR (B:Nat) (w4:World) (L:List Bx) (vg vi:Value) (wr:World):Prop:=
 ∃ k:Nat,k<=L.length/\vi=.int .i64 k/\wr.ownsRow B 9 1 vg (l7 L k).length ((l7 L k).map Value.string)/\Below w4.heap.size w4 wr
theorem AJ (L:List Bx):l7 L L.length=L.flatMap Bx.an:=by unfold l7;rw [List.take_length,List.flatMap_def]
theorem EL (L:List Bx) (k:Nat):(l7 L k).length<=(L.flatMap Bx.an).length:=by rw [<- AJ];unfold l7;rw [List.take_length];have h:L=L.take k++L.drop k:=(List.take_append_drop k L).symm;have:=congrArg (fun l=>((l.map Bx.an).flatten).length) h;simp only [List.map_append,List.flatten_append,jp4] at this;omega
mutual
theorem Xm:∀ (x:ah),x.ids.length<=x.all
 | .mk k lv i t d ti a li ks=>by
  have h1:=qP li;have h2:=uZ ks;have h3:(ig a).length<=1:=by unfold ig;split<;>simp
  rw [ah.ids,ah.all,jp4,jp4];omega
theorem uZ:∀ (l:List ah),(ah.aN l).length<=ah.aZ l
 | []=>by rw [ah.aN];exact jpj _
 | x::l=>by
  have h1:=Xm x;have h2:=uZ l;rw [ah.aN,ah.aZ,jp4];omega
end
theorem jS {cl:ByteArray->Bool} {me:List Pr} {l:List ah} (h:eH cl me l=0):ah.aT cl 0 0 l=0:=by
 unfold eH at h;split at h
 ·cases h
 ·split at h
  ·rename_i h1;exact absurd h h1
  ·exact h
theorem OV {s:ByteArray} (h:fO s=true):s.size<=60:=by unfold fO at h;simp only [Bool.and_eq_true,decide_eq_true_eq] at h;exact h.1.1.2
theorem Xn {W:Int} (hW:1<=W/\W<=1048576) {me:List Pr} {l:List ah} (hd:U8 me l) (h:ah.aT AL 0 0 l=0) (he:(zT W l).2=0):∀ x∈(zT W l).1,x.Rv:=by
 intro x hx;obtain ⟨h1,h2,h3,h4⟩:=wV W hW AL l h he;have hv:=ah.qQ l hd.blks;have ha:=hd.all;have hi:=uZ l;have hsub:∀ a∈x.an,a∈ah.aN l:=fun a ha=>by rw [<- h1];exact List.mem_flatMap.2 ⟨x,hx,ha⟩
 refine ⟨?_,?_,fun a ha=>?_⟩
 ·have ht:=U7 W hW AL l 0 0 ⟨0,[],0,false,0⟩ ⟨⟨#[]⟩,⟨#[]⟩⟩ h (by show 0+_<=_;omega) (by show 0+_<=_;omega);have hm:x∈(ah.bX W ⟨0,[],0,false,0⟩ ⟨⟨#[]⟩,⟨#[]⟩⟩ l).1:=by
   unfold zT at hx;simp only at hx;split at hx
   ·cases hx
   ·split at hx
    ·cases hx
    ·exact hx
  have h5:=Sy x hm;have h6:=ht.tt;omega
 ·obtain ⟨j,hj⟩:=List.mem_iff_getElem?.1 hx;have h5:=lG hj;have h6:=EL (zT W l).1 (j+1);rw [h5,jp4,h1] at h6;omega
 ·have:=OV (ah.dI AL l 0 0 h a (hsub a ha));omega
theorem EM (me:List Pr) (l:List ah) (vm vb:Value) (m:Int) (w:World) (hm:Rd (·<w.heap.size) w (Co me) [vm]) (hb:Rd (·<w.heap.size) w (om l) [vb]) (JJ:∀ p∈me,p.wf) (hwl:ah.uL l) (hml:me.length<=reachBytes) (hll:l.length<=reachBytes) (hw:0<=m/\m<=65535) (hp:PT w) (ht:TabAt w) (hmx:oh w) : Calls Tryz.prog 8 #[.agg #[vm,vb],.int .u16 m] w fun e w'=>e=.returned (.bool true)/\Below w.heap.size w w':=by
 obtain ⟨iS,Hl,oV,oW,oZ⟩:=info_parts ku;obtain ⟨am,cm,sw,-⟩:=Rd.aC hm;obtain ⟨ab,cb,hvb,-⟩:=Rd.aC hb;obtain ⟨nm,hnm⟩:∃ nm,nm=me.length:=⟨_,rfl⟩;obtain ⟨nb,hnb⟩:∃ nb,nb=l.length:=⟨_,rfl⟩;obtain rfl:vm=.slice am nm cm:=by rw [hnm];simpa using sw
 obtain rfl:vb=.slice ab nb cb:=by rw [hnb];simpa using hvb
 obtain ⟨S,hS⟩:∃ S,S=w.heap.size:=⟨_,rfl⟩;obtain ⟨W0,hW0⟩:∃ W0,W0=w.alloc (.cells #[.slice am nm cm,.slice ab nb cb] 25):=⟨_,rfl⟩;have k0:CB 25 S [.slice am nm cm,.slice ab nb cb] W0:=by rw [hW0,hS];exact CB.new _ _ w
 have b0:Below w.heap.size w W0:=by rw [hW0];exact (Below.refl _ _).alloc (Nat.le_refl _) _
 have SM:=Lib.hid (LB me l _ _ W0 (hm.up b0) (hb.up b0) JJ hwl);have HM:=Lib.hid hm;have HB:=Lib.hid hb;have HPT:=Lib.hid hp;have HTA:=Lib.hid ht;have HMX:=Lib.hid hmx;have HNM:=Lib.hid hnm;have HNB:=Lib.hid hnb;have AW:=Lib.hid (fun (W:World) (hb:Below w.heap.size w W)=>Sz W (ht.below hb) (hmx.below hb));have B0:=Lib.hid b0;have K0:=Lib.hid k0;have x0:=k0.cell 0 _ rfl;have x1:=k0.cell 1 _ rfl;obtain ⟨hw1,hw2⟩:=hw;clear hm hb JJ hwl hml hll ht hp hmx k0 b0 sw hvb hnm hnb;go_enter Tryz.func8,Tryz.ntmps8;go_upto_region 1 with (fail)
 rw [<- hW0,<- hS];clear hW0 hS;go_wp2_with fail
 (with_reducible refine SM.out.mono ?_)
 rintro e w1 ⟨b,rfl,hsm,b1⟩;have B1:=Lib.hid (aP B0.out b1);have K1:=Lib.hid (K0.out.below b1);clear x0 x1 b1 SM;cases b with
 | false=>
  have aw:=AW.out w1 B1.out;clear hsm;go_wp2_with fail
  (with_reducible refine aw.mono ?_)
  rintro e w2 ⟨rfl,b2⟩;have HF:=Lib.hid (aP B1.out b2);clear b2 aw;go_wp2;go_ret;exact ⟨rfl,HF.out⟩
 | true=>
  have hd:=hsm rfl;have SA:1<=m+1/\m+1<=1048576:=⟨by omega,by omega⟩;have hv:=ah.qQ l hd.blks;have ha:=hd.all;have hz:=ah.u7 l;have hM1:=HM.out.up B1.out;have hB1:=HB.out.up B1.out;have OC:=Lib.hid (show Calls Tryz.prog 20 #[.agg #[.slice am nm cm,.slice ab nb cb],.int .i64 (m+1)] w1 (OfB (LD AL (m+1) me l) w1) by
   have:=qR AL (m+1) me l am ab cm nb cb w1 SA (by have:=hd.meta_;omega) (fun p hp=>by have:=hd.ji8 p hp;omega) (by omega) (ah.gK l hd.blks) (fun _=>OX) (ah.pq l hd.blks) (by omega) (by omega) (by omega) (by rw [<- HNM.out];exact hM1) hB1
    (fun hde _ wz hbz=>q1z _ _ _ l (jy AL _ _ SA wz (HPT.out.below (aP B1.out hbz)) l 0 0 (by decide) (by decide) (by decide) (by decide) (jS hde) hd.blks hd.all) (fun x _ st p=>jR _ SA x st p)) (HTA.out.below B1.out) (HMX.out.below B1.out)
   rw [<- HNM.out] at this;exact this)
  obtain ⟨R,hR⟩:∃ R,R=LD AL (m+1) me l:=⟨_,rfl⟩;rw [<- hR] at OC;have HRR:=Lib.hid hR;have HD:=Lib.hid hd;have x0:=K1.out.cell 0 _ rfl;have x1:=K1.out.cell 1 _ rfl;have hcv:IntKind.i64.wrap m=m:=IntWalk.i64_in _ ⟨by omega,by omega⟩;clear hsm hd SA hv ha hz hM1 hB1 hR;go_wp2_with fail
  (with_reducible refine OC.out.mono ?_)
  rintro e w2 ⟨v2,rfl,hr2,b2⟩;obtain ⟨a2,c2,hv2,hs2⟩:=Rd.aC hr2;obtain ⟨n2,hn2⟩:∃ n2,n2=(R.1.map Bx.d).length:=⟨_,rfl⟩;obtain rfl:v2=.slice a2 n2 c2:=by rw [hn2];simpa using hv2
  have jb0:n2=R.1.length:=by rw [hn2,List.length_map]
  have B2:=Lib.hid (aP B1.out b2);have K2:=Lib.hid (K1.out.below b2);have HR2:=Lib.hid hr2;have HS2:=Lib.hid hs2;have Hg:=Lib.hid jb0;clear x0 x1 b2 hr2 hv2 hs2 hn2 jb0 OC;by_cases hE:R.2=0;case neg=>
   have q1:(((R.2:Nat):Int) != 0)=true:=by simp;omega
   have hz:n2=0:=by
    rw [Hg.out,HRR.out];rw [HRR.out] at hE;unfold LD at hE ⊢;split
    ·rfl
    ·rename_i h1
     rw [if_neg h1] at hE;split
     ·rfl
     ·rename_i h2
      rw [if_neg h2] at hE;unfold zT at hE ⊢;simp only at hE ⊢;split
      ·rfl
      ·rename_i h3
       rw [if_neg h3] at hE;split
       ·rfl
       ·rename_i h4
        rw [if_neg h4] at hE;exact absurd rfl hE
   subst hz;have aw:=AW.out w2 B2.out;clear hE;go_wp2_with fail
   (with_reducible refine aw.mono ?_)
   rintro e w3 ⟨rfl,b3⟩;have HF:=Lib.hid (aP B2.out b3);clear b3 aw;go_wp2;go_ret;exact ⟨rfl,HF.out⟩
  have q1:(((R.2:Nat):Int) != 0)=false:=by rw [hE];rfl
  obtain ⟨hde,hRL,hbe⟩:eH AL me l=0/\R=zT (m+1) l/\(zT (m+1) l).2=0:=by
   have h0:=HRR.out;rw [h0] at hE;unfold LD at hE h0;by_cases h1:eH AL me l=0
   ·rw [if_neg (by simp [h1])] at hE h0;by_cases h2:(ah.aQ l).any EN=true
    ·rw [if_pos h2] at hE;cases hE
    ·rw [if_neg h2] at hE h0;exact ⟨h1,h0,hE⟩
   ·rw [if_pos h1] at hE;exact absurd hE h1
  have SA:1<=m+1/\m+1<=1048576:=⟨by omega,by omega⟩;obtain ⟨o1,o2,o3,o4⟩:=wV (m+1) SA AL l (jS hde) hbe;have hfin:=Xn SA HD.out (jS hde) hbe;have OY:=OP (m+1) SA AL l (jS hde) hbe (by have:=ah.qQ l HD.out.blks;have:=HD.out.all;omega);rw [<- hRL] at o1 o4 hfin OY;obtain ⟨L,hL⟩:∃ L,L=R.1:=⟨_,rfl⟩;rw [<- hL] at o1 o4 hfin OY HR2 HS2 Hg;obtain ⟨X,hX⟩:∃ X,X=ah.aN l:=⟨_,rfl⟩;have Xo:X.length<=120:=by rw [hX];have:=uZ l;have:=HD.out.all;omega
  rw [<- hX] at o1 OY;have HO1:=Lib.hid o1;have qz:=Lib.hid hfin;have ji9:=Lib.hid OY;have HXL:=Lib.hid Xo;have jn5:n2<=4096:=by rw [Hg.out];exact o4
  have hcap2:n2<=c2:=by have:=HS2.out.le;rw [List.length_map] at this;have:=Hg.out;omega
  have jij:=HS2.out.max;unfold maxLen at jij;have HAX:=Lib.hid (fun (k:Nat)=>(by have:=EL L k;rw [o1] at this;omega:(l7 L k).length<=120));have IDC:=Lib.hid (fun (W:World) (hbw:Below w.heap.size w W)=>(show Calls Tryz.prog 21 #[.slice ab nb cb] W fun e w'=>∃ v',e=.returned v'/\qU W X v' w' by
   rw [hX];exact SB 200000 l W.heap.size (.slice ab nb cb) W (by have:=ah.u7 l;have:=HD.out.all;omega) (Nat.le_refl _) (HB.out.up hbw) (Nat.le_refl _)))
  have R0:Hid (AwR w2.heap.size w2 L (.slice none 0 0) (.int .i64 0) w2):=⟨0,jpj _,rfl,by simpa [l7] using Nv _ _ _ _,Below.refl _ _⟩;clear hE hde hRL hbe SA o1 o2 o3 o4 hfin OY hL hX Xo HRR;go_wp2
  go_loopw [7,8] (fun vg vi wr=>AwR w2.heap.size w2 L vg vi wr) (fun _ vi _=>n2-(intOf vi).toNat)
  case atStart=>exact R0.out
  case round=>
   clear R0;obtain ⟨k,hk,rfl,hown,hbel⟩:=hrel;by_cases hlt:k<n2
   ·obtain ⟨y,hy⟩:∃ y,L[k]?=some y:=⟨_,joq (by have:=Hg.out;omega)⟩;have hsn:=lG hy;have hle1:=HAX.out (k+1);rw [hsn,jp4] at hle1;have Zv:=qz.out y (List.mem_of_getElem? hy);obtain ⟨yt,yh,yg,yk,yf,ya⟩:=y;obtain ⟨g,off,va,rfl,-,hbl,⟨c0,c1,c2',c3,c4,c5⟩,hva⟩:=mQ HS2.out hy;obtain ⟨aa,ca,NK,hsa⟩:=Rd.aC hva;obtain ⟨na,hna⟩:∃ na,na=ya.length:=⟨_,rfl⟩;obtain rfl:va=.slice aa na ca:=by rw [hna];simpa using NK
    have c5:wr.cell? ⟨g,off+k*6+5,none⟩=some (.slice aa na ca):=by rw [hbel.cell (p:=⟨g,off+k*6+5,none⟩) (jY c5)];exact c5
    obtain ⟨a5,c5',M8,hR5⟩:=((Cq hva).up hbel).sees.reads;obtain ⟨rfl,rfl⟩:aa=a5/\ca=c5':=by simp at M8;exact ⟨M8.1,M8.2.2⟩
    rw [<- hna] at hR5;obtain ⟨m0,hm0⟩:∃ m0,m0=(l7 L k).length:=⟨_,rfl⟩;rw [<- hm0] at hown;obtain ⟨av,cv,rfl⟩:=q01 hown;have hle2:m0+na<=120:=by rw [hm0,hna];exact hle1
    have HOW:=Lib.hid hown;have Rx:=Lib.hid hR5;have rZ:=Lib.hid hsn;have Jr:=Lib.hid hbel;have HM0:=Lib.hid hm0;have MU:=Lib.hid hna;have Wx:=Lib.hid hlt;clear hy hsn hle1 Zv hva NK hsa hown hbel c0 c1 c2' c3 c4 M8 hR5 hm0 hbl hna;go_wp2_with (at_builtin;(refine Dy _ rfl _ _ 35 rfl w2.heap.size 9 iS _ 1 16 Tryz.underlying35 Hl oV oW oZ rfl (by decide) _ _ _ rfl HOW.out _ _ _ _ _ rfl Rx.out ?c1 ?c2 ?c3 ?c4 ?_))
    case c1=>
     intro u hu;first
      | rfl
      | (obtain ⟨s,_,rfl⟩:=List.mem_map.1 hu;rfl)
    case c2=>unfold maxLen;omega
    case c3=>omega
    case c4=>exact Jr.out.size
    intro v5 w5 h5 hg5 Ea;have b5:Below w2.heap.size w2 w5:=Jr.out.grown hg5 Jr.out.size (fun b e=>(HOW.out.lt b e).1);have HF:Hid (AwR w2.heap.size w2 L v5 (.int .i64 ((k+1:Nat):Int)) w5):=⟨k+1,by have:=Hg.out;have:=Wx.out;omega,rfl,by rw [rZ.out,jp4,List.map_append,<- HM0.out,<- MU.out];exact h5,b5⟩;obtain ⟨av5,cv5,rfl⟩:=q01 h5;clear h5 hg5 Ea b5 HOW Rx;go_wp2;go_roundw;case rel=>exact HF.out
    case measure=>have:=Wx.out;simp [intOf];omega
   ·have hkn:k=L.length:=by have:=Hg.out;omega
    rw [hkn,AJ,HO1.out] at hown;obtain ⟨av,cv,rfl⟩:=q01 hown;obtain ⟨nx,hnx⟩:∃ nx,nx=X.length:=⟨_,rfl⟩;rw [<- hnx] at hown;have Xo:=HXL.out;rw [<- hnx] at Xo ⊢;have K3:=K2.out.below hbel;have x1:=K3.cell 1 _ rfl;have B3:=Lib.hid (aP B2.out hbel);have IC:=Lib.hid (IDC.out wr B3.out);have HOW:=Lib.hid hown;have NC:=Lib.hid hnx;have HR3:=Lib.hid (Cq HR2.out);have zZ:=Lib.hid hbel;clear hown hbel hkn K3 hnx;go_wp2_with fail
    (with_reducible refine IC.out.mono ?_)
    rintro e w4 ⟨v4,rfl,hs4⟩;have iH:=hs4.own;rw [<- NC.out] at iH;obtain ⟨a4,c4,rfl⟩:=q01 iH;have GX:=Lib.hid iH;have HG4:=Lib.hid (zY HOW.out hs4.gH);have B4:=Lib.hid (aP B3.out hs4.gH);have HR4:=Lib.hid ((HR3.out.up zZ.out).up hs4.gH);have hcap4:nx<=c4/\nx<=cv:=by obtain ⟨-,a,cap,h1,h2,h3,-⟩:=gQ.bV iH;obtain ⟨-,a',cap',h1',h2',h3',-⟩:=gQ.bV HG4.out;simp only [Value.slice.injEq] at h1 h1';omega
    obtain ⟨jh4,jn6⟩:=hcap4;have q2:((nx:Int) != (nx:Int))=false:=by simp
    clear iH hs4 IC x1;obtain ⟨wO,hwO⟩:∃ wO:World,wO=wr:=⟨_,rfl⟩;subst hwO;go_wp2
    go_loopw [10] (fun vi wr=>∃ i q:Nat,i<=nx/\vi=.int .i64 i/\wr=w4.drewN q) (fun vi _=>nx-(intOf vi).toNat)
    case atStart=>exact ⟨0,0,jpj _,rfl,rfl⟩
    case round=>
     obtain ⟨i,q,hi,rfl,rfl⟩:=hrel;by_cases hit:i<nx
     ·obtain ⟨y,hy⟩:∃ y,X[i]?=some y:=⟨_,joq (by have:=NC.out;omega)⟩;obtain ⟨g4,cap4,UK,-⟩:=eB GX.out (by omega);obtain ⟨g3,jb1,he3,-⟩:=eB HG4.out (by omega);obtain ⟨rfl,rfl⟩:a4=some ⟨g4,0,none⟩/\c4=cap4:=by simp at UK;exact UK
      obtain ⟨rfl,rfl⟩:av=some ⟨g3,0,none⟩/\cv=jb1:=by simp at he3;exact he3
      have c1:(w4.drewN q).cell? ⟨g4,i,none⟩=some (.string y):=by
       have h1:=GX.out.cells (g:=g4) rfl i (.string y) (by rw [List.getElem?_map,hy];rfl);have e:((⟨g4,0,none⟩:Addr).add i)=⟨g4,i,none⟩:=by unfold Addr.add;split<;>simp_all
       rw [e] at h1;exact h1
      have c2:(w4.drewN q).cell? ⟨g3,i,none⟩=some (.string y):=by
       have h1:=HG4.out.cells (g:=g3) rfl i (.string y) (by rw [List.getElem?_map,hy];rfl);have e:((⟨g3,0,none⟩:Addr).add i)=⟨g3,i,none⟩:=by unfold Addr.add;split<;>simp_all
       rw [e] at h1;exact h1
      obtain ⟨wq,hwq⟩:∃ wq,wq=w4.drewN q:=⟨_,rfl⟩;rw [<- hwq] at c1 c2 ⊢;have HWQ:=Lib.hid hwq;have HIT:=Lib.hid hit;clear hy UK he3 hwq;go_wp2_with fail
      go_quiet (fail)
      go_wp2;go_roundw;case rel=>exact ⟨i+1,q+nq,by have:=HIT.out;omega,by go_num,by rw [HWQ.out,World.drewN_drewN]⟩
      case measure=>have:=HIT.out;simp [intOf];omega
     ·obtain ⟨wq,hwq⟩:∃ wq,wq=w4.drewN q:=⟨_,rfl⟩;have bq:Below w4.heap.size w4 wq:=by rw [hwq];exact eZ (Below.refl _ _) _
      have UC:=Lib.hid (Cn X (.slice a4 nx c4) wq (by rw [<- NC.out];exact (gQ.bV GX.out).below bq));have B5:=Lib.hid (aP B4.out bq);have CC:=Lib.hid (fun (W:World) (hW:Below w4.heap.size w4 W)=>mR L (.slice a2 n2 c2) W (HR4.out.up hW) qz.out);have BQ:=Lib.hid bq;rw [<- hwq];clear hwq bq;cases hnd:decide X.Nodup with
      | false=>
       rw [hnd] at UC;clear hnd;go_wp2_with fail
       (with_reducible refine UC.out.mono ?_)
       rintro e w6 ⟨rfl,b6⟩;have B6:=Lib.hid (aP B5.out b6);have aw:=AW.out w6 B6.out;clear b6 UC CC;go_wp2_with fail
       (with_reducible refine aw.mono ?_)
       rintro e w7 ⟨rfl,b7⟩;have HF:=Lib.hid (aP B6.out b7);clear b7 aw;go_wp2;go_ret;exact ⟨rfl,HF.out⟩
      | true=>
       have hz:=ji9.out (of_decide_eq_true hnd);rw [hnd] at UC;rw [hz] at CC;clear hnd hz;go_wp2_with fail
       (with_reducible refine UC.out.mono ?_)
       rintro e w6 ⟨rfl,b6⟩;have B6:=Lib.hid (aP B5.out b6);have cc:=CC.out w6 (aP BQ.out b6);clear b6 UC CC;go_wp2_with fail
       (with_reducible refine cc.mono ?_)
       rintro e w7 ⟨rfl,b7⟩;have B7:=Lib.hid (aP B6.out b7);have aw:=AW.out w7 B7.out;clear b7 cc;go_wp2_with fail
       (with_reducible refine aw.mono ?_)
       rintro e w8 ⟨rfl,b8⟩;have HF:=Lib.hid (aP B7.out b8);clear b8 aw;go_wp2;go_ret;exact ⟨rfl,HF.out⟩
end Go.Proofs.YtdneicipdlofiaaGreatDoor
namespace Go.Proofs.YtdneicipdlofiaaGreatDoor.eD
open Go.ChangeShapes Go.WideShapes Go.ChangeAt Go.RowKit
theorem lifted (os:Os) (started:os.Started) (H:Type) (enc:TypeId × Value->H) : ReturnsInHanded {} Tryz.checked os 8 .any (fun w args=>(Rows.boxesAnchorsSpec.pre enc Tryz.prog Tryz.f8 [] false w args/\laidMetH Tryz.prog tZ w)/\sizedMet enc Tryz.prog Tryz.f8 (OpenSpec.ofChange Rows.boxesAnchorsSpec) false w args) (Rows.boxesAnchorsSpec.post enc Tryz.prog Tryz.f8 false true false false):=by
 refine BN (C:=Tryz.checked) (X:=fun w _=>laidMetH Tryz.prog tZ w) (fun _ _ _ hh h=>h.of_heap hh) own started (by kernel_rfl) Tryz.func8
  (ChangeSpec.witness_shaped (enc:=enc) (C:=Tryz.checked) (os:=os) (X:=fun w _=>laidMetH Tryz.prog tZ w) false (World.laidAll Tryz.prog os tZ) #[.agg #[.slice none 0 0,.slice none 0 0],.int .u16 0] 8 (World.laidAll_os _ _ _) (H9 os) (by kernel_rfl) (by kernel_rfl) (by kernel_rfl) (SE os _)) ?_
 intro W base args ds gs before hval0 hW hwt hL hSh;have hval:∀ (j:Nat) t v,Tryz.f8.params[j]?=some t->args[j]?=some v->Value.okWide Tryz.prog W .any base t v:=hval0;have hW':=hW;obtain ⟨p,q,hA0,hV,rfl,hfz,hnd⟩:=hW;have hA:DataW.TrodAll enc Tryz.prog W 0 (fun _=>true) true Tryz.f8.params.toList args.toList ds p:=hA0;rw [Tryz.params8] at hA hval;obtain ⟨v0,vs0,d0,ds0,p0,q0,hargs,rfl,rfl,h0,r0⟩:=trodAll_cons hA;obtain ⟨v1,vs1,d1,ds1,p1,q1,rfl,rfl,rfl,h1,r1⟩:=trodAll_cons r0;obtain ⟨rfl,rfl,rfl⟩:=trodAll_nil r1;obtain rfl:args=#[v0,v1]:=by cases args;simp_all
 obtain ⟨rfl,rfl⟩:=trodVars_none hV;rw [Tryz.params8] at hwt;have hT:=SG hL;have hM:=Eb hSh;have lt0:∀ x∈p0,x.block<W.heap.size:=by obtain ⟨m,hm⟩:=h0;exact DataW.trod_lt m _ _ _ hm
 obtain ⟨me0,l0,vm0,vb0,jik,jiq,jix,jiz,jj0,hm0,hb0⟩:=Xp h0.choose_spec (wZ hwt 0 25 d0 rfl rfl);obtain ⟨cv0,rfl,-⟩:=okWide_struct Tryz.underlying25 (hval 0 25 v0 rfl rfl);obtain rfl:cv0=#[vm0,vb0]:=by have h:cv0.toList=[vm0,vb0]:=jj0;cases cv0;simp_all
 obtain ⟨m1,rfl,rfl,rfl,wm1⟩:=open_int Tryz.underlying49 (hval 1 49 v1 rfl rfl) h1;clear hA0 hval0 hwt;try simp only [jrx] at hW'
 refine (EM me0 l0 vm0 vb0 m1 W hm0 hb0 jik jix jiq jiz (bounds_u16 wm1) hT.1 hT.2 hM).mono fun e W' ⟨he,gH⟩=>?_
 subst he;exact ⟨_,rfl,_,_,_,[],_,[],hW',trodAll_mk1 (shut_bool Tryz.underlying4 _),(trodAll_cons_mk (Below.trod laidOut (by kernel_rfl) (of_decide_eq_true (by kernel_rfl)) h0 gH lt0) (trodAll_cons_mk (shut_int Tryz.underlying49 wm1) trodAll_mk0)),rfl,gH.frame _,fun h=>by cases h⟩
end Go.Proofs.YtdneicipdlofiaaGreatDoor.eD

