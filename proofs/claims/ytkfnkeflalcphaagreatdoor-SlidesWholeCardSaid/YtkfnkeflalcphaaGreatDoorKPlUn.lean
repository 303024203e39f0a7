/- Plain part: what well-formed, resolved blocks give to the walk of their nodes; the plain text of nodes; their anchors. Plain part: the anchors of a page have the identifiers of its document. Plain part: slides, as the program and as the reference divide blocks. Plain part: the sections of the page with slides, as the program and as the reference cut the blocks. Plain part: the page with slides has the anchors of the page, each as often. Plain part: the page of a well-formed document is valid markup. Plain part: the page of a well-formed, resolved document is valid markup (blocks, notes, the page). Plain part: the pieces of a well-formed document are well-formed; the page with slides is valid markup. Plain part: what the walk of the nodes of blocks asks, where blocks stand that are no rows and no cells. publisherref04.Deep, List: inlines and blocks with those in them, in document order. publisherref04.List: blocks with those in them, in document order. The contract of publisherref04.Inlines: all inlines of blocks. Plain part: all inlines of blocks: theirs are among them; how large they are together; unresolved ones. -/
import Derived.Test.YtkfnkeflalcphaaGreatDoorKNdW
import Derived.Test.YtkfnkeflalcphaaGreatDoorKRfD
namespace Go.Proofs.YtkfnkeflalcphaaGreatDoor
open List renaming map_append->jk9,append_assoc->jkx
set_option linter.unusedVariables false
set_option linter.unusedSimpArgs false
mutual
def aj.tf:aj->Prop
 | .mk k t d ti a ar ci ks=>(k<2\/(12<k/\k<16)\/16<k->bg t=false)/\aj.F5 ks
def aj.F5:List aj->Prop
 | []=>True
 | x::l=>x.tf/\aj.F5 l
end
theorem NA (n:ByteArray) (a:List Pr) (ks:List Nd) (h:bg n=false):(aQ n a ks).full:=fun e=>by
 have:bg n=true:=e;rw [h] at this;cases this
theorem En (s:ByteArray) (h:bg s=false):(LX s).full:=fun _=>⟨rfl,h⟩
theorem Rb:∀ (x:aj),x.tf->x.nd.full
 | .mk k t d ti a ar ci ks,h=>by
  rw [aj.tf] at h;rw [aj.nd];by_cases h2:k=2
  ·rw [if_pos h2];exact En _ rfl
  rw [if_neg h2];by_cases h3:k=3
  ·rw [if_pos h3];exact NA _ _ _ rfl
  rw [if_neg h3];by_cases h4:k=4
  ·rw [if_pos h4];exact NA _ _ _ rfl
  rw [if_neg h4];by_cases h5:k=5
  ·rw [if_pos h5];exact NA _ _ _ rfl
  rw [if_neg h5];by_cases h6:k=6
  ·rw [if_pos h6];exact NA _ _ _ rfl
  rw [if_neg h6];by_cases h7:k=7
  ·rw [if_pos h7];exact NA _ _ _ rfl
  rw [if_neg h7];by_cases h8:k=8
  ·rw [if_pos h8];exact NA _ _ _ rfl
  rw [if_neg h8];by_cases h9:k=9
  ·rw [if_pos h9];exact NA _ _ _ rfl
  rw [if_neg h9];by_cases h10:k=10
  ·rw [if_pos h10];exact NA _ _ _ rfl
  rw [if_neg h10];by_cases h11:k=11
  ·rw [if_pos h11];exact NA _ _ _ rfl
  rw [if_neg h11];by_cases h12:k=12
  ·rw [if_pos h12];exact NA _ _ _ rfl
  rw [if_neg h12];by_cases h16:k=16
  ·rw [if_pos h16];exact NA _ _ _ rfl
  rw [if_neg h16];exact En _ (h.1 (by omega))
theorem A8:∀ (l:List aj),aj.F5 l->∀ x∈l,x.tf
 | [],_,x,hx=>by cases hx
 | y::l,h,x,hx=>by
  rw [aj.F5] at h;rcases List.mem_cons.1 hx with rfl | hx
  ·exact h.1
  ·exact A8 l h.2 x hx
theorem DV (l:List aj) (h:aj.F5 l):∀ x∈aj.Ir l,x.full:=by intro x hx;rw [pU] at hx;obtain ⟨y,hy,rfl⟩:=List.mem_map.1 hx;exact Rb y (A8 l h y hy)
theorem Mt (l:List aj) (h:aj.F5 l):jZ l=(gF (aj.Ir l)).1++bT (gF (aj.Ir l)).2:=Kc _ (DV l h)
theorem Gz {k:Int} {t d ti:ByteArray} {a:At} {ar:List ByteArray} {ci:List Ci} {ks:List aj} (h:E9 k t d ti a ar ci ks=true):1<=k/\k<=16:=by unfold E9 at h;simp only [Bool.and_eq_true,decide_eq_true_eq] at h;omega
mutual
theorem Wj:∀ (x:aj),x.src->x.deep.any iQ=false->x.tf
 | .mk k t d ti a ar ci ks,h,hu=>by
  rw [aj.src] at h;rw [aj.deep,List.any_cons,Bool.or_eq_false_iff] at hu;rw [aj.tf];refine ⟨fun hk=>?_,BK ks h.2 hu.2⟩;have h1:=h.1;unfold sZ at h1;split at h1
  ·cases h1
  ·rename_i h0
   have hf:=Gz (by simpa using h0);have hu1:=hu.1;unfold iQ at hu1;simp only [Bool.or_eq_false_iff,decide_eq_false_iff_not] at hu1;have hk1:k=1:=by omega
   rw [if_pos (.inl hk1)] at h1;split at h1
   ·cases h1
   ·rename_i h2
    cases h3:bg t
    ·rfl
    ·exact absurd (.inl h3) h2
theorem BK:∀ (l:List aj),aj.Gp l->(aj.bI l).any iQ=false->aj.F5 l
 | [],_,_=>by rw [aj.F5];trivial
 | x::l,h,hu=>by
  rw [aj.Gp] at h;rw [aj.bI,List.any_append,Bool.or_eq_false_iff] at hu;rw [aj.F5];exact ⟨Wj x h.1 hu.1,BK l h.2 hu.2⟩
end
theorem IZ (l:List aj) (h:Fj l=0) (hu:Nk l=false):aj.F5 l:=BK l (aj.vY l 0 true 0 h) hu
mutual
def ah.aY:ah->List aj
 | .mk _ _ _ _ _ _ _ li ks=>aj.bI li++ah.dx ks
def ah.dx:List ah->List aj
 | []=>[]
 | x::l=>x.aY++ah.dx l
end
mutual
def ah.hok:ah->Prop
 | .mk k lv i t d ti a li ks=>aj.F5 li/\(k=2\/k=8->0<=lv/\lv<=999999999)/\(k=10->ks≠[]/\∀ r∈ks,r.kids.length=i.size)/\(∀ c∈a.cls,bg c=false)/\(k=13->bg i=false)/\ah.ND ks
def ah.ND:List ah->Prop
 | []=>True
 | x::l=>x.hok/\ah.ND l
end
theorem I5 (s:ByteArray) (h:jD s=true):bg s=false:=by
 unfold jD at h;simp only [Bool.and_eq_true,decide_eq_true_eq] at h;unfold bg;refine decide_eq_false fun e=>?_
 have h1:s.data.toList.length=s.size:=by simp
 rw [e] at h1;simp at h1;omega
theorem NG:∀ (l seen:List ByteArray),eY seen l=0->∀ c∈l,bg c=false
 | [],_,_,c,hc=>by cases hc
 | x::l,seen,h,c,hc=>by
  rw [eY] at h;split at h
  ·cases h
  ·rename_i h1
   split at h
   ·cases h
   ·rcases List.mem_cons.1 hc with rfl | hc
    ·exact I5 _ (by simpa using h1)
    ·exact NG l _ h c hc
theorem BM (a:At) (h:a.err=0):∀ c∈a.cls,bg c=false:=by
 unfold At.err at h;split at h
 ·cases h
 ·split at h
  ·rename_i h1;exact absurd h h1
  ·rename_i h1
   exact NG a.cls [] (Classical.not_not.1 h1)
theorem NH (a:At) (h:a.none=true):∀ c∈a.cls,bg c=false:=by
 unfold At.none at h;simp only [Bool.and_eq_true] at h;have h1:a.cls=[]:=by simpa using h.1.2
 rw [h1];intro c hc;cases hc
mutual
theorem ah.I6 (cl:ByteArray->Bool):∀ (b:ah) (par:Int) (dp:Nat),b.err cl par dp=0->(b.aY).any iQ=false->b.hok
 | .mk k lv i t d ti a li ks,par,dp,h,hu=>by
  rw [ah.err] at h;rw [ah.aY,List.any_append,Bool.or_eq_false_iff] at hu;rw [ah.hok];split at h
  ·cases h
  ·split at h
   ·cases h
   ·rename_i hb
    split at h
    ·rename_i h1;exact absurd h h1
    ·rename_i h1
     have h2:=Classical.not_not.1 h1;have hbf:Cm k lv i t d ti a li ks=true:=by
      cases hx:Cm k lv i t d ti a li ks
      ·exact absurd (.inl hx) hb
      ·rfl
     unfold Cm at hbf;simp only [Bool.and_eq_true,decide_eq_true_eq] at hbf;obtain ⟨⟨⟨⟨⟨⟨⟨⟨b1,b2⟩,b3⟩,b4⟩,b5⟩,b6⟩,b7⟩,b8⟩,b9⟩:=hbf;have H9:=ah.Eo cl ks k (dp+1) h hu.2;have hli:Fj li=0:=by
      by_cases c1:k=1
      ·unfold tL at h2;rw [if_pos c1] at h2;split at h2
       ·cases h2
       ·exact h2
      by_cases c2:k=2
      ·unfold tL at h2;rw [if_neg c1,if_pos c2] at h2;split at h2
       ·cases h2
       ·split at h2
        ·rename_i h3;exact absurd h2 h3
        ·split at h2
         ·cases h2
         ·exact h2
      by_cases c3:k=12
      ·unfold tL at h2;rw [if_neg c1,if_neg c2,if_pos c3] at h2;split at h2
       ·cases h2
       ·exact h2
      ·have:li=[]:=by
        rw [Bool.or_eq_true] at b8;rcases b8 with b8 | b8
        ·simp at b8;omega
        ·simpa using b8
       rw [this];unfold Fj;rw [aj.aT]
     refine ⟨IZ li hli hu.1,?_,?_,?_,?_,H9⟩
     ·intro hk;rcases hk with rfl | rfl
      ·unfold tL at h2;rw [if_neg (by decide),if_pos rfl] at h2;split at h2
       ·cases h2
       ·omega
      ·unfold tL at h2;rw [if_neg (by decide),if_neg (by decide),if_neg (by decide),if_neg (by decide),if_neg (by decide),if_pos (.inr rfl)] at h2;split at h2
       ·cases h2
       ·split at h2
        ·cases h2
        ·rename_i h4
         constructor<;>(rcases Classical.em (lv<0) with h5 | h5<;>rcases Classical.em (999999999<lv) with h6 | h6<;>first | omega | exact absurd ⟨rfl,.inl h5⟩ h4 | exact absurd ⟨rfl,.inr h6⟩ h4)
     ·rintro rfl;unfold tL at h2;rw [if_neg (by decide),if_neg (by decide),if_neg (by decide),if_neg (by decide),if_neg (by decide),if_neg (by decide),if_pos rfl] at h2;unfold jq at h2;split at h2
      ·cases h2
      ·split at h2
       ·cases h2
       ·split at h2
        ·cases h2
        ·split at h2
         ·cases h2
         ·rename_i h5
          split at h2
          ·cases h2
          ·rename_i h6
           refine ⟨fun e=>h5 (by rw [e];rfl),fun r hr=>?_⟩;have h7:ks.any (fun b=>!decide (b.wm=i.size))=false:=by simpa using h6
           rw [List.any_eq_false] at h7;have h8:=h7 r hr;have h9:decide (r.wm=i.size)=true:=by
            cases hx:decide (r.wm=i.size)
            ·rw [hx] at h8;exact absurd rfl h8
            ·rfl
           have h10:=of_decide_eq_true h9;cases r
           exact h10
     ·by_cases c2:k=2
      ·unfold tL at h2;rw [if_neg (by omega),if_pos c2] at h2;split at h2
       ·cases h2
       ·split at h2
        ·rename_i h3;exact absurd h2 h3
        ·rename_i h3;exact BM a (Classical.not_not.1 h3)
      by_cases c4:k=4
      ·unfold tL at h2;rw [if_neg (by omega),if_neg c2,if_neg (by omega),if_neg (by omega),if_pos c4] at h2;split at h2
       ·cases h2
       ·split at h2
        ·cases h2
        ·exact BM a h2
      by_cases c13:k=13
      ·unfold tL at h2;rw [if_neg (by omega),if_neg c2,if_neg (by omega),if_neg (by omega),if_neg c4,if_neg (by omega),if_neg (by omega),if_pos (.inl c13)] at h2;split at h2
       ·cases h2
       ·exact BM a h2
      ·rw [Bool.or_eq_true] at b7;rcases b7 with b7 | b7
       ·simp at b7;omega
       ·exact NH a b7
     ·rintro rfl;unfold tL at h2;rw [if_neg (by decide),if_neg (by decide),if_neg (by decide),if_neg (by decide),if_neg (by decide),if_neg (by decide),if_neg (by decide),if_pos (.inl rfl)] at h2;split at h2
      ·cases h2
      ·rename_i h3;exact I5 i (by simpa using h3)
theorem ah.Eo (cl:ByteArray->Bool):∀ (l:List ah) (par:Int) (dp:Nat),ah.aT cl par dp l=0->(ah.dx l).any iQ=false->ah.ND l
 | [],_,_,_,_=>by rw [ah.ND];trivial
 | x::l,par,dp,h,hu=>by
  rw [ah.aT] at h;rw [ah.dx,List.any_append,Bool.or_eq_false_iff] at hu;rw [ah.ND];split at h
  ·rename_i h1;exact absurd h h1
  ·rename_i h1
   exact ⟨ah.I6 cl x par dp (Classical.not_not.1 h1) hu.1,ah.Eo cl l par dp h hu.2⟩
end
mutual
def Nd.vals (key:ByteArray):Nd->List ByteArray
 | .mk n _ a ks=>if bg n=true then [] else ((a.filter fun p=>decide (p.key=key)).map (·.val))++Nd.bU key ks
def Nd.bU (key:ByteArray):List Nd->List ByteArray
 | []=>[]
 | x::l=>x.vals key++Nd.bU key l
end
theorem zw (key:ByteArray) (l m:List Nd):Nd.bU key (l++m)=Nd.bU key l++Nd.bU key m:=by
 induction l with
 | nil=>rw [Nd.bU];rfl
 | cons x l ih=>rw [List.cons_append,Nd.bU,Nd.bU,ih,jkx]
def ah.Gc:ah->Int
 | .mk k _ _ _ _ _ _ _ _=>k
def ah.iOf:ah->ByteArray
 | .mk _ _ i _ _ _ _ _ _=>i
theorem zM (cl:ByteArray->Bool):∀ (l:List ah) (par:Int) (dp:Nat),ah.aT cl par dp l=0->∀ x∈l,gL x.Gc par=true/\∃ dp',x.err cl par dp'=0
 | [],_,_,_,x,hx=>by cases hx
 | b::l,par,dp,h,x,hx=>by
  rw [ah.aT] at h;split at h
  ·rename_i h1;exact absurd h h1
  ·rename_i h1
   rcases List.mem_cons.1 hx with rfl | hx
   ·have h2:=Classical.not_not.1 h1;refine ⟨?_,dp,h2⟩;obtain ⟨k,lv,i,t,d,ti,a,li,ks⟩:=x;rw [ah.err] at h2;split at h2
    ·cases h2
    ·split at h2
     ·cases h2
     ·rename_i h3
      show gL k par=true;cases h4:gL k par
      ·exact absurd (.inr h4) h3
      ·rfl
   ·exact zM cl l par dp h x hx
structure Sl where
 ti:List aj
 bl:List ah
def qL (b:ah):Bool:=match b with
 | .mk k lv _ _ _ _ _ _ _=>decide (k=2)&&(decide (lv=1)||decide (lv=2))
def iy (b:ah):Bool:=decide (b.Gc=5)||qL b
def ah.ZM:ah->List aj
 | .mk _ _ _ _ _ _ _ li _=>li
def jr (out:List Sl) (b:ah):List Sl:=
 if iy b=true then out++[⟨if b.Gc=5 then [] else b.ZM,[]⟩]
 else match out.getLast? with
  | some s=>out.dropLast++[⟨s.ti,s.bl++[b]⟩]
  | none=>[⟨[],[b]⟩]
def slR (l:List ah):List Sl:=l.foldl jr []
structure Pt where
 ti:Bool
 bl:List ah
structure tC where
 all:List Pt
 op:Pt
 some_:Bool
def dN (s:tC):tC:=⟨if s.some_=true then s.all++[s.op] else s.all,⟨false,[]⟩,true⟩
def q0z (s:tC) (b:ah):tC:=
 if iy b=true then (if qL b=true then ⟨(dN s).all,⟨true,[b]⟩,true⟩ else ⟨(dN s).all,⟨false,[]⟩,true⟩)
 else ⟨s.all,⟨s.op.ti,s.op.bl++[b]⟩,true⟩
def qj:tC:=⟨[],⟨false,[]⟩,false⟩
def lZ (l:List ah):tC:=l.foldl q0z qj
def dW (l:List ah):List Pt:=(dN (lZ l)).all
def jV (p:Pt):Sl:=if p.ti=true then ⟨match p.bl with | b::_=>b.ZM | []=>[],p.bl.tail⟩ else ⟨[],p.bl⟩
def XR (l:List ah):List Sl:=(dW l).map jV
def NJ (p:Pt):Prop:=p.ti=true->∃ b t,p.bl=b::t/\qL b=true
theorem TM (b:ah) (h:qL b=true):b.Gc=2:=by obtain ⟨k,lv,i,t,d,ti,a,li,ks⟩:=b;unfold qL at h;simp only [Bool.and_eq_true,decide_eq_true_eq] at h;exact h.1
structure Ep (s:tC):Prop where
 op:NJ s.op
 no:s.some_=false->s.all=[]/\s.op=⟨false,[]⟩
 al:∀ p∈s.all,NJ p
theorem GA (s:tC) (h:Ep s):∀ p∈(dN s).all,NJ p:=by
 unfold dN;split
 ·intro p hp;rcases List.mem_append.1 hp with hp | hp
  ·exact h.al p hp
  ·simp at hp;subst hp;exact h.op
 ·exact h.al
theorem I7 (s:tC) (b:ah) (h:Ep s):Ep (q0z s b):=by
 unfold q0z;split
 ·split
  ·rename_i ht
   exact ⟨(fun _=>⟨b,[],rfl,ht⟩),(fun e=>by cases e),GA s h⟩
  ·exact ⟨(fun e=>by cases e),(fun e=>by cases e),GA s h⟩
 ·refine ⟨fun e=>?_,(fun e=>by cases e),h.al⟩;obtain ⟨c,t,h1,h2⟩:=h.op e;exact ⟨c,t++[b],by show s.op.bl++[b]=_;rw [h1];rfl,h2⟩
theorem I8:∀ (l:List ah) (s:tC),Ep s->Ep (l.foldl q0z s)
 | [],s,h=>h
 | b::l,s,h=>by rw [List.foldl_cons];exact I8 l _ (I7 s b h)
theorem ps0:Ep qj:=⟨(fun e=>by cases e),(fun _=>⟨rfl,rfl⟩),(fun p hp=>by cases hp)⟩
theorem Wm (p:Pt) (b:ah) (h:NJ p):jV ⟨p.ti,p.bl++[b]⟩=⟨(jV p).ti,(jV p).bl++[b]⟩:=by
 unfold jV;by_cases ht:p.ti=true
 ·obtain ⟨c,t,h1,h2⟩:=h ht;rw [if_pos ht,if_pos ht,h1];rfl
 ·rw [if_neg ht,if_neg ht]
def ZO (s:tC):List Sl:=(dN s).all.map jV
theorem Rc (s:tC) (b:ah) (h:Ep s):ZO (q0z s b)=jr (ZO s) b:=by
 unfold ZO;by_cases hb:iy b=true
 ·unfold q0z jr;rw [if_pos hb,if_pos hb];by_cases ht:qL b=true
  ·rw [if_pos ht];have hk:=TM b ht;have e1:(dN ⟨(dN s).all,⟨true,[b]⟩,true⟩).all=(dN s).all++[⟨true,[b]⟩]:=rfl;rw [e1,jk9,List.map_singleton,if_neg (by omega)];rfl
  ·rw [if_neg ht];have hk:b.Gc=5:=by
    unfold iy at hb;rw [Bool.or_eq_true] at hb;rcases hb with hb | hb
    ·exact of_decide_eq_true hb
    ·exact absurd hb ht
   have e1:(dN ⟨(dN s).all,⟨false,[]⟩,true⟩).all=(dN s).all++[⟨false,[]⟩]:=rfl;rw [e1,jk9,List.map_singleton,if_pos hk];rfl
 ·unfold q0z jr;rw [if_neg hb,if_neg hb];have e1:(dN ⟨s.all,⟨s.op.ti,s.op.bl++[b]⟩,true⟩).all=s.all++[⟨s.op.ti,s.op.bl++[b]⟩]:=rfl;rw [e1,jk9,List.map_singleton,Wm s.op b h.op];cases hs:s.some_ with
  | true=>
   have e2:(dN s).all=s.all++[s.op]:=by unfold dN;rw [if_pos hs]
   rw [e2,jk9,List.map_singleton,List.getLast?_append];simp
  | false=>
   obtain ⟨h1,h2⟩:=h.no hs;have e2:(dN s).all=[]:=by unfold dN;rw [if_neg (by rw [hs];simp),h1]
   rw [e2,h1,h2];rfl
theorem I9:∀ (l:List ah) (s:tC),Ep s->ZO (l.foldl q0z s)=l.foldl jr (ZO s)
 | [],s,_=>rfl
 | b::l,s,h=>by rw [List.foldl_cons,List.foldl_cons,I9 l _ (I7 s b h),Rc s b h]
theorem NK (l:List ah):XR l=slR l:=I9 l qj ps0
def fE (l:List ah):List ah:=l.filter fun b=>!iy b
def kR (l:List ah):Nat:=(l.filter iy).length
theorem GD (out:List Sl) (b:ah):(jr out b).flatMap (·.bl)=out.flatMap (·.bl)++(if iy b=true then [] else [b]):=by
 unfold jr;split
 ·rw [List.flatMap_append];simp
 ·cases hg:out.getLast? with
  | none=>
   simp only;have:out=[]:=by simpa using hg
   rw [this];rfl
  | some s=>
   simp only;have e:=wo hg
   conv=>rhs;rw [e]
   rw [List.flatMap_append,List.flatMap_append];simp
theorem wJ:∀ (l:List ah) (out:List Sl),(l.foldl jr out).flatMap (·.bl)=out.flatMap (·.bl)++fE l
 | [],out=>by simp [fE]
 | b::l,out=>by
  rw [List.foldl_cons,wJ l,GD,jkx];congr 1;unfold fE;rw [List.filter_cons];cases iy b<;>simp
theorem NP (l:List ah):(slR l).flatMap (·.bl)=fE l:=by have:=wJ l [];rw [List.flatMap_nil,List.nil_append] at this;exact this
theorem NQ (out:List Sl) (b:ah):(jr out b).length=if iy b=true then out.length+1 else if out.isEmpty=true then 1 else out.length:=by
 unfold jr;split
 ·simp
 ·cases hg:out.getLast? with
  | none=>
   have:out=[]:=by simpa using hg
   rw [this];rfl
  | some s=>
   have e:=wo hg;have h0:out≠[]:=by rintro rfl;simp at hg
   have h1:out.isEmpty=false:=by cases out;exact absurd rfl h0;rfl
   simp only [h1];rw [List.length_append,List.length_dropLast];have:0<out.length:=List.length_pos_iff.2 h0;simp;omega
theorem Er:∀ (l:List ah) (out:List Sl),(out≠[]->(l.foldl jr out).length=out.length+kR l)/\(out=[]->(l.foldl jr out).length=kR l\/(l.foldl jr out).length=kR l+1)
 | [],out=>⟨fun _=>by simp [kR],fun h=>by rw [h];left;rfl⟩
 | b::l,out=>by
  have hs:=NQ out b;have hne:jr out b≠[]:=by
   intro e;rw [e] at hs;simp at hs;split at hs
   ·omega
   ·split at hs
    ·omega
    ·rename_i h1 h2
     have:out=[]:=List.eq_nil_of_length_eq_zero (by simpa using hs.symm);rw [this] at h2;exact h2 rfl
  have h1:=(Er l (jr out b)).1 hne;have hc:kR (b::l)=(if iy b=true then 1 else 0)+kR l:=by unfold kR;rw [List.filter_cons];cases iy b<;>simp;omega
  rw [List.foldl_cons];constructor
  ·intro h0;have h2:out.isEmpty=false:=by cases out;exact absurd rfl h0;rfl
   rw [h1,hs,hc,h2];cases iy b<;>simp;omega
  ·intro h0;rw [h1,hs,hc,h0];cases iy b
   ·right;simp<;>omega
   ·left;simp<;>omega
theorem Wn (l:List ah):(slR l).length=kR l\/(slR l).length=kR l+1:=(Er l []).2 rfl
def goB (b:ah):Bool:=!iy b
def tH:List ah->List (List ah)
 | []=>[]
 | b::l=>(b::l.takeWhile goB)::tH (l.dropWhile goB)
termination_by l=>l.length
decreasing_by
 have:∀ (l:List ah),(l.dropWhile goB).length<=l.length:=by
  intro l;induction l with
  | nil=>simp
  | cons x l ih=>rw [List.dropWhile_cons];split<;>simp<;>omega
 have:=this l;simp only [List.length_cons];omega
theorem ql:tH []=[]:=by rw [tH]
theorem qV (b:ah) (l:List ah):tH (b::l)=(b::l.takeWhile goB)::tH (l.dropWhile goB):=by rw [tH]
def jW (s:List ah):List ah:=match s with
 | b::l=>if b.Gc=5 then l else b::l
 | []=>[]
def qm (s:List ah):Pt:=match s with
 | b::l=>if qL b=true then ⟨true,b::l⟩ else if b.Gc=5 then ⟨false,l⟩ else ⟨false,b::l⟩
 | []=>⟨false,[]⟩
theorem tY (s:List ah):(qm s).bl=jW s:=by
 unfold qm jW;cases s with
 | nil=>rfl
 | cons b l=>
  simp only;by_cases ht:qL b=true
  ·have:=TM b ht;rw [if_pos ht,if_neg (by omega)]
  ·rw [if_neg ht];split<;>rfl
theorem NR {b:ah}:goB b=true↔¬ iy b=true:=by unfold goB;cases iy b<;>simp
theorem qW:∀ (l:List ah) (s:tC),s.some_=true->(dN (l.foldl q0z s)).all=s.all++⟨s.op.ti,s.op.bl++l.takeWhile goB⟩::(tH (l.dropWhile goB)).map qm
 | [],s,hs=>by
  rw [List.foldl_nil,List.takeWhile_nil,List.dropWhile_nil,ql,List.append_nil];unfold dN;rw [if_pos hs];rfl
 | b::l,s,hs=>by
  rw [List.foldl_cons,List.takeWhile_cons,List.dropWhile_cons];by_cases hb:iy b=true
  ·have hg:¬ goB b=true:=fun h=>NR.1 h hb
   rw [if_neg hg,if_neg hg,List.append_nil,qV,List.map_cons];have hfin:(dN s).all=s.all++[s.op]:=by unfold dN;rw [if_pos hs]
   by_cases ht:qL b=true
   ·have e1:q0z s b=⟨s.all++[s.op],⟨true,[b]⟩,true⟩:=by unfold q0z;rw [if_pos hb,if_pos ht,hfin]
    rw [e1,qW l _ rfl];have e2:qm (b::l.takeWhile goB)=⟨true,b::l.takeWhile goB⟩:=by unfold qm;simp only;rw [if_pos ht]
    rw [e2,jkx];rfl
   ·have hk:b.Gc=5:=by
     unfold iy at hb;rw [Bool.or_eq_true] at hb;rcases hb with hb | hb
     ·exact of_decide_eq_true hb
     ·exact absurd hb ht
    have e1:q0z s b=⟨s.all++[s.op],⟨false,[]⟩,true⟩:=by unfold q0z;rw [if_pos hb,if_neg ht,hfin]
    rw [e1,qW l _ rfl];have e2:qm (b::l.takeWhile goB)=⟨false,l.takeWhile goB⟩:=by unfold qm;simp only;rw [if_neg ht,if_pos hk]
    rw [e2,jkx];rfl
  ·have hg:goB b=true:=NR.2 hb;rw [if_pos hg,if_pos hg];have e1:q0z s b=⟨s.all,⟨s.op.ti,s.op.bl++[b]⟩,true⟩:=by unfold q0z;rw [if_neg hb]
   rw [e1,qW l _ rfl,jkx];rfl
theorem qo (l:List ah):dW l=(tH l).map qm:=by
 unfold dW lZ;cases l with
 | nil=>rw [ql];rfl
 | cons b l=>
  rw [List.foldl_cons,qV,List.map_cons];by_cases hb:iy b=true
  ·by_cases ht:qL b=true
   ·have e1:q0z qj b=⟨[],⟨true,[b]⟩,true⟩:=by unfold q0z;rw [if_pos hb,if_pos ht];rfl
    have e2:qm (b::l.takeWhile goB)=⟨true,b::l.takeWhile goB⟩:=by unfold qm;simp only;rw [if_pos ht]
    rw [e1,qW l _ rfl,e2];rfl
   ·have hk:b.Gc=5:=by
     unfold iy at hb;rw [Bool.or_eq_true] at hb;rcases hb with hb | hb
     ·exact of_decide_eq_true hb
     ·exact absurd hb ht
    have e1:q0z qj b=⟨[],⟨false,[]⟩,true⟩:=by unfold q0z;rw [if_pos hb,if_neg ht];rfl
    have e2:qm (b::l.takeWhile goB)=⟨false,l.takeWhile goB⟩:=by unfold qm;simp only;rw [if_neg ht,if_pos hk]
    rw [e1,qW l _ rfl,e2];rfl
  ·have e1:q0z qj b=⟨[],⟨false,[b]⟩,true⟩:=by unfold q0z;rw [if_neg hb];rfl
   have ht:¬ qL b=true:=fun h=>hb (by unfold iy;rw [h,Bool.or_true])
   have hk:¬ b.Gc=5:=fun h=>hb (by unfold iy;rw [decide_eq_true h];rfl)
   have e2:qm (b::l.takeWhile goB)=⟨false,b::l.takeWhile goB⟩:=by unfold qm;simp only;rw [if_neg ht,if_neg hk]
   rw [e1,qW l _ rfl,e2];rfl
def BO:ByteArray:=⟨#[115,108,105,100,101]⟩
def tJ (bl:List ah):Nd:=aQ eH [⟨iw,BO⟩] (eG bl)
def NS (l:List ah):List Nd:=(tH l).map fun s=>tJ (jW s)
theorem lQ (l:List ah):(dW l).map (fun p=>tJ p.bl)=NS l:=by
 rw [qo,List.map_map];unfold NS;congr 1
 funext s
 simp [tY]
theorem qX (n:Nat):∀ (l:List ah),l.length<=n->(tH l).flatten=l:=by
 induction n with
 | zero=>intro l hl;rw [List.eq_nil_of_length_eq_zero (Nat.le_zero.1 hl),ql];rfl
 | succ n ih=>
  intro l hl;cases l with
  | nil=>rw [ql];rfl
  | cons b l=>
   rw [List.length_cons] at hl;have:(l.dropWhile goB).length<=l.length:=by have h:=congrArg List.length (List.takeWhile_append_dropWhile (p:=goB) (l:=l));rw [List.length_append] at h;omega
   rw [qV,List.flatten_cons,ih _ (by omega),List.cons_append,List.takeWhile_append_dropWhile]
theorem LZ (n m:Nat) (h:n<10 ^ (m+1)):(Lib.decDigits n).length<=m+1:=by
 induction m generalizing n with
 | zero=>
  rw [Lib.decDigits,dif_pos (by simpa using h)];simp
 | succ m ih=>
  rw [Lib.decDigits];split
  ·simp
  ·rw [List.length_append,List.length_singleton];have:=ih (n/10) (by
    rw [Nat.div_lt_iff_lt_mul (by decide)];have e:10 ^ (m+1+1)=10 ^ (m+1)*10:=Nat.pow_succ ..;omega)
   omega
theorem kG (cl:ByteArray->Bool) {k lv:Int} {i t d ti:ByteArray} {a:At} {li:List aj} {ks:List ah} {par:Int} {dp:Nat} (h:(ah.mk k lv i t d ti a li ks).err cl par dp=0) : tL cl k lv i t d ti a li ks=0/\Cm k lv i t d ti a li ks=true/\ah.aT cl k (dp+1) ks=0:=by
 rw [ah.err] at h;split at h
 ·cases h
 ·split at h
  ·cases h
  ·rename_i hb
   split at h
   ·rename_i h1;exact absurd h h1
   ·rename_i h1
    refine ⟨Classical.not_not.1 h1,?_,h⟩;cases hx:Cm k lv i t d ti a li ks
    ·exact absurd (.inl hx) hb
    ·rfl
theorem NU (cl:ByteArray->Bool) {k lv:Int} {i t d ti:ByteArray} {a:At} {li:List aj} {ks:List ah} (h2:tL cl k lv i t d ti a li ks=0) (hbf:Cm k lv i t d ti a li ks=true):Fj li=0:=by
 unfold tL at h2;by_cases c1:k=1
 ·rw [if_pos c1] at h2;split at h2
  ·cases h2
  ·exact h2
 rw [if_neg c1] at h2;by_cases c2:k=2
 ·rw [if_pos c2] at h2;split at h2
  ·cases h2
  ·split at h2
   ·rename_i h3;exact absurd h2 h3
   ·split at h2
    ·cases h2
    ·exact h2
 rw [if_neg c2] at h2;by_cases c3:k=12
 ·rw [if_pos c3] at h2;split at h2
  ·cases h2
  ·exact h2
 ·have:li=[]:=by
   unfold Cm at hbf;simp only [Bool.and_eq_true] at hbf;have b8:=hbf.1.2;rw [Bool.or_eq_true] at b8;rcases b8 with b8 | b8
   ·simp at b8;omega
   ·simpa using b8
  rw [this];unfold Fj;rw [aj.aT]
theorem mY (cl:ByteArray->Bool) (par:Int) (dp:Nat):∀ (l:List ah),ah.aT cl par dp l=0↔∀ b∈l,b.err cl par dp=0
 | []=>by rw [ah.aT];exact ⟨fun _ b hb=>(by cases hb),fun _=>rfl⟩
 | x::l=>by
  rw [ah.aT];by_cases h:x.err cl par dp=0
  ·rw [if_neg (by simp [h]),mY cl par dp l];constructor
   ·intro h1 b hb;rcases List.mem_cons.1 hb with rfl | hb
    ·exact h
    ·exact h1 b hb
   ·exact fun h1 b hb=>h1 b (List.mem_cons_of_mem _ hb)
  ·rw [if_pos h];exact ⟨fun h1=>absurd h1 h,fun h1=>absurd (h1 x (List.mem_cons_self ..)) h⟩
theorem tZ:∀ (l:List ah),(ah.dx l).any iQ=false↔∀ b∈l,b.aY.any iQ=false
 | []=>by rw [ah.dx];exact ⟨fun _ b hb=>(by cases hb),fun _=>rfl⟩
 | x::l=>by
  rw [ah.dx,List.any_append,Bool.or_eq_false_iff,tZ l];constructor
  ·rintro ⟨h1,h2⟩ b hb;rcases List.mem_cons.1 hb with rfl | hb
   ·exact h1
   ·exact h2 b hb
  ·exact fun h=>⟨h x (List.mem_cons_self ..),fun b hb=>h b (List.mem_cons_of_mem _ hb)⟩
theorem GH (s:List ah):∀ b∈jW s,b∈s:=by
 unfold jW;cases s with
 | nil=>exact fun b hb=>hb
 | cons x l=>
  simp only;split
  ·exact fun b hb=>List.mem_cons_of_mem _ hb
  ·exact fun b hb=>hb
theorem Ja (l:List ah):∀ s∈tH l,∀ b∈jW s,b∈l:=by intro s hs b hb;have hf:=qX l.length l (Nat.le_refl _);rw [<- hf];exact List.mem_flatten.2 ⟨s,hs,GH s b hb⟩
theorem Wo (cl:ByteArray->Bool) (l:List ah) (h:ah.aT cl 0 0 l=0) (hu:(ah.dx l).any iQ=false) (s:List ah) (hs:s∈tH l) : ah.aT cl 0 0 (jW s)=0/\(ah.dx (jW s)).any iQ=false:=
 ⟨(mY cl 0 0 _).2 fun b hb=>(mY cl 0 0 l).1 h b (Ja l s hs b hb),(tZ _).2 fun b hb=>(tZ l).1 hu b (Ja l s hs b hb)⟩
mutual
def ah.Mk:ah->Prop
 | .mk k lv i t d ti a li ks=>aj.F5 li/\(k=2\/k=8->0<=lv/\lv<=999999999)/\(k=10->ks≠[]/\∀ r∈ks,r.kids.length=i.size/\∀ c∈r.kids,aj.F5 c.mE)/\(∀ c∈a.cls,bg c=false)/\(k=13->bg i=false)/\k≠11/\k≠12/\(k≠10->ah.su ks)
def ah.su:List ah->Prop
 | []=>True
 | x::l=>x.Mk/\ah.su l
end
theorem Jb:∀ (l:List ah),(ah.dx l).any iQ=false->∀ b∈l,Nk b.mE=false/\(ah.dx b.kids).any iQ=false:=by intro l h b hb;have h1:=(tZ l).1 h b hb;obtain ⟨k,lv,i,t,d,ti,a,li,ks⟩:=b;rw [ah.aY,List.any_append,Bool.or_eq_false_iff] at h1;exact h1
mutual
theorem ah.NV (cl:ByteArray->Bool):∀ (b:ah) (par:Int) (dp:Nat),par≠10->par≠11->gL b.Gc par=true->b.err cl par dp=0->(b.aY).any iQ=false->b.Mk
 | .mk k lv i t d ti a li ks,par,dp,hp0,hp1,hpl,h,hu=>by
  have hh:=ah.I6 cl _ par dp h hu;obtain ⟨h2,hbf,h3⟩:=kG cl h;rw [ah.hok] at hh;obtain ⟨g1,g2,g3,g4,g5,g6⟩:=hh;rw [ah.aY,List.any_append,Bool.or_eq_false_iff] at hu;have hk:k≠11/\k≠12:=by
   have hpl':gL k par=true:=hpl;unfold gL at hpl';split at hpl'
   ·have:=of_decide_eq_true hpl';omega
   ·(try rw [if_neg hp0,if_neg hp1] at hpl')
    simp at hpl';omega
  rw [ah.Mk];refine ⟨g1,g2,fun h10=>?_,g4,g5,hk.1,hk.2,fun h10=>ah.nN cl ks k (dp+1) h10 hk.1 h3 hu.2⟩;obtain ⟨q1,q2⟩:=g3 h10;refine ⟨q1,fun r hr=>⟨q2 r hr,fun c hc=>?_⟩⟩;have r1:=(mY cl k (dp+1) ks).1 h3 r hr;have r2:=Jb ks hu.2 r hr;obtain ⟨k',TN,i',t',d',Kn,a',ZP,ks'⟩:=r;obtain ⟨-,-,s3⟩:=kG cl r1;have c1:=(mY cl k' (dp+1+1) ks').1 s3 c hc;have c2:=Jb ks' r2.2 c hc;obtain ⟨k9,lv9,i9,t9,d9,ti9,a9,li9,ks9⟩:=c;obtain ⟨u1,u2,-⟩:=kG cl c1;exact IZ li9 (NU cl u1 u2) c2.1
theorem ah.nN (cl:ByteArray->Bool):∀ (l:List ah) (par:Int) (dp:Nat),par≠10->par≠11->ah.aT cl par dp l=0->(ah.dx l).any iQ=false->ah.su l
 | [],_,_,_,_,_,_=>by rw [ah.su];trivial
 | x::l,par,dp,hp0,hp1,h,hu=>by
  have hpl:=(zM cl (x::l) par dp h x (List.mem_cons_self ..)).1;rw [ah.aT] at h;rw [ah.dx,List.any_append,Bool.or_eq_false_iff] at hu;rw [ah.su];split at h
  ·rename_i h1;exact absurd h h1
  ·rename_i h1
   exact ⟨ah.NV cl x par dp hp0 hp1 hpl (Classical.not_not.1 h1) hu.1,ah.nN cl l par dp hp0 hp1 h hu.2⟩
end
open Go.RowKit
theorem Rf:(Tryz.prog.info? 48).map (fun i=>(i.zero,i.size,i.bytes))=some (some (.agg #[.int .i64 0,.int .i64 0,.string ByteArray.empty,.string ByteArray.empty,.string ByteArray.empty,.string ByteArray.empty,.string ByteArray.empty,.slice none 0 0,.slice none 0 0,.slice none 0 0,.slice none 0 0]),11,192):=by kernel_rfl
section
variable {T:TypeId} {k B:Nat} {w0 w w1 w2:World} {ds es:List D} {rows bR:List (List Value)} {v v':Value}
end
open Go.RowKit
open Go.RowKit
mutual
theorem ah.NW:∀ (b:ah),b.aY=b.inls
 | .mk k lv i t d ti a li ks=>by rw [ah.aY,ah.inls,ah.jd ks]
theorem ah.jd:∀ (l:List ah),ah.dx l=ah.aU l
 | []=>by rw [ah.dx,ah.aU]
 | x::l=>by rw [ah.dx,ah.aU,ah.NW x,ah.jd l]
end
end Go.Proofs.YtkfnkeflalcphaaGreatDoor

