/- Plain part: what well-formed, resolved blocks give to the walk of their nodes; the plain text of nodes; their anchors. Plain part: the anchors of a page have the identifiers of its document. Plain part: slides, as the program and as the reference divide blocks. Plain part: the sections of the page with slides, as the program and as the reference cut the blocks. Plain part: the page with slides has the anchors of the page, each as often. Plain part: the page of a well-formed document is valid markup. Plain part: the page of a well-formed, resolved document is valid markup (blocks, notes, the page). Plain part: the pieces of a well-formed document are well-formed; the page with slides is valid markup. Plain part: what the walk of the nodes of blocks asks, where blocks stand that are no rows and no cells. publisherref04.Deep, List: inlines and blocks with those in them, in document order. publisherref04.List: blocks with those in them, in document order. The contract of publisherref04.Inlines: all inlines of blocks. Plain part: all inlines of blocks: theirs are among them; how large they are together; unresolved ones. -/
import Derived.Test.YtkfnkeflalcphaaGreatDoorKNdW
namespace Go.Proofs.YtkfnkeflalcphaaGreatDoor
open List renaming map_append->jl7,append_assoc->jlk
set_option linter.unusedVariables false
set_option linter.unusedSimpArgs false
mutual
def aj.tf:aj->Prop
 | .mk k t d ti a ar ci ks=>(k<2\/(12<k/\k<16)\/16<k->aZ t=false)/\aj.Gd ks
def aj.Gd:List aj->Prop
 | []=>True
 | x::l=>x.tf/\aj.Gd l
end
theorem q24 (n:ByteArray) (a:List Pr) (ks:List Nd) (h:aZ n=false):(aP n a ks).full:=fun e=>by
 have:aZ n=true:=e;rw [h] at this;cases this
theorem Es (s:ByteArray) (h:aZ s=false):(Mj s).full:=fun _=>⟨rfl,h⟩
theorem Rt:∀ (x:aj),x.tf->x.nd.full
 | .mk k t d ti a ar ci ks,h=>by
  rw [aj.tf] at h;rw [aj.nd];by_cases h2:k=2
  ·rw [if_pos h2];exact Es _ rfl
  rw [if_neg h2];by_cases h3:k=3
  ·rw [if_pos h3];exact q24 _ _ _ rfl
  rw [if_neg h3];by_cases h4:k=4
  ·rw [if_pos h4];exact q24 _ _ _ rfl
  rw [if_neg h4];by_cases h5:k=5
  ·rw [if_pos h5];exact q24 _ _ _ rfl
  rw [if_neg h5];by_cases h6:k=6
  ·rw [if_pos h6];exact q24 _ _ _ rfl
  rw [if_neg h6];by_cases h7:k=7
  ·rw [if_pos h7];exact q24 _ _ _ rfl
  rw [if_neg h7];by_cases h8:k=8
  ·rw [if_pos h8];exact q24 _ _ _ rfl
  rw [if_neg h8];by_cases h9:k=9
  ·rw [if_pos h9];exact q24 _ _ _ rfl
  rw [if_neg h9];by_cases h10:k=10
  ·rw [if_pos h10];exact q24 _ _ _ rfl
  rw [if_neg h10];by_cases h11:k=11
  ·rw [if_pos h11];exact q24 _ _ _ rfl
  rw [if_neg h11];by_cases h12:k=12
  ·rw [if_pos h12];exact q24 _ _ _ rfl
  rw [if_neg h12];by_cases h16:k=16
  ·rw [if_pos h16];exact q24 _ _ _ rfl
  rw [if_neg h16];exact Es _ (h.1 (by omega))
theorem Bg:∀ (l:List aj),aj.Gd l->∀ x∈l,x.tf
 | [],_,x,hx=>by cases hx
 | y::l,h,x,hx=>by
  rw [aj.Gd] at h;rcases List.mem_cons.1 hx with rfl | hx
  ·exact h.1
  ·exact Bg l h.2 x hx
theorem DY (l:List aj) (h:aj.Gd l):∀ x∈aj.IJ l,x.full:=by intro x hx;rw [pR] at hx;obtain ⟨y,hy,rfl⟩:=List.mem_map.1 hx;exact Rt y (Bg l h y hy)
theorem MN (l:List aj) (h:aj.Gd l):jY l=(gy (aj.IJ l)).1++bS (gy (aj.IJ l)).2:=KE _ (DY l h)
theorem Gy {k:Int} {t d ti:ByteArray} {a:At} {ar:List ByteArray} {ci:List Ci} {ks:List aj} (h:q0z k t d ti a ar ci ks=true):1<=k/\k<=16:=by unfold q0z at h;simp only [Bool.and_eq_true,decide_eq_true_eq] at h;omega
mutual
theorem Wt:∀ (x:aj),x.src->x.deep.any iM=false->x.tf
 | .mk k t d ti a ar ci ks,h,hu=>by
  rw [aj.src] at h;rw [aj.deep,List.any_cons,Bool.or_eq_false_iff] at hu;rw [aj.tf];refine ⟨fun hk=>?_,BP ks h.2 hu.2⟩;have h1:=h.1;unfold tF at h1;split at h1
  ·cases h1
  ·rename_i h0
   have hf:=Gy (by simpa using h0);have hu1:=hu.1;unfold iM at hu1;simp only [Bool.or_eq_false_iff,decide_eq_false_iff_not] at hu1;have hk1:k=1:=by omega
   rw [if_pos (.inl hk1)] at h1;split at h1
   ·cases h1
   ·rename_i h2
    cases h3:aZ t
    ·rfl
    ·exact absurd (.inl h3) h2
theorem BP:∀ (l:List aj),aj.Gu l->(aj.bI l).any iM=false->aj.Gd l
 | [],_,_=>by rw [aj.Gd];trivial
 | x::l,h,hu=>by
  rw [aj.Gu] at h;rw [aj.bI,List.any_append,Bool.or_eq_false_iff] at hu;rw [aj.Gd];exact ⟨Wt x h.1 hu.1,BP l h.2 hu.2⟩
end
theorem Jb (l:List aj) (h:Fz l=0) (hu:NG l=false):aj.Gd l:=BP l (aj.wI l 0 true 0 h) hu
mutual
def ah.aV:ah->List aj
 | .mk _ _ _ _ _ _ _ li ks=>aj.bI li++ah.dw ks
def ah.dw:List ah->List aj
 | []=>[]
 | x::l=>x.aV++ah.dw l
end
mutual
def ah.hok:ah->Prop
 | .mk k lv i t d ti a li ks=>aj.Gd li/\(k=2\/k=8->0<=lv/\lv<=999999999)/\(k=10->ks≠[]/\∀ r∈ks,r.kids.length=i.size)/\(∀ c∈a.cls,aZ c=false)/\(k=13->aZ i=false)/\ah.NY ks
def ah.NY:List ah->Prop
 | []=>True
 | x::l=>x.hok/\ah.NY l
end
theorem Jc (s:ByteArray) (h:jB s=true):aZ s=false:=by
 unfold jB at h;simp only [Bool.and_eq_true,decide_eq_true_eq] at h;unfold aZ;refine decide_eq_false fun e=>?_
 have h1:s.data.toList.length=s.size:=by simp
 rw [e] at h1;simp at h1;omega
theorem NZ:∀ (l seen:List ByteArray),eY seen l=0->∀ c∈l,aZ c=false
 | [],_,_,c,hc=>by cases hc
 | x::l,seen,h,c,hc=>by
  rw [eY] at h;split at h
  ·cases h
  ·rename_i h1
   split at h
   ·cases h
   ·rcases List.mem_cons.1 hc with rfl | hc
    ·exact Jc _ (by simpa using h1)
    ·exact NZ l _ h c hc
theorem BQ (a:At) (h:a.err=0):∀ c∈a.cls,aZ c=false:=by
 unfold At.err at h;split at h
 ·cases h
 ·split at h
  ·rename_i h1;exact absurd h h1
  ·rename_i h1
   exact NZ a.cls [] (Classical.not_not.1 h1)
theorem N7 (a:At) (h:a.none=true):∀ c∈a.cls,aZ c=false:=by
 unfold At.none at h;simp only [Bool.and_eq_true] at h;have h1:a.cls=[]:=by simpa using h.1.2
 rw [h1];intro c hc;cases hc
mutual
theorem ah.Jd (cl:ByteArray->Bool):∀ (b:ah) (par:Int) (dp:Nat),b.err cl par dp=0->(b.aV).any iM=false->b.hok
 | .mk k lv i t d ti a li ks,par,dp,h,hu=>by
  rw [ah.err] at h;rw [ah.aV,List.any_append,Bool.or_eq_false_iff] at hu;rw [ah.hok];split at h
  ·cases h
  ·split at h
   ·cases h
   ·rename_i hb
    split at h
    ·rename_i h1;exact absurd h h1
    ·rename_i h1
     have h2:=Classical.not_not.1 h1;have hbf:Cq k lv i t d ti a li ks=true:=by
      cases hx:Cq k lv i t d ti a li ks
      ·exact absurd (.inl hx) hb
      ·rfl
     unfold Cq at hbf;simp only [Bool.and_eq_true,decide_eq_true_eq] at hbf;obtain ⟨⟨⟨⟨⟨⟨⟨⟨b1,b2⟩,b3⟩,b4⟩,b5⟩,b6⟩,b7⟩,b8⟩,b9⟩:=hbf;have Ij:=ah.Et cl ks k (dp+1) h hu.2;have hli:Fz li=0:=by
      by_cases c1:k=1
      ·unfold tX at h2;rw [if_pos c1] at h2;split at h2
       ·cases h2
       ·exact h2
      by_cases c2:k=2
      ·unfold tX at h2;rw [if_neg c1,if_pos c2] at h2;split at h2
       ·cases h2
       ·split at h2
        ·rename_i h3;exact absurd h2 h3
        ·split at h2
         ·cases h2
         ·exact h2
      by_cases c3:k=12
      ·unfold tX at h2;rw [if_neg c1,if_neg c2,if_pos c3] at h2;split at h2
       ·cases h2
       ·exact h2
      ·have:li=[]:=by
        rw [Bool.or_eq_true] at b8;rcases b8 with b8 | b8
        ·simp at b8;omega
        ·simpa using b8
       rw [this];unfold Fz;rw [aj.aR]
     refine ⟨Jb li hli hu.1,?_,?_,?_,?_,Ij⟩
     ·intro hk;rcases hk with rfl | rfl
      ·unfold tX at h2;rw [if_neg (by decide),if_pos rfl] at h2;split at h2
       ·cases h2
       ·omega
      ·unfold tX at h2;rw [if_neg (by decide),if_neg (by decide),if_neg (by decide),if_neg (by decide),if_neg (by decide),if_pos (.inr rfl)] at h2;split at h2
       ·cases h2
       ·split at h2
        ·cases h2
        ·rename_i h4
         constructor<;>(rcases Classical.em (lv<0) with h5 | h5<;>rcases Classical.em (999999999<lv) with h6 | h6<;>first | omega | exact absurd ⟨rfl,.inl h5⟩ h4 | exact absurd ⟨rfl,.inr h6⟩ h4)
     ·rintro rfl;unfold tX at h2;rw [if_neg (by decide),if_neg (by decide),if_neg (by decide),if_neg (by decide),if_neg (by decide),if_neg (by decide),if_pos rfl] at h2;unfold jo at h2;split at h2
      ·cases h2
      ·split at h2
       ·cases h2
       ·split at h2
        ·cases h2
        ·split at h2
         ·cases h2
         ·rename_i h5
          split at h2
          ·cases h2
          ·rename_i h6
           refine ⟨fun e=>h5 (by rw [e];rfl),fun r hr=>?_⟩;have h7:ks.any (fun b=>!decide (b.wL=i.size))=false:=by simpa using h6
           rw [List.any_eq_false] at h7;have h8:=h7 r hr;have h9:decide (r.wL=i.size)=true:=by
            cases hx:decide (r.wL=i.size)
            ·rw [hx] at h8;exact absurd rfl h8
            ·rfl
           have h10:=of_decide_eq_true h9;cases r
           exact h10
     ·by_cases c2:k=2
      ·unfold tX at h2;rw [if_neg (by omega),if_pos c2] at h2;split at h2
       ·cases h2
       ·split at h2
        ·rename_i h3;exact absurd h2 h3
        ·rename_i h3;exact BQ a (Classical.not_not.1 h3)
      by_cases c4:k=4
      ·unfold tX at h2;rw [if_neg (by omega),if_neg c2,if_neg (by omega),if_neg (by omega),if_pos c4] at h2;split at h2
       ·cases h2
       ·split at h2
        ·cases h2
        ·exact BQ a h2
      by_cases c13:k=13
      ·unfold tX at h2;rw [if_neg (by omega),if_neg c2,if_neg (by omega),if_neg (by omega),if_neg c4,if_neg (by omega),if_neg (by omega),if_pos (.inl c13)] at h2;split at h2
       ·cases h2
       ·exact BQ a h2
      ·rw [Bool.or_eq_true] at b7;rcases b7 with b7 | b7
       ·simp at b7;omega
       ·exact N7 a b7
     ·rintro rfl;unfold tX at h2;rw [if_neg (by decide),if_neg (by decide),if_neg (by decide),if_neg (by decide),if_neg (by decide),if_neg (by decide),if_neg (by decide),if_pos (.inl rfl)] at h2;split at h2
      ·cases h2
      ·rename_i h3;exact Jc i (by simpa using h3)
theorem ah.Et (cl:ByteArray->Bool):∀ (l:List ah) (par:Int) (dp:Nat),ah.aR cl par dp l=0->(ah.dw l).any iM=false->ah.NY l
 | [],_,_,_,_=>by rw [ah.NY];trivial
 | x::l,par,dp,h,hu=>by
  rw [ah.aR] at h;rw [ah.dw,List.any_append,Bool.or_eq_false_iff] at hu;rw [ah.NY];split at h
  ·rename_i h1;exact absurd h h1
  ·rename_i h1
   exact ⟨ah.Jd cl x par dp (Classical.not_not.1 h1) hu.1,ah.Et cl l par dp h hu.2⟩
end
mutual
def Nd.vals (key:ByteArray):Nd->List ByteArray
 | .mk n _ a ks=>if aZ n=true then [] else ((a.filter fun p=>decide (p.key=key)).map (·.val))++Nd.bT key ks
def Nd.bT (key:ByteArray):List Nd->List ByteArray
 | []=>[]
 | x::l=>x.vals key++Nd.bT key l
end
theorem zD (key:ByteArray) (l m:List Nd):Nd.bT key (l++m)=Nd.bT key l++Nd.bT key m:=by
 induction l with
 | nil=>rw [Nd.bT];rfl
 | cons x l ih=>rw [List.cons_append,Nd.bT,Nd.bT,ih,jlk]
def ah.Ef:ah->Int
 | .mk k _ _ _ _ _ _ _ _=>k
def ah.iOf:ah->ByteArray
 | .mk _ _ i _ _ _ _ _ _=>i
theorem zP (cl:ByteArray->Bool):∀ (l:List ah) (par:Int) (dp:Nat),ah.aR cl par dp l=0->∀ x∈l,gK x.Ef par=true/\∃ dp',x.err cl par dp'=0
 | [],_,_,_,x,hx=>by cases hx
 | b::l,par,dp,h,x,hx=>by
  rw [ah.aR] at h;split at h
  ·rename_i h1;exact absurd h h1
  ·rename_i h1
   rcases List.mem_cons.1 hx with rfl | hx
   ·have h2:=Classical.not_not.1 h1;refine ⟨?_,dp,h2⟩;obtain ⟨k,lv,i,t,d,ti,a,li,ks⟩:=x;rw [ah.err] at h2;split at h2
    ·cases h2
    ·split at h2
     ·cases h2
     ·rename_i h3
      show gK k par=true;cases h4:gK k par
      ·exact absurd (.inr h4) h3
      ·rfl
   ·exact zP cl l par dp h x hx
structure Sl where
 ti:List aj
 bl:List ah
def qN (b:ah):Bool:=match b with
 | .mk k lv _ _ _ _ _ _ _=>decide (k=2)&&(decide (lv=1)||decide (lv=2))
def gP (b:ah):Bool:=decide (b.Ef=5)||qN b
def ah.Wu:ah->List aj
 | .mk _ _ _ _ _ _ _ li _=>li
def dQ (out:List Sl) (b:ah):List Sl:=
 if gP b=true then out++[⟨if b.Ef=5 then [] else b.Wu,[]⟩]
 else match out.getLast? with
  | some s=>out.dropLast++[⟨s.ti,s.bl++[b]⟩]
  | none=>[⟨[],[b]⟩]
def yG (l:List ah):List Sl:=l.foldl dQ []
structure Pt where
 ti:Bool
 bl:List ah
structure tN where
 all:List Pt
 op:Pt
 some_:Bool
def dN (s:tN):tN:=⟨if s.some_=true then s.all++[s.op] else s.all,⟨false,[]⟩,true⟩
def kP (s:tN) (b:ah):tN:=
 if gP b=true then (if qN b=true then ⟨(dN s).all,⟨true,[b]⟩,true⟩ else ⟨(dN s).all,⟨false,[]⟩,true⟩)
 else ⟨s.all,⟨s.op.ti,s.op.bl++[b]⟩,true⟩
def qd:tN:=⟨[],⟨false,[]⟩,false⟩
def l7 (l:List ah):tN:=l.foldl kP qd
def dX (l:List ah):List Pt:=(dN (l7 l)).all
def jU (p:Pt):Sl:=if p.ti=true then ⟨match p.bl with | b::_=>b.Wu | []=>[],p.bl.tail⟩ else ⟨[],p.bl⟩
def slP (l:List ah):List Sl:=(dX l).map jU
def N8 (p:Pt):Prop:=p.ti=true->∃ b t,p.bl=b::t/\qN b=true
theorem T9 (b:ah) (h:qN b=true):b.Ef=2:=by obtain ⟨k,lv,i,t,d,ti,a,li,ks⟩:=b;unfold qN at h;simp only [Bool.and_eq_true,decide_eq_true_eq] at h;exact h.1
structure Eu (s:tN):Prop where
 op:N8 s.op
 no:s.some_=false->s.all=[]/\s.op=⟨false,[]⟩
 al:∀ p∈s.all,N8 p
theorem Gz (s:tN) (h:Eu s):∀ p∈(dN s).all,N8 p:=by
 unfold dN;split
 ·intro p hp;rcases List.mem_append.1 hp with hp | hp
  ·exact h.al p hp
  ·simp at hp;subst hp;exact h.op
 ·exact h.al
theorem Je (s:tN) (b:ah) (h:Eu s):Eu (kP s b):=by
 unfold kP;split
 ·split
  ·rename_i ht
   exact ⟨(fun _=>⟨b,[],rfl,ht⟩),(fun e=>by cases e),Gz s h⟩
  ·exact ⟨(fun e=>by cases e),(fun e=>by cases e),Gz s h⟩
 ·refine ⟨fun e=>?_,(fun e=>by cases e),h.al⟩;obtain ⟨c,t,h1,h2⟩:=h.op e;exact ⟨c,t++[b],by show s.op.bl++[b]=_;rw [h1];rfl,h2⟩
theorem Jf:∀ (l:List ah) (s:tN),Eu s->Eu (l.foldl kP s)
 | [],s,h=>h
 | b::l,s,h=>by rw [List.foldl_cons];exact Jf l _ (Je s b h)
theorem ps0:Eu qd:=⟨(fun e=>by cases e),(fun _=>⟨rfl,rfl⟩),(fun p hp=>by cases hp)⟩
theorem Wv (p:Pt) (b:ah) (h:N8 p):jU ⟨p.ti,p.bl++[b]⟩=⟨(jU p).ti,(jU p).bl++[b]⟩:=by
 unfold jU;by_cases ht:p.ti=true
 ·obtain ⟨c,t,h1,h2⟩:=h ht;rw [if_pos ht,if_pos ht,h1];rfl
 ·rw [if_neg ht,if_neg ht]
def slS (s:tN):List Sl:=(dN s).all.map jU
theorem Ru (s:tN) (b:ah) (h:Eu s):slS (kP s b)=dQ (slS s) b:=by
 unfold slS;by_cases hb:gP b=true
 ·unfold kP dQ;rw [if_pos hb,if_pos hb];by_cases ht:qN b=true
  ·rw [if_pos ht];have hk:=T9 b ht;have e1:(dN ⟨(dN s).all,⟨true,[b]⟩,true⟩).all=(dN s).all++[⟨true,[b]⟩]:=rfl;rw [e1,jl7,List.map_singleton,if_neg (by omega)];rfl
  ·rw [if_neg ht];have hk:b.Ef=5:=by
    unfold gP at hb;rw [Bool.or_eq_true] at hb;rcases hb with hb | hb
    ·exact of_decide_eq_true hb
    ·exact absurd hb ht
   have e1:(dN ⟨(dN s).all,⟨false,[]⟩,true⟩).all=(dN s).all++[⟨false,[]⟩]:=rfl;rw [e1,jl7,List.map_singleton,if_pos hk];rfl
 ·unfold kP dQ;rw [if_neg hb,if_neg hb];have e1:(dN ⟨s.all,⟨s.op.ti,s.op.bl++[b]⟩,true⟩).all=s.all++[⟨s.op.ti,s.op.bl++[b]⟩]:=rfl;rw [e1,jl7,List.map_singleton,Wv s.op b h.op];cases hs:s.some_ with
  | true=>
   have e2:(dN s).all=s.all++[s.op]:=by unfold dN;rw [if_pos hs]
   rw [e2,jl7,List.map_singleton,List.getLast?_append];simp
  | false=>
   obtain ⟨h1,h2⟩:=h.no hs;have e2:(dN s).all=[]:=by unfold dN;rw [if_neg (by rw [hs];simp),h1]
   rw [e2,h1,h2];rfl
theorem Jg:∀ (l:List ah) (s:tN),Eu s->slS (l.foldl kP s)=l.foldl dQ (slS s)
 | [],s,_=>rfl
 | b::l,s,h=>by rw [List.foldl_cons,List.foldl_cons,Jg l _ (Je s b h),Ru s b h]
theorem Ww (l:List ah):slP l=yG l:=Jg l qd ps0
theorem N9 (l:List ah) (k:Nat) (x:ah) (h:l[k]?=some x):yG (l.take (k+1))=dQ (yG (l.take k)) x:=by unfold yG;rw [List.take_add_one,h,List.foldl_append];rfl
def Ev (l:List ah):List ah:=l.filter fun b=>!gP b
def yH (l:List ah):Nat:=(l.filter gP).length
theorem GA (out:List Sl) (b:ah):(dQ out b).flatMap (·.bl)=out.flatMap (·.bl)++(if gP b=true then [] else [b]):=by
 unfold dQ;split
 ·rw [List.flatMap_append];simp
 ·cases hg:out.getLast? with
  | none=>
   simp only;have:out=[]:=by simpa using hg
   rw [this];rfl
  | some s=>
   simp only;have e:=wM hg
   conv=>rhs;rw [e]
   rw [List.flatMap_append,List.flatMap_append];simp
theorem wP:∀ (l:List ah) (out:List Sl),(l.foldl dQ out).flatMap (·.bl)=out.flatMap (·.bl)++Ev l
 | [],out=>by simp [Ev]
 | b::l,out=>by
  rw [List.foldl_cons,wP l,GA,jlk];congr 1;unfold Ev;rw [List.filter_cons];cases gP b<;>simp
theorem Oa (l:List ah):(yG l).flatMap (·.bl)=Ev l:=by have:=wP l [];rw [List.flatMap_nil,List.nil_append] at this;exact this
theorem Ob (out:List Sl) (b:ah):(dQ out b).length=if gP b=true then out.length+1 else if out.isEmpty=true then 1 else out.length:=by
 unfold dQ;split
 ·simp
 ·cases hg:out.getLast? with
  | none=>
   have:out=[]:=by simpa using hg
   rw [this];rfl
  | some s=>
   have e:=wM hg;have h0:out≠[]:=by rintro rfl;simp at hg
   have h1:out.isEmpty=false:=by cases out;exact absurd rfl h0;rfl
   simp only [h1];rw [List.length_append,List.length_dropLast];have:0<out.length:=List.length_pos_iff.2 h0;simp;omega
theorem Ew:∀ (l:List ah) (out:List Sl),(out≠[]->(l.foldl dQ out).length=out.length+yH l)/\(out=[]->(l.foldl dQ out).length=yH l\/(l.foldl dQ out).length=yH l+1)
 | [],out=>⟨fun _=>by simp [yH],fun h=>by rw [h];left;rfl⟩
 | b::l,out=>by
  have hs:=Ob out b;have hne:dQ out b≠[]:=by
   intro e;rw [e] at hs;simp at hs;split at hs
   ·omega
   ·split at hs
    ·omega
    ·rename_i h1 h2
     have:out=[]:=List.eq_nil_of_length_eq_zero (by simpa using hs.symm);rw [this] at h2;exact h2 rfl
  have h1:=(Ew l (dQ out b)).1 hne;have hc:yH (b::l)=(if gP b=true then 1 else 0)+yH l:=by unfold yH;rw [List.filter_cons];cases gP b<;>simp;omega
  rw [List.foldl_cons];constructor
  ·intro h0;have h2:out.isEmpty=false:=by cases out;exact absurd rfl h0;rfl
   rw [h1,hs,hc,h2];cases gP b<;>simp;omega
  ·intro h0;rw [h1,hs,hc,h0];cases gP b
   ·right;simp<;>omega
   ·left;simp<;>omega
theorem Wx (l:List ah):(yG l).length=yH l\/(yG l).length=yH l+1:=(Ew l []).2 rfl
def goB (b:ah):Bool:=!gP b
def tQ:List ah->List (List ah)
 | []=>[]
 | b::l=>(b::l.takeWhile goB)::tQ (l.dropWhile goB)
termination_by l=>l.length
decreasing_by
 have:∀ (l:List ah),(l.dropWhile goB).length<=l.length:=by
  intro l;induction l with
  | nil=>simp
  | cons x l ih=>rw [List.dropWhile_cons];split<;>simp<;>omega
 have:=this l;simp only [List.length_cons];omega
theorem qg:tQ []=[]:=by rw [tQ]
theorem qY (b:ah) (l:List ah):tQ (b::l)=(b::l.takeWhile goB)::tQ (l.dropWhile goB):=by rw [tQ]
def jV (s:List ah):List ah:=match s with
 | b::l=>if b.Ef=5 then l else b::l
 | []=>[]
def qh (s:List ah):Pt:=match s with
 | b::l=>if qN b=true then ⟨true,b::l⟩ else if b.Ef=5 then ⟨false,l⟩ else ⟨false,b::l⟩
 | []=>⟨false,[]⟩
theorem um (s:List ah):(qh s).bl=jV s:=by
 unfold qh jV;cases s with
 | nil=>rfl
 | cons b l=>
  simp only;by_cases ht:qN b=true
  ·have:=T9 b ht;rw [if_pos ht,if_neg (by omega)]
  ·rw [if_neg ht];split<;>rfl
theorem Oc {b:ah}:goB b=true↔¬ gP b=true:=by unfold goB;cases gP b<;>simp
theorem qZ:∀ (l:List ah) (s:tN),s.some_=true->(dN (l.foldl kP s)).all=s.all++⟨s.op.ti,s.op.bl++l.takeWhile goB⟩::(tQ (l.dropWhile goB)).map qh
 | [],s,hs=>by
  rw [List.foldl_nil,List.takeWhile_nil,List.dropWhile_nil,qg,List.append_nil];unfold dN;rw [if_pos hs];rfl
 | b::l,s,hs=>by
  rw [List.foldl_cons,List.takeWhile_cons,List.dropWhile_cons];by_cases hb:gP b=true
  ·have hg:¬ goB b=true:=fun h=>Oc.1 h hb
   rw [if_neg hg,if_neg hg,List.append_nil,qY,List.map_cons];have hfin:(dN s).all=s.all++[s.op]:=by unfold dN;rw [if_pos hs]
   by_cases ht:qN b=true
   ·have e1:kP s b=⟨s.all++[s.op],⟨true,[b]⟩,true⟩:=by unfold kP;rw [if_pos hb,if_pos ht,hfin]
    rw [e1,qZ l _ rfl];have e2:qh (b::l.takeWhile goB)=⟨true,b::l.takeWhile goB⟩:=by unfold qh;simp only;rw [if_pos ht]
    rw [e2,jlk];rfl
   ·have hk:b.Ef=5:=by
     unfold gP at hb;rw [Bool.or_eq_true] at hb;rcases hb with hb | hb
     ·exact of_decide_eq_true hb
     ·exact absurd hb ht
    have e1:kP s b=⟨s.all++[s.op],⟨false,[]⟩,true⟩:=by unfold kP;rw [if_pos hb,if_neg ht,hfin]
    rw [e1,qZ l _ rfl];have e2:qh (b::l.takeWhile goB)=⟨false,l.takeWhile goB⟩:=by unfold qh;simp only;rw [if_neg ht,if_pos hk]
    rw [e2,jlk];rfl
  ·have hg:goB b=true:=Oc.2 hb;rw [if_pos hg,if_pos hg];have e1:kP s b=⟨s.all,⟨s.op.ti,s.op.bl++[b]⟩,true⟩:=by unfold kP;rw [if_neg hb]
   rw [e1,qZ l _ rfl,jlk];rfl
theorem qj (l:List ah):dX l=(tQ l).map qh:=by
 unfold dX l7;cases l with
 | nil=>rw [qg];rfl
 | cons b l=>
  rw [List.foldl_cons,qY,List.map_cons];by_cases hb:gP b=true
  ·by_cases ht:qN b=true
   ·have e1:kP qd b=⟨[],⟨true,[b]⟩,true⟩:=by unfold kP;rw [if_pos hb,if_pos ht];rfl
    have e2:qh (b::l.takeWhile goB)=⟨true,b::l.takeWhile goB⟩:=by unfold qh;simp only;rw [if_pos ht]
    rw [e1,qZ l _ rfl,e2];rfl
   ·have hk:b.Ef=5:=by
     unfold gP at hb;rw [Bool.or_eq_true] at hb;rcases hb with hb | hb
     ·exact of_decide_eq_true hb
     ·exact absurd hb ht
    have e1:kP qd b=⟨[],⟨false,[]⟩,true⟩:=by unfold kP;rw [if_pos hb,if_neg ht];rfl
    have e2:qh (b::l.takeWhile goB)=⟨false,l.takeWhile goB⟩:=by unfold qh;simp only;rw [if_neg ht,if_pos hk]
    rw [e1,qZ l _ rfl,e2];rfl
  ·have e1:kP qd b=⟨[],⟨false,[b]⟩,true⟩:=by unfold kP;rw [if_neg hb];rfl
   have ht:¬ qN b=true:=fun h=>hb (by unfold gP;rw [h,Bool.or_true])
   have hk:¬ b.Ef=5:=fun h=>hb (by unfold gP;rw [decide_eq_true h];rfl)
   have e2:qh (b::l.takeWhile goB)=⟨false,b::l.takeWhile goB⟩:=by unfold qh;simp only;rw [if_neg ht,if_neg hk]
   rw [e1,qZ l _ rfl,e2];rfl
def BS:ByteArray:=⟨#[115,108,105,100,101]⟩
def tT (bl:List ah):Nd:=aP eH [⟨iw,BS⟩] (eG bl)
def Od (l:List ah):List Nd:=(tQ l).map fun s=>tT (jV s)
theorem lN (l:List ah):(dX l).map (fun p=>tT p.bl)=Od l:=by
 rw [qj,List.map_map];unfold Od;congr 1
 funext s
 simp [um]
theorem ru (n:Nat):∀ (l:List ah),l.length<=n->(tQ l).flatten=l:=by
 induction n with
 | zero=>intro l hl;rw [List.eq_nil_of_length_eq_zero (Nat.le_zero.1 hl),qg];rfl
 | succ n ih=>
  intro l hl;cases l with
  | nil=>rw [qg];rfl
  | cons b l=>
   rw [List.length_cons] at hl;have:(l.dropWhile goB).length<=l.length:=by have h:=congrArg List.length (List.takeWhile_append_dropWhile (p:=goB) (l:=l));rw [List.length_append] at h;omega
   rw [qY,List.flatten_cons,ih _ (by omega),List.cons_append,List.takeWhile_append_dropWhile]
theorem Ml (n m:Nat) (h:n<10 ^ (m+1)):(Lib.decDigits n).length<=m+1:=by
 induction m generalizing n with
 | zero=>
  rw [Lib.decDigits,dif_pos (by simpa using h)];simp
 | succ m ih=>
  rw [Lib.decDigits];split
  ·simp
  ·rw [List.length_append,List.length_singleton];have:=ih (n/10) (by
    rw [Nat.div_lt_iff_lt_mul (by decide)];have e:10 ^ (m+1+1)=10 ^ (m+1)*10:=Nat.pow_succ ..;omega)
   omega
theorem kI (cl:ByteArray->Bool) {k lv:Int} {i t d ti:ByteArray} {a:At} {li:List aj} {ks:List ah} {par:Int} {dp:Nat} (h:(ah.mk k lv i t d ti a li ks).err cl par dp=0) : tX cl k lv i t d ti a li ks=0/\Cq k lv i t d ti a li ks=true/\ah.aR cl k (dp+1) ks=0:=by
 rw [ah.err] at h;split at h
 ·cases h
 ·split at h
  ·cases h
  ·rename_i hb
   split at h
   ·rename_i h1;exact absurd h h1
   ·rename_i h1
    refine ⟨Classical.not_not.1 h1,?_,h⟩;cases hx:Cq k lv i t d ti a li ks
    ·exact absurd (.inl hx) hb
    ·rfl
theorem Oe (cl:ByteArray->Bool) {k lv:Int} {i t d ti:ByteArray} {a:At} {li:List aj} {ks:List ah} (h2:tX cl k lv i t d ti a li ks=0) (hbf:Cq k lv i t d ti a li ks=true):Fz li=0:=by
 unfold tX at h2;by_cases c1:k=1
 ·rw [if_pos c1] at h2;split at h2
  ·cases h2
  ·exact h2
 rw [if_neg c1] at h2;by_cases c2:k=2
 ·rw [if_pos c2] at h2;split at h2
  ·cases h2
  ·split at h2
   ·rename_i h3;exact absurd h2 h3
   ·split at h2
    ·cases h2
    ·exact h2
 rw [if_neg c2] at h2;by_cases c3:k=12
 ·rw [if_pos c3] at h2;split at h2
  ·cases h2
  ·exact h2
 ·have:li=[]:=by
   unfold Cq at hbf;simp only [Bool.and_eq_true] at hbf;have b8:=hbf.1.2;rw [Bool.or_eq_true] at b8;rcases b8 with b8 | b8
   ·simp at b8;omega
   ·simpa using b8
  rw [this];unfold Fz;rw [aj.aR]
theorem mW (cl:ByteArray->Bool) (par:Int) (dp:Nat):∀ (l:List ah),ah.aR cl par dp l=0↔∀ b∈l,b.err cl par dp=0
 | []=>by rw [ah.aR];exact ⟨fun _ b hb=>(by cases hb),fun _=>rfl⟩
 | x::l=>by
  rw [ah.aR];by_cases h:x.err cl par dp=0
  ·rw [if_neg (by simp [h]),mW cl par dp l];constructor
   ·intro h1 b hb;rcases List.mem_cons.1 hb with rfl | hb
    ·exact h
    ·exact h1 b hb
   ·exact fun h1 b hb=>h1 b (List.mem_cons_of_mem _ hb)
  ·rw [if_pos h];exact ⟨fun h1=>absurd h1 h,fun h1=>absurd (h1 x (List.mem_cons_self ..)) h⟩
theorem uo:∀ (l:List ah),(ah.dw l).any iM=false↔∀ b∈l,b.aV.any iM=false
 | []=>by rw [ah.dw];exact ⟨fun _ b hb=>(by cases hb),fun _=>rfl⟩
 | x::l=>by
  rw [ah.dw,List.any_append,Bool.or_eq_false_iff,uo l];constructor
  ·rintro ⟨h1,h2⟩ b hb;rcases List.mem_cons.1 hb with rfl | hb
   ·exact h1
   ·exact h2 b hb
  ·exact fun h=>⟨h x (List.mem_cons_self ..),fun b hb=>h b (List.mem_cons_of_mem _ hb)⟩
theorem GD (s:List ah):∀ b∈jV s,b∈s:=by
 unfold jV;cases s with
 | nil=>exact fun b hb=>hb
 | cons x l=>
  simp only;split
  ·exact fun b hb=>List.mem_cons_of_mem _ hb
  ·exact fun b hb=>hb
theorem Jh (l:List ah):∀ s∈tQ l,∀ b∈jV s,b∈l:=by intro s hs b hb;have hf:=ru l.length l (Nat.le_refl _);rw [<- hf];exact List.mem_flatten.2 ⟨s,hs,GD s b hb⟩
theorem Wy (cl:ByteArray->Bool) (l:List ah) (h:ah.aR cl 0 0 l=0) (hu:(ah.dw l).any iM=false) (s:List ah) (hs:s∈tQ l) : ah.aR cl 0 0 (jV s)=0/\(ah.dw (jV s)).any iM=false:=
 ⟨(mW cl 0 0 _).2 fun b hb=>(mW cl 0 0 l).1 h b (Jh l s hs b hb),(uo _).2 fun b hb=>(uo l).1 hu b (Jh l s hs b hb)⟩
mutual
def ah.MH:ah->Prop
 | .mk k lv i t d ti a li ks=>aj.Gd li/\(k=2\/k=8->0<=lv/\lv<=999999999)/\(k=10->ks≠[]/\∀ r∈ks,r.kids.length=i.size/\∀ c∈r.kids,aj.Gd c.mG)/\(∀ c∈a.cls,aZ c=false)/\(k=13->aZ i=false)/\k≠11/\k≠12/\(k≠10->ah.sG ks)
def ah.sG:List ah->Prop
 | []=>True
 | x::l=>x.MH/\ah.sG l
end
theorem Ji:∀ (l:List ah),(ah.dw l).any iM=false->∀ b∈l,NG b.mG=false/\(ah.dw b.kids).any iM=false:=by intro l h b hb;have h1:=(uo l).1 h b hb;obtain ⟨k,lv,i,t,d,ti,a,li,ks⟩:=b;rw [ah.aV,List.any_append,Bool.or_eq_false_iff] at h1;exact h1
mutual
theorem ah.Og (cl:ByteArray->Bool):∀ (b:ah) (par:Int) (dp:Nat),par≠10->par≠11->gK b.Ef par=true->b.err cl par dp=0->(b.aV).any iM=false->b.MH
 | .mk k lv i t d ti a li ks,par,dp,hp0,hp1,hpl,h,hu=>by
  have hh:=ah.Jd cl _ par dp h hu;obtain ⟨h2,hbf,h3⟩:=kI cl h;rw [ah.hok] at hh;obtain ⟨g1,g2,g3,g4,g5,g6⟩:=hh;rw [ah.aV,List.any_append,Bool.or_eq_false_iff] at hu;have hk:k≠11/\k≠12:=by
   have hpl':gK k par=true:=hpl;unfold gK at hpl';split at hpl'
   ·have:=of_decide_eq_true hpl';omega
   ·(try rw [if_neg hp0,if_neg hp1] at hpl')
    simp at hpl';omega
  rw [ah.MH];refine ⟨g1,g2,fun h10=>?_,g4,g5,hk.1,hk.2,fun h10=>ah.nR cl ks k (dp+1) h10 hk.1 h3 hu.2⟩;obtain ⟨q1,q2⟩:=g3 h10;refine ⟨q1,fun r hr=>⟨q2 r hr,fun c hc=>?_⟩⟩;have r1:=(mW cl k (dp+1) ks).1 h3 r hr;have r2:=Ji ks hu.2 r hr;obtain ⟨k',Ua,i',t',d',KJ,a',li',ks'⟩:=r;obtain ⟨-,-,s3⟩:=kI cl r1;have c1:=(mW cl k' (dp+1+1) ks').1 s3 c hc;have c2:=Ji ks' r2.2 c hc;obtain ⟨k9,lv9,i9,t9,d9,ti9,a9,li9,ks9⟩:=c;obtain ⟨u1,u2,-⟩:=kI cl c1;exact Jb li9 (Oe cl u1 u2) c2.1
theorem ah.nR (cl:ByteArray->Bool):∀ (l:List ah) (par:Int) (dp:Nat),par≠10->par≠11->ah.aR cl par dp l=0->(ah.dw l).any iM=false->ah.sG l
 | [],_,_,_,_,_,_=>by rw [ah.sG];trivial
 | x::l,par,dp,hp0,hp1,h,hu=>by
  have hpl:=(zP cl (x::l) par dp h x (List.mem_cons_self ..)).1;rw [ah.aR] at h;rw [ah.dw,List.any_append,Bool.or_eq_false_iff] at hu;rw [ah.sG];split at h
  ·rename_i h1;exact absurd h h1
  ·rename_i h1
   exact ⟨ah.Og cl x par dp hp0 hp1 hpl (Classical.not_not.1 h1) hu.1,ah.nR cl l par dp hp0 hp1 h hu.2⟩
end
open Go.RowKit
section
variable {T:TypeId} {k B:Nat} {w0 w w1 w2:World} {ds es:List D} {rows bP:List (List Value)} {v v':Value}
end
open Go.RowKit
open Go.RowKit
mutual
theorem ah.Oh:∀ (b:ah),b.aV=b.inls
 | .mk k lv i t d ti a li ks=>by rw [ah.aV,ah.inls,ah.jc ks]
theorem ah.jc:∀ (l:List ah),ah.dw l=ah.aT l
 | []=>by rw [ah.dw,ah.aT]
 | x::l=>by rw [ah.dw,ah.aT,ah.Oh x,ah.jc l]
end
end Go.Proofs.YtkfnkeflalcphaaGreatDoor

