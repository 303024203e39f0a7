/- Plain part: what well-formed, resolved blocks give to the walk of their nodes; the plain text of nodes; their anchors. Plain part: the anchors of a page have the identifiers of its document. Plain part: slides, as the program and as the reference divide blocks. Plain part: the sections of the page with slides, as the program and as the reference cut the blocks. Plain part: the page with slides has the anchors of the page, each as often. Plain part: the page of a well-formed document is valid markup. Plain part: the page of a well-formed, resolved document is valid markup (blocks, notes, the page). Plain part: the pieces of a well-formed document are well-formed; the page with slides is valid markup. Plain part: what the walk of the nodes of blocks asks, where blocks stand that are no rows and no cells. publisherref04.Deep, List: inlines and blocks with those in them, in document order. publisherref04.List: blocks with those in them, in document order. The contract of publisherref04.Inlines: all inlines of blocks. Plain part: all inlines of blocks: theirs are among them; how large they are together; unresolved ones. -/
import Derived.Test.YtkfnkeflalcphaaGreatDoorKNdW
namespace Go.Proofs.YtkfnkeflalcphaaGreatDoor
open List renaming map_append->jn1,append_assoc->jn5
set_option linter.unusedVariables false
set_option linter.unusedSimpArgs false
mutual
def aj.tf:aj->Prop
 | .mk k t d ti a ar ci ks=>(k<2\/(12<k/\k<16)\/16<k->aZ t=false)/\aj.Gm ks
def aj.Gm:List aj->Prop
 | []=>True
 | x::l=>x.tf/\aj.Gm l
end
theorem q1z (n:ByteArray) (a:List Pr) (ks:List Nd) (h:aZ n=false):(aQ n a ks).full:=fun e=>by
 have:aZ n=true:=e;rw [h] at this;cases this
theorem ED (s:ByteArray) (h:aZ s=false):(MI s).full:=fun _=>⟨rfl,h⟩
theorem Sc:∀ (x:aj),x.tf->x.nd.full
 | .mk k t d ti a ar ci ks,h=>by
  rw [aj.tf] at h;rw [aj.nd];by_cases h2:k=2
  ·rw [if_pos h2];exact ED _ rfl
  rw [if_neg h2];by_cases h3:k=3
  ·rw [if_pos h3];exact q1z _ _ _ rfl
  rw [if_neg h3];by_cases h4:k=4
  ·rw [if_pos h4];exact q1z _ _ _ rfl
  rw [if_neg h4];by_cases h5:k=5
  ·rw [if_pos h5];exact q1z _ _ _ rfl
  rw [if_neg h5];by_cases h6:k=6
  ·rw [if_pos h6];exact q1z _ _ _ rfl
  rw [if_neg h6];by_cases h7:k=7
  ·rw [if_pos h7];exact q1z _ _ _ rfl
  rw [if_neg h7];by_cases h8:k=8
  ·rw [if_pos h8];exact q1z _ _ _ rfl
  rw [if_neg h8];by_cases h9:k=9
  ·rw [if_pos h9];exact q1z _ _ _ rfl
  rw [if_neg h9];by_cases h10:k=10
  ·rw [if_pos h10];exact q1z _ _ _ rfl
  rw [if_neg h10];by_cases h11:k=11
  ·rw [if_pos h11];exact q1z _ _ _ rfl
  rw [if_neg h11];by_cases h12:k=12
  ·rw [if_pos h12];exact q1z _ _ _ rfl
  rw [if_neg h12];by_cases h16:k=16
  ·rw [if_pos h16];exact q1z _ _ _ rfl
  rw [if_neg h16];exact ED _ (h.1 (by omega))
theorem Bu:∀ (l:List aj),aj.Gm l->∀ x∈l,x.tf
 | [],_,x,hx=>by cases hx
 | y::l,h,x,hx=>by
  rw [aj.Gm] at h;rcases List.mem_cons.1 hx with rfl | hx
  ·exact h.1
  ·exact Bu l h.2 x hx
theorem Ec (l:List aj) (h:aj.Gm l):∀ x∈aj.Jd l,x.full:=by intro x hx;rw [qj] at hx;obtain ⟨y,hy,rfl⟩:=List.mem_map.1 hx;exact Sc y (Bu l h y hy)
theorem Nb (l:List aj) (h:aj.Gm l):kG l=(gG (aj.Jd l)).1++bS (gG (aj.Jd l)).2:=KY _ (Ec l h)
theorem GU {k:Int} {t d ti:ByteArray} {a:At} {ar:List ByteArray} {ci:List Ci} {ks:List aj} (h:Fz k t d ti a ar ci ks=true):1<=k/\k<=16:=by unfold Fz at h;simp only [Bool.and_eq_true,decide_eq_true_eq] at h;omega
mutual
theorem WW:∀ (x:aj),x.src->x.deep.any iU=false->x.tf
 | .mk k t d ti a ar ci ks,h,hu=>by
  rw [aj.src] at h;rw [aj.deep,List.any_cons,Bool.or_eq_false_iff] at hu;rw [aj.tf];refine ⟨fun hk=>?_,Cb ks h.2 hu.2⟩;have h1:=h.1;unfold tL at h1;split at h1
  ·cases h1
  ·rename_i h0
   have hf:=GU (by simpa using h0);have hu1:=hu.1;unfold iU at hu1;simp only [Bool.or_eq_false_iff,decide_eq_false_iff_not] at hu1;have hk1:k=1:=by omega
   rw [if_pos (.inl hk1)] at h1;split at h1
   ·cases h1
   ·rename_i h2
    cases h3:aZ t
    ·rfl
    ·exact absurd (.inl h3) h2
theorem Cb:∀ (l:List aj),aj.GL l->(aj.bG l).any iU=false->aj.Gm l
 | [],_,_=>by rw [aj.Gm];trivial
 | x::l,h,hu=>by
  rw [aj.GL] at h;rw [aj.bG,List.any_append,Bool.or_eq_false_iff] at hu;rw [aj.Gm];exact ⟨WW x h.1 hu.1,Cb l h.2 hu.2⟩
end
theorem Jp (l:List aj) (h:FN l=0) (hu:Ob l=false):aj.Gm l:=Cb l (aj.wU l 0 true 0 h) hu
mutual
def ah.aX:ah->List aj
 | .mk _ _ _ _ _ _ _ li ks=>aj.bG li++ah.dA ks
def ah.dA:List ah->List aj
 | []=>[]
 | x::l=>x.aX++ah.dA l
end
mutual
def ah.hok:ah->Prop
 | .mk k lv i t d ti a li ks=>aj.Gm li/\(k=2\/k=8->0<=lv/\lv<=999999999)/\(k=10->ks≠[]/\∀ r∈ks,r.kids.length=i.size)/\(∀ c∈a.cls,aZ c=false)/\(k=13->aZ i=false)/\ah.Oq ks
def ah.Oq:List ah->Prop
 | []=>True
 | x::l=>x.hok/\ah.Oq l
end
theorem Jq (s:ByteArray) (h:jG s=true):aZ s=false:=by
 unfold jG at h;simp only [Bool.and_eq_true,decide_eq_true_eq] at h;unfold aZ;refine decide_eq_false fun e=>?_
 have h1:s.data.toList.length=s.size:=by simp
 rw [e] at h1;simp at h1;omega
theorem Ot:∀ (l seen:List ByteArray),fA seen l=0->∀ c∈l,aZ c=false
 | [],_,_,c,hc=>by cases hc
 | x::l,seen,h,c,hc=>by
  rw [fA] at h;split at h
  ·cases h
  ·rename_i h1
   split at h
   ·cases h
   ·rcases List.mem_cons.1 hc with rfl | hc
    ·exact Jq _ (by simpa using h1)
    ·exact Ot l _ h c hc
theorem Cc (a:At) (h:a.err=0):∀ c∈a.cls,aZ c=false:=by
 unfold At.err at h;split at h
 ·cases h
 ·split at h
  ·rename_i h1;exact absurd h h1
  ·rename_i h1
   exact Ot a.cls [] (Classical.not_not.1 h1)
theorem Ou (a:At) (h:a.none=true):∀ c∈a.cls,aZ c=false:=by
 unfold At.none at h;simp only [Bool.and_eq_true] at h;have h1:a.cls=[]:=by simpa using h.1.2
 rw [h1];intro c hc;cases hc
mutual
theorem ah.Jr (cl:ByteArray->Bool):∀ (b:ah) (par:Int) (dp:Nat),b.err cl par dp=0->(b.aX).any iU=false->b.hok
 | .mk k lv i t d ti a li ks,par,dp,h,hu=>by
  rw [ah.err] at h;rw [ah.aX,List.any_append,Bool.or_eq_false_iff] at hu;rw [ah.hok];split at h
  ·cases h
  ·split at h
   ·cases h
   ·rename_i hb
    split at h
    ·rename_i h1;exact absurd h h1
    ·rename_i h1
     have h2:=Classical.not_not.1 h1;have hbf:Cy k lv i t d ti a li ks=true:=by
      cases hx:Cy k lv i t d ti a li ks
      ·exact absurd (.inl hx) hb
      ·rfl
     unfold Cy at hbf;simp only [Bool.and_eq_true,decide_eq_true_eq] at hbf;obtain ⟨⟨⟨⟨⟨⟨⟨⟨b1,b2⟩,b3⟩,b4⟩,b5⟩,b6⟩,b7⟩,b8⟩,b9⟩:=hbf;have Iq:=ah.EF cl ks k (dp+1) h hu.2;have hli:FN li=0:=by
      by_cases c1:k=1
      ·unfold ug at h2;rw [if_pos c1] at h2;split at h2
       ·cases h2
       ·exact h2
      by_cases c2:k=2
      ·unfold ug at h2;rw [if_neg c1,if_pos c2] at h2;split at h2
       ·cases h2
       ·split at h2
        ·rename_i h3;exact absurd h2 h3
        ·split at h2
         ·cases h2
         ·exact h2
      by_cases c3:k=12
      ·unfold ug at h2;rw [if_neg c1,if_neg c2,if_pos c3] at h2;split at h2
       ·cases h2
       ·exact h2
      ·have:li=[]:=by
        rw [Bool.or_eq_true] at b8;rcases b8 with b8 | b8
        ·simp at b8;omega
        ·simpa using b8
       rw [this];unfold FN;rw [aj.aT]
     refine ⟨Jp li hli hu.1,?_,?_,?_,?_,Iq⟩
     ·intro hk;rcases hk with rfl | rfl
      ·unfold ug at h2;rw [if_neg (by decide),if_pos rfl] at h2;split at h2
       ·cases h2
       ·omega
      ·unfold ug at h2;rw [if_neg (by decide),if_neg (by decide),if_neg (by decide),if_neg (by decide),if_neg (by decide),if_pos (.inr rfl)] at h2;split at h2
       ·cases h2
       ·split at h2
        ·cases h2
        ·rename_i h4
         constructor<;>(rcases Classical.em (lv<0) with h5 | h5<;>rcases Classical.em (999999999<lv) with h6 | h6<;>first | omega | exact absurd ⟨rfl,.inl h5⟩ h4 | exact absurd ⟨rfl,.inr h6⟩ h4)
     ·rintro rfl;unfold ug at h2;rw [if_neg (by decide),if_neg (by decide),if_neg (by decide),if_neg (by decide),if_neg (by decide),if_neg (by decide),if_pos rfl] at h2;unfold jA at h2;split at h2
      ·cases h2
      ·split at h2
       ·cases h2
       ·split at h2
        ·cases h2
        ·split at h2
         ·cases h2
         ·rename_i h5
          split at h2
          ·cases h2
          ·rename_i h6
           refine ⟨fun e=>h5 (by rw [e];rfl),fun r hr=>?_⟩;have h7:ks.any (fun b=>!decide (b.wX=i.size))=false:=by simpa using h6
           rw [List.any_eq_false] at h7;have h8:=h7 r hr;have h9:decide (r.wX=i.size)=true:=by
            cases hx:decide (r.wX=i.size)
            ·rw [hx] at h8;exact absurd rfl h8
            ·rfl
           have h10:=of_decide_eq_true h9;cases r
           exact h10
     ·by_cases c2:k=2
      ·unfold ug at h2;rw [if_neg (by omega),if_pos c2] at h2;split at h2
       ·cases h2
       ·split at h2
        ·rename_i h3;exact absurd h2 h3
        ·rename_i h3;exact Cc a (Classical.not_not.1 h3)
      by_cases c4:k=4
      ·unfold ug at h2;rw [if_neg (by omega),if_neg c2,if_neg (by omega),if_neg (by omega),if_pos c4] at h2;split at h2
       ·cases h2
       ·split at h2
        ·cases h2
        ·exact Cc a h2
      by_cases c13:k=13
      ·unfold ug at h2;rw [if_neg (by omega),if_neg c2,if_neg (by omega),if_neg (by omega),if_neg c4,if_neg (by omega),if_neg (by omega),if_pos (.inl c13)] at h2;split at h2
       ·cases h2
       ·exact Cc a h2
      ·rw [Bool.or_eq_true] at b7;rcases b7 with b7 | b7
       ·simp at b7;omega
       ·exact Ou a b7
     ·rintro rfl;unfold ug at h2;rw [if_neg (by decide),if_neg (by decide),if_neg (by decide),if_neg (by decide),if_neg (by decide),if_neg (by decide),if_neg (by decide),if_pos (.inl rfl)] at h2;split at h2
      ·cases h2
      ·rename_i h3;exact Jq i (by simpa using h3)
theorem ah.EF (cl:ByteArray->Bool):∀ (l:List ah) (par:Int) (dp:Nat),ah.aT cl par dp l=0->(ah.dA l).any iU=false->ah.Oq l
 | [],_,_,_,_=>by rw [ah.Oq];trivial
 | x::l,par,dp,h,hu=>by
  rw [ah.aT] at h;rw [ah.dA,List.any_append,Bool.or_eq_false_iff] at hu;rw [ah.Oq];split at h
  ·rename_i h1;exact absurd h h1
  ·rename_i h1
   exact ⟨ah.Jr cl x par dp (Classical.not_not.1 h1) hu.1,ah.EF cl l par dp h hu.2⟩
end
mutual
def Nd.vals (key:ByteArray):Nd->List ByteArray
 | .mk n _ a ks=>if aZ n=true then [] else ((a.filter fun p=>decide (p.key=key)).map (·.val))++Nd.bT key ks
def Nd.bT (key:ByteArray):List Nd->List ByteArray
 | []=>[]
 | x::l=>x.vals key++Nd.bT key l
end
theorem zO (key:ByteArray) (l m:List Nd):Nd.bT key (l++m)=Nd.bT key l++Nd.bT key m:=by
 induction l with
 | nil=>rw [Nd.bT];rfl
 | cons x l ih=>rw [List.cons_append,Nd.bT,Nd.bT,ih,jn5]
def ah.Gw:ah->Int
 | .mk k _ _ _ _ _ _ _ _=>k
def ah.iOf:ah->ByteArray
 | .mk _ _ i _ _ _ _ _ _=>i
theorem zY (cl:ByteArray->Bool):∀ (l:List ah) (par:Int) (dp:Nat),ah.aT cl par dp l=0->∀ x∈l,gP x.Gw par=true/\∃ dp',x.err cl par dp'=0
 | [],_,_,_,x,hx=>by cases hx
 | b::l,par,dp,h,x,hx=>by
  rw [ah.aT] at h;split at h
  ·rename_i h1;exact absurd h h1
  ·rename_i h1
   rcases List.mem_cons.1 hx with rfl | hx
   ·have h2:=Classical.not_not.1 h1;refine ⟨?_,dp,h2⟩;obtain ⟨k,lv,i,t,d,ti,a,li,ks⟩:=x;rw [ah.err] at h2;split at h2
    ·cases h2
    ·split at h2
     ·cases h2
     ·rename_i h3
      show gP k par=true;cases h4:gP k par
      ·exact absurd (.inr h4) h3
      ·rfl
   ·exact zY cl l par dp h x hx
structure Sl where
 ti:List aj
 bl:List ah
def qX (b:ah):Bool:=match b with
 | .mk k lv _ _ _ _ _ _ _=>decide (k=2)&&(decide (lv=1)||decide (lv=2))
def jr (b:ah):Bool:=decide (b.Gw=5)||qX b
def ah.jaz:ah->List aj
 | .mk _ _ _ _ _ _ _ li _=>li
def dI (out:List Sl) (b:ah):List Sl:=
 if jr b=true then out++[⟨if b.Gw=5 then [] else b.jaz,[]⟩]
 else match out.getLast? with
  | some s=>out.dropLast++[⟨s.ti,s.bl++[b]⟩]
  | none=>[⟨[],[b]⟩]
def Lc (l:List ah):List Sl:=l.foldl dI []
structure Pt where
 ti:Bool
 bl:List ah
structure tQ where
 all:List Pt
 op:Pt
 some_:Bool
def dR (s:tQ):tQ:=⟨if s.some_=true then s.all++[s.op] else s.all,⟨false,[]⟩,true⟩
def q0z (s:tQ) (b:ah):tQ:=
 if jr b=true then (if qX b=true then ⟨(dR s).all,⟨true,[b]⟩,true⟩ else ⟨(dR s).all,⟨false,[]⟩,true⟩)
 else ⟨s.all,⟨s.op.ti,s.op.bl++[b]⟩,true⟩
def ql:tQ:=⟨[],⟨false,[]⟩,false⟩
def l6 (l:List ah):tQ:=l.foldl q0z ql
def dZ (l:List ah):List Pt:=(dR (l6 l)).all
def kg (p:Pt):Sl:=if p.ti=true then ⟨match p.bl with | b::_=>b.jaz | []=>[],p.bl.tail⟩ else ⟨[],p.bl⟩
def slP (l:List ah):List Sl:=(dZ l).map kg
def Ov (p:Pt):Prop:=p.ti=true->∃ b t,p.bl=b::t/\qX b=true
theorem Ux (b:ah) (h:qX b=true):b.Gw=2:=by obtain ⟨k,lv,i,t,d,ti,a,li,ks⟩:=b;unfold qX at h;simp only [Bool.and_eq_true,decide_eq_true_eq] at h;exact h.1
structure EG (s:tQ):Prop where
 op:Ov s.op
 no:s.some_=false->s.all=[]/\s.op=⟨false,[]⟩
 al:∀ p∈s.all,Ov p
theorem GV (s:tQ) (h:EG s):∀ p∈(dR s).all,Ov p:=by
 unfold dR;split
 ·intro p hp;rcases List.mem_append.1 hp with hp | hp
  ·exact h.al p hp
  ·simp at hp;subst hp;exact h.op
 ·exact h.al
theorem Js (s:tQ) (b:ah) (h:EG s):EG (q0z s b):=by
 unfold q0z;split
 ·split
  ·rename_i ht
   exact ⟨(fun _=>⟨b,[],rfl,ht⟩),(fun e=>by cases e),GV s h⟩
  ·exact ⟨(fun e=>by cases e),(fun e=>by cases e),GV s h⟩
 ·refine ⟨fun e=>?_,(fun e=>by cases e),h.al⟩;obtain ⟨c,t,h1,h2⟩:=h.op e;exact ⟨c,t++[b],by show s.op.bl++[b]=_;rw [h1];rfl,h2⟩
theorem Jt:∀ (l:List ah) (s:tQ),EG s->EG (l.foldl q0z s)
 | [],s,h=>h
 | b::l,s,h=>by rw [List.foldl_cons];exact Jt l _ (Js s b h)
theorem ps0:EG ql:=⟨(fun e=>by cases e),(fun _=>⟨rfl,rfl⟩),(fun p hp=>by cases hp)⟩
theorem WX (p:Pt) (b:ah) (h:Ov p):kg ⟨p.ti,p.bl++[b]⟩=⟨(kg p).ti,(kg p).bl++[b]⟩:=by
 unfold kg;by_cases ht:p.ti=true
 ·obtain ⟨c,t,h1,h2⟩:=h ht;rw [if_pos ht,if_pos ht,h1];rfl
 ·rw [if_neg ht,if_neg ht]
def slS (s:tQ):List Sl:=(dR s).all.map kg
theorem Sd (s:tQ) (b:ah) (h:EG s):slS (q0z s b)=dI (slS s) b:=by
 unfold slS;by_cases hb:jr b=true
 ·unfold q0z dI;rw [if_pos hb,if_pos hb];by_cases ht:qX b=true
  ·rw [if_pos ht];have hk:=Ux b ht;have e1:(dR ⟨(dR s).all,⟨true,[b]⟩,true⟩).all=(dR s).all++[⟨true,[b]⟩]:=rfl;rw [e1,jn1,List.map_singleton,if_neg (by omega)];rfl
  ·rw [if_neg ht];have hk:b.Gw=5:=by
    unfold jr at hb;rw [Bool.or_eq_true] at hb;rcases hb with hb | hb
    ·exact of_decide_eq_true hb
    ·exact absurd hb ht
   have e1:(dR ⟨(dR s).all,⟨false,[]⟩,true⟩).all=(dR s).all++[⟨false,[]⟩]:=rfl;rw [e1,jn1,List.map_singleton,if_pos hk];rfl
 ·unfold q0z dI;rw [if_neg hb,if_neg hb];have e1:(dR ⟨s.all,⟨s.op.ti,s.op.bl++[b]⟩,true⟩).all=s.all++[⟨s.op.ti,s.op.bl++[b]⟩]:=rfl;rw [e1,jn1,List.map_singleton,WX s.op b h.op];cases hs:s.some_ with
  | true=>
   have e2:(dR s).all=s.all++[s.op]:=by unfold dR;rw [if_pos hs]
   rw [e2,jn1,List.map_singleton,List.getLast?_append];simp
  | false=>
   obtain ⟨h1,h2⟩:=h.no hs;have e2:(dR s).all=[]:=by unfold dR;rw [if_neg (by rw [hs];simp),h1]
   rw [e2,h1,h2];rfl
theorem Ju:∀ (l:List ah) (s:tQ),EG s->slS (l.foldl q0z s)=l.foldl dI (slS s)
 | [],s,_=>rfl
 | b::l,s,h=>by rw [List.foldl_cons,List.foldl_cons,Ju l _ (Js s b h),Sd s b h]
theorem GX (l:List ah):slP l=Lc l:=Ju l ql ps0
def yO (l:List ah):Nat:=(l.filter jr).length
theorem Ow (out:List Sl) (b:ah):(dI out b).length=if jr b=true then out.length+1 else if out.isEmpty=true then 1 else out.length:=by
 unfold dI;split
 ·simp
 ·cases hg:out.getLast? with
  | none=>
   have:out=[]:=by simpa using hg
   rw [this];rfl
  | some s=>
   have e:=GY hg;have h0:out≠[]:=by rintro rfl;simp at hg
   have h1:out.isEmpty=false:=by cases out;exact absurd rfl h0;rfl
   simp only [h1];rw [List.length_append,List.length_dropLast];have:0<out.length:=List.length_pos_iff.2 h0;simp;omega
theorem EH:∀ (l:List ah) (out:List Sl),(out≠[]->(l.foldl dI out).length=out.length+yO l)/\(out=[]->(l.foldl dI out).length=yO l\/(l.foldl dI out).length=yO l+1)
 | [],out=>⟨fun _=>by simp [yO],fun h=>by rw [h];left;rfl⟩
 | b::l,out=>by
  have hs:=Ow out b;have hne:dI out b≠[]:=by
   intro e;rw [e] at hs;simp at hs;split at hs
   ·omega
   ·split at hs
    ·omega
    ·rename_i h1 h2
     have:out=[]:=List.eq_nil_of_length_eq_zero (by simpa using hs.symm);rw [this] at h2;exact h2 rfl
  have h1:=(EH l (dI out b)).1 hne;have hc:yO (b::l)=(if jr b=true then 1 else 0)+yO l:=by unfold yO;rw [List.filter_cons];cases jr b<;>simp;omega
  rw [List.foldl_cons];constructor
  ·intro h0;have h2:out.isEmpty=false:=by cases out;exact absurd rfl h0;rfl
   rw [h1,hs,hc,h2];cases jr b<;>simp;omega
  ·intro h0;rw [h1,hs,hc,h0];cases jr b
   ·right;simp<;>omega
   ·left;simp<;>omega
theorem WY (l:List ah):(Lc l).length=yO l\/(Lc l).length=yO l+1:=(EH l []).2 rfl
theorem Ox (p out:List Sl) (b:ah) (h:out≠[]):dI (p++out) b=p++dI out b:=by
 unfold dI;split
 ·rw [jn5]
 ·rw [List.getLast?_append];cases hg:out.getLast? with
  | none=>exact absurd (by simpa using hg) h
  | some s=>
   simp only [Option.some_or];rw [List.dropLast_append_of_ne_nil h,jn5]
theorem uw (out:List Sl) (b:ah):dI out b≠[]:=by
 unfold dI;split
 ·simp
 ·split<;>simp
theorem EI:∀ (l:List ah) (p out:List Sl),out≠[]->l.foldl dI (p++out)=p++l.foldl dI out
 | [],p,out,_=>rfl
 | b::l,p,out,h=>by rw [List.foldl_cons,List.foldl_cons,Ox p out b h];exact EI l p _ (uw out b)
theorem Sg (a b:List ah) (x:ah) (h:jr x=true):Lc (a++x::b)=Lc a++Lc (x::b):=by
 unfold Lc;rw [List.foldl_append,List.foldl_cons,List.foldl_cons];have e1:dI (a.foldl dI []) x=a.foldl dI []++dI [] x:=by unfold dI;rw [if_pos h,if_pos h];rfl
 rw [e1,EI b _ _ (uw [] x)]
theorem jb0 (b:List ah) (x:ah):1<=(Lc (x::b)).length:=by
 have h:∀ (l:List ah) (out:List Sl),out≠[]->l.foldl dI out≠[]:=by
  intro l;induction l with
  | nil=>exact fun out h=>h
  | cons y l ih=>intro out h;rw [List.foldl_cons];exact ih _ (uw out y)
 unfold Lc;rw [List.foldl_cons];exact List.length_pos_iff.2 (h b _ (uw [] x))
def goB (b:ah):Bool:=!jr b
def tV:List ah->List (List ah)
 | []=>[]
 | b::l=>(b::l.takeWhile goB)::tV (l.dropWhile goB)
termination_by l=>l.length
decreasing_by
 have:∀ (l:List ah),(l.dropWhile goB).length<=l.length:=by
  intro l;induction l with
  | nil=>simp
  | cons x l ih=>rw [List.dropWhile_cons];split<;>simp<;>omega
 have:=this l;simp only [List.length_cons];omega
theorem qz:tV []=[]:=by rw [tV]
theorem rQ (b:ah) (l:List ah):tV (b::l)=(b::l.takeWhile goB)::tV (l.dropWhile goB):=by rw [tV]
def ko (s:List ah):List ah:=match s with
 | b::l=>if b.Gw=5 then l else b::l
 | []=>[]
def qA (s:List ah):Pt:=match s with
 | b::l=>if qX b=true then ⟨true,b::l⟩ else if b.Gw=5 then ⟨false,l⟩ else ⟨false,b::l⟩
 | []=>⟨false,[]⟩
theorem uy (s:List ah):(qA s).bl=ko s:=by
 unfold qA ko;cases s with
 | nil=>rfl
 | cons b l=>
  simp only;by_cases ht:qX b=true
  ·have:=Ux b ht;rw [if_pos ht,if_neg (by omega)]
  ·rw [if_neg ht];split<;>rfl
theorem Oy {b:ah}:goB b=true↔¬ jr b=true:=by unfold goB;cases jr b<;>simp
theorem rR:∀ (l:List ah) (s:tQ),s.some_=true->(dR (l.foldl q0z s)).all=s.all++⟨s.op.ti,s.op.bl++l.takeWhile goB⟩::(tV (l.dropWhile goB)).map qA
 | [],s,hs=>by
  rw [List.foldl_nil,List.takeWhile_nil,List.dropWhile_nil,qz,List.append_nil];unfold dR;rw [if_pos hs];rfl
 | b::l,s,hs=>by
  rw [List.foldl_cons,List.takeWhile_cons,List.dropWhile_cons];by_cases hb:jr b=true
  ·have hg:¬ goB b=true:=fun h=>Oy.1 h hb
   rw [if_neg hg,if_neg hg,List.append_nil,rQ,List.map_cons];have hfin:(dR s).all=s.all++[s.op]:=by unfold dR;rw [if_pos hs]
   by_cases ht:qX b=true
   ·have e1:q0z s b=⟨s.all++[s.op],⟨true,[b]⟩,true⟩:=by unfold q0z;rw [if_pos hb,if_pos ht,hfin]
    rw [e1,rR l _ rfl];have e2:qA (b::l.takeWhile goB)=⟨true,b::l.takeWhile goB⟩:=by unfold qA;simp only;rw [if_pos ht]
    rw [e2,jn5];rfl
   ·have hk:b.Gw=5:=by
     unfold jr at hb;rw [Bool.or_eq_true] at hb;rcases hb with hb | hb
     ·exact of_decide_eq_true hb
     ·exact absurd hb ht
    have e1:q0z s b=⟨s.all++[s.op],⟨false,[]⟩,true⟩:=by unfold q0z;rw [if_pos hb,if_neg ht,hfin]
    rw [e1,rR l _ rfl];have e2:qA (b::l.takeWhile goB)=⟨false,l.takeWhile goB⟩:=by unfold qA;simp only;rw [if_neg ht,if_pos hk]
    rw [e2,jn5];rfl
  ·have hg:goB b=true:=Oy.2 hb;rw [if_pos hg,if_pos hg];have e1:q0z s b=⟨s.all,⟨s.op.ti,s.op.bl++[b]⟩,true⟩:=by unfold q0z;rw [if_neg hb]
   rw [e1,rR l _ rfl,jn5];rfl
theorem qB (l:List ah):dZ l=(tV l).map qA:=by
 unfold dZ l6;cases l with
 | nil=>rw [qz];rfl
 | cons b l=>
  rw [List.foldl_cons,rQ,List.map_cons];by_cases hb:jr b=true
  ·by_cases ht:qX b=true
   ·have e1:q0z ql b=⟨[],⟨true,[b]⟩,true⟩:=by unfold q0z;rw [if_pos hb,if_pos ht];rfl
    have e2:qA (b::l.takeWhile goB)=⟨true,b::l.takeWhile goB⟩:=by unfold qA;simp only;rw [if_pos ht]
    rw [e1,rR l _ rfl,e2];rfl
   ·have hk:b.Gw=5:=by
     unfold jr at hb;rw [Bool.or_eq_true] at hb;rcases hb with hb | hb
     ·exact of_decide_eq_true hb
     ·exact absurd hb ht
    have e1:q0z ql b=⟨[],⟨false,[]⟩,true⟩:=by unfold q0z;rw [if_pos hb,if_neg ht];rfl
    have e2:qA (b::l.takeWhile goB)=⟨false,l.takeWhile goB⟩:=by unfold qA;simp only;rw [if_neg ht,if_pos hk]
    rw [e1,rR l _ rfl,e2];rfl
  ·have e1:q0z ql b=⟨[],⟨false,[b]⟩,true⟩:=by unfold q0z;rw [if_neg hb];rfl
   have ht:¬ qX b=true:=fun h=>hb (by unfold jr;rw [h,Bool.or_true])
   have hk:¬ b.Gw=5:=fun h=>hb (by unfold jr;rw [decide_eq_true h];rfl)
   have e2:qA (b::l.takeWhile goB)=⟨false,b::l.takeWhile goB⟩:=by unfold qA;simp only;rw [if_neg ht,if_neg hk]
   rw [e1,rR l _ rfl,e2];rfl
def Ce:ByteArray:=⟨#[115,108,105,100,101]⟩
def tX (bl:List ah):Nd:=aQ eT [⟨iF,Ce⟩] (eP bl)
def Oz (l:List ah):List Nd:=(tV l).map fun s=>tX (ko s)
theorem lS (l:List ah):(dZ l).map (fun p=>tX p.bl)=Oz l:=by
 rw [qB,List.map_map];unfold Oz;congr 1
 funext s
 simp [uy]
theorem rT (n:Nat):∀ (l:List ah),l.length<=n->(tV l).flatten=l:=by
 induction n with
 | zero=>intro l hl;rw [List.eq_nil_of_length_eq_zero (Nat.le_zero.1 hl),qz];rfl
 | succ n ih=>
  intro l hl;cases l with
  | nil=>rw [qz];rfl
  | cons b l=>
   rw [List.length_cons] at hl;have:(l.dropWhile goB).length<=l.length:=by have h:=congrArg List.length (List.takeWhile_append_dropWhile (p:=goB) (l:=l));rw [List.length_append] at h;omega
   rw [rQ,List.flatten_cons,ih _ (by omega),List.cons_append,List.takeWhile_append_dropWhile]
theorem MK (n m:Nat) (h:n<10 ^ (m+1)):(Lib.decDigits n).length<=m+1:=by
 induction m generalizing n with
 | zero=>
  rw [Lib.decDigits,dif_pos (by simpa using h)];simp
 | succ m ih=>
  rw [Lib.decDigits];split
  ·simp
  ·rw [List.length_append,List.length_singleton];have:=ih (n/10) (by
    rw [Nat.div_lt_iff_lt_mul (by decide)];have e:10 ^ (m+1+1)=10 ^ (m+1)*10:=Nat.pow_succ ..;omega)
   omega
theorem kS (cl:ByteArray->Bool) {k lv:Int} {i t d ti:ByteArray} {a:At} {li:List aj} {ks:List ah} {par:Int} {dp:Nat} (h:(ah.mk k lv i t d ti a li ks).err cl par dp=0) : ug cl k lv i t d ti a li ks=0/\Cy k lv i t d ti a li ks=true/\ah.aT cl k (dp+1) ks=0:=by
 rw [ah.err] at h;split at h
 ·cases h
 ·split at h
  ·cases h
  ·rename_i hb
   split at h
   ·rename_i h1;exact absurd h h1
   ·rename_i h1
    refine ⟨Classical.not_not.1 h1,?_,h⟩;cases hx:Cy k lv i t d ti a li ks
    ·exact absurd (.inl hx) hb
    ·rfl
theorem OB (cl:ByteArray->Bool) {k lv:Int} {i t d ti:ByteArray} {a:At} {li:List aj} {ks:List ah} (h2:ug cl k lv i t d ti a li ks=0) (hbf:Cy k lv i t d ti a li ks=true):FN li=0:=by
 unfold ug at h2;by_cases c1:k=1
 ·rw [if_pos c1] at h2;split at h2
  ·cases h2
  ·exact h2
 rw [if_neg c1] at h2;by_cases c2:k=2
 ·rw [if_pos c2] at h2;split at h2
  ·cases h2
  ·split at h2
   ·rename_i h3;exact absurd h2 h3
   ·split at h2
    ·cases h2
    ·exact h2
 rw [if_neg c2] at h2;by_cases c3:k=12
 ·rw [if_pos c3] at h2;split at h2
  ·cases h2
  ·exact h2
 ·have:li=[]:=by
   unfold Cy at hbf;simp only [Bool.and_eq_true] at hbf;have b8:=hbf.1.2;rw [Bool.or_eq_true] at b8;rcases b8 with b8 | b8
   ·simp at b8;omega
   ·simpa using b8
  rw [this];unfold FN;rw [aj.aT]
theorem mX (cl:ByteArray->Bool) (par:Int) (dp:Nat):∀ (l:List ah),ah.aT cl par dp l=0↔∀ b∈l,b.err cl par dp=0
 | []=>by rw [ah.aT];exact ⟨fun _ b hb=>(by cases hb),fun _=>rfl⟩
 | x::l=>by
  rw [ah.aT];by_cases h:x.err cl par dp=0
  ·rw [if_neg (by simp [h]),mX cl par dp l];constructor
   ·intro h1 b hb;rcases List.mem_cons.1 hb with rfl | hb
    ·exact h
    ·exact h1 b hb
   ·exact fun h1 b hb=>h1 b (List.mem_cons_of_mem _ hb)
  ·rw [if_pos h];exact ⟨fun h1=>absurd h1 h,fun h1=>absurd (h1 x (List.mem_cons_self ..)) h⟩
theorem uz:∀ (l:List ah),(ah.dA l).any iU=false↔∀ b∈l,b.aX.any iU=false
 | []=>by rw [ah.dA];exact ⟨fun _ b hb=>(by cases hb),fun _=>rfl⟩
 | x::l=>by
  rw [ah.dA,List.any_append,Bool.or_eq_false_iff,uz l];constructor
  ·rintro ⟨h1,h2⟩ b hb;rcases List.mem_cons.1 hb with rfl | hb
   ·exact h1
   ·exact h2 b hb
  ·exact fun h=>⟨h x (List.mem_cons_self ..),fun b hb=>h b (List.mem_cons_of_mem _ hb)⟩
theorem GZ (s:List ah):∀ b∈ko s,b∈s:=by
 unfold ko;cases s with
 | nil=>exact fun b hb=>hb
 | cons x l=>
  simp only;split
  ·exact fun b hb=>List.mem_cons_of_mem _ hb
  ·exact fun b hb=>hb
theorem Jv (l:List ah):∀ s∈tV l,∀ b∈ko s,b∈l:=by intro s hs b hb;have hf:=rT l.length l (Nat.le_refl _);rw [<- hf];exact List.mem_flatten.2 ⟨s,hs,GZ s b hb⟩
theorem WZ (cl:ByteArray->Bool) (l:List ah) (h:ah.aT cl 0 0 l=0) (hu:(ah.dA l).any iU=false) (s:List ah) (hs:s∈tV l) : ah.aT cl 0 0 (ko s)=0/\(ah.dA (ko s)).any iU=false:=
 ⟨(mX cl 0 0 _).2 fun b hb=>(mX cl 0 0 l).1 h b (Jv l s hs b hb),(uz _).2 fun b hb=>(uz l).1 hu b (Jv l s hs b hb)⟩
mutual
def ah.M4:ah->Prop
 | .mk k lv i t d ti a li ks=>aj.Gm li/\(k=2\/k=8->0<=lv/\lv<=999999999)/\(k=10->ks≠[]/\∀ r∈ks,r.kids.length=i.size/\∀ c∈r.kids,aj.Gm c.mI)/\(∀ c∈a.cls,aZ c=false)/\(k=13->aZ i=false)/\k≠11/\k≠12/\(k≠10->ah.sM ks)
def ah.sM:List ah->Prop
 | []=>True
 | x::l=>x.M4/\ah.sM l
end
theorem Jw:∀ (l:List ah),(ah.dA l).any iU=false->∀ b∈l,Ob b.mI=false/\(ah.dA b.kids).any iU=false:=by intro l h b hb;have h1:=(uz l).1 h b hb;obtain ⟨k,lv,i,t,d,ti,a,li,ks⟩:=b;rw [ah.aX,List.any_append,Bool.or_eq_false_iff] at h1;exact h1
mutual
theorem ah.OD (cl:ByteArray->Bool):∀ (b:ah) (par:Int) (dp:Nat),par≠10->par≠11->gP b.Gw par=true->b.err cl par dp=0->(b.aX).any iU=false->b.M4
 | .mk k lv i t d ti a li ks,par,dp,hp0,hp1,hpl,h,hu=>by
  have hh:=ah.Jr cl _ par dp h hu;obtain ⟨h2,hbf,h3⟩:=kS cl h;rw [ah.hok] at hh;obtain ⟨g1,g2,g3,g4,g5,g6⟩:=hh;rw [ah.aX,List.any_append,Bool.or_eq_false_iff] at hu;have hk:k≠11/\k≠12:=by
   have hpl':gP k par=true:=hpl;unfold gP at hpl';split at hpl'
   ·have:=of_decide_eq_true hpl';omega
   ·(try rw [if_neg hp0,if_neg hp1] at hpl')
    simp at hpl';omega
  rw [ah.M4];refine ⟨g1,g2,fun h10=>?_,g4,g5,hk.1,hk.2,fun h10=>ah.nO cl ks k (dp+1) h10 hk.1 h3 hu.2⟩;obtain ⟨q1,q2⟩:=g3 h10;refine ⟨q1,fun r hr=>⟨q2 r hr,fun c hc=>?_⟩⟩;have r1:=(mX cl k (dp+1) ks).1 h3 r hr;have r2:=Jw ks hu.2 r hr;obtain ⟨k',Uy,i',t',d',Ld,a',li',ks'⟩:=r;obtain ⟨-,-,s3⟩:=kS cl r1;have c1:=(mX cl k' (dp+1+1) ks').1 s3 c hc;have c2:=Jw ks' r2.2 c hc;obtain ⟨k9,lv9,i9,t9,d9,ti9,a9,li9,ks9⟩:=c;obtain ⟨u1,u2,-⟩:=kS cl c1;exact Jp li9 (OB cl u1 u2) c2.1
theorem ah.nO (cl:ByteArray->Bool):∀ (l:List ah) (par:Int) (dp:Nat),par≠10->par≠11->ah.aT cl par dp l=0->(ah.dA l).any iU=false->ah.sM l
 | [],_,_,_,_,_,_=>by rw [ah.sM];trivial
 | x::l,par,dp,hp0,hp1,h,hu=>by
  have hpl:=(zY cl (x::l) par dp h x (List.mem_cons_self ..)).1;rw [ah.aT] at h;rw [ah.dA,List.any_append,Bool.or_eq_false_iff] at hu;rw [ah.sM];split at h
  ·rename_i h1;exact absurd h h1
  ·rename_i h1
   exact ⟨ah.OD cl x par dp hp0 hp1 hpl (Classical.not_not.1 h1) hu.1,ah.nO cl l par dp hp0 hp1 h hu.2⟩
end
open Go.RowKit
theorem Si:(Tryz.prog.info? 48).map (fun i=>(i.zero,i.size,i.bytes))=some (some (.agg #[.int .i64 0,.int .i64 0,.string ByteArray.empty,.string ByteArray.empty,.string ByteArray.empty,.string ByteArray.empty,.string ByteArray.empty,.slice none 0 0,.slice none 0 0,.slice none 0 0,.slice none 0 0]),11,192):=by kernel_rfl
section
variable {T:TypeId} {k B:Nat} {w0 w w1 w2:World} {ds es:List D} {rows bR:List (List Value)} {v v':Value}
end
open Go.RowKit
open Go.RowKit
mutual
theorem ah.OE:∀ (b:ah),b.aX=b.inls
 | .mk k lv i t d ti a li ks=>by rw [ah.aX,ah.inls,ah.jg ks]
theorem ah.jg:∀ (l:List ah),ah.dA l=ah.aU l
 | []=>by rw [ah.dA,ah.aU]
 | x::l=>by rw [ah.dA,ah.aU,ah.OE x,ah.jg l]
end
end Go.Proofs.YtkfnkeflalcphaaGreatDoor

