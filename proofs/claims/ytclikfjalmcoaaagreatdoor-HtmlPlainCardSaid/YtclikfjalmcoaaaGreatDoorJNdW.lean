/- Plain part: nodes of markup, and the nodes of inlines and blocks, as the chapter says. Plain part: what well-formed, resolved blocks give to the walk of their nodes; the plain text of nodes; their anchors. Words for nodes in memory. -/
import Derived.Test.YtclikfjalmcoaaaGreatDoorJPlLd
namespace Go.Proofs.YtclikfjalmcoaaaGreatDoor
open List renaming getElem?_eq_getElem->jc6,append_assoc->jdq,append_nil->jf6
set_option linter.unusedVariables false
set_option linter.unusedSimpArgs false
inductive Nd where
 | mk (nm tx:ByteArray) (at_:List Pr) (ks:List Nd)
def Nd.nm:Nd->ByteArray
 | .mk n _ _ _=>n
def Nd.tx:Nd->ByteArray
 | .mk _ t _ _=>t
def Nd.at_:Nd->List Pr
 | .mk _ _ a _=>a
def Nd.ks:Nd->List Nd
 | .mk _ _ _ k=>k
mutual
def Nd.d:Nd->D
 | .mk n t a ks=>.st [.str n,.str t,.sl 2 (a.map Pr.d),.sl 4 (Nd.dl ks)]
def Nd.dl:List Nd->List D
 | []=>[]
 | x::l=>x.d::Nd.dl l
end
theorem Nd.je:∀ (l:List Nd),Nd.dl l=l.map Nd.d
 | []=>by unfold Nd.dl;rfl
 | x::l=>by rw [Nd.dl,Nd.je l];rfl
def bU (l:List Nd):D:=.sl 4 (l.map Nd.d)
mutual
def Nd.sz:Nd->Nat
 | .mk _ _ _ ks=>1+Nd.aU ks
def Nd.aU:List Nd->Nat
 | []=>0
 | x::l=>x.sz+Nd.aU l
end
def A8 (l:List UInt8):ByteArray:=⟨l.toArray⟩
def jX:ByteArray:=⟨#[105,100]⟩
def eY:ByteArray:=⟨#[99,108,97,115,115]⟩
def rU:ByteArray:=⟨#[109,97,116,104]⟩
def dN:ByteArray:=⟨#[116,105,116,108,101]⟩
def dO:ByteArray:=⟨#[104,114,101,102]⟩
def xB:ByteArray:=⟨#[115,114,99]⟩
def xC:ByteArray:=⟨#[97,108,116]⟩
def iY:ByteArray:=⟨#[110,111,116,101,114,101,102]⟩
def oo:ByteArray:=⟨#[35,110,111,116,101,45]⟩
def xD:ByteArray:=⟨#[110,111,116,101,45]⟩
def dG:ByteArray:=⟨#[110,111,116,101]⟩
def jH:ByteArray:=⟨#[110,111,116,101,115]⟩
def Ct:ByteArray:=⟨#[108,97,110,103,117,97,103,101,45]⟩
def sStart:ByteArray:=⟨#[115,116,97,114,116]⟩
def tF:ByteArray:=⟨#[97,108,105,103,110]⟩
def nBr:ByteArray:=⟨#[98,114]⟩
def gY:ByteArray:=⟨#[99,111,100,101]⟩
def GH:ByteArray:=⟨#[115,112,97,110]⟩
def nEm:ByteArray:=⟨#[101,109]⟩
def GD:ByteArray:=⟨#[115,116,114,111,110,103]⟩
def nS:ByteArray:=⟨#[115]⟩
def nA:ByteArray:=⟨#[97]⟩
def Ut:ByteArray:=⟨#[105,109,103]⟩
def nP:ByteArray:=⟨#[112]⟩
def nH:ByteArray:=⟨#[104]⟩
def Ij:ByteArray:=⟨#[112,114,101]⟩
def jS:ByteArray:=⟨#[100,105,118]⟩
def Ug:ByteArray:=⟨#[104,114]⟩
def uJ:ByteArray:=⟨#[98,108,111,99,107,113,117,111,116,101]⟩
def nUl:ByteArray:=⟨#[117,108]⟩
def SN:ByteArray:=⟨#[111,108]⟩
def nLi:ByteArray:=⟨#[108,105]⟩
def mD:ByteArray:=⟨#[116,97,98,108,101]⟩
def xG:ByteArray:=⟨#[116,104,101,97,100]⟩
def kT:ByteArray:=⟨#[116,98,111,100,121]⟩
def mo:ByteArray:=⟨#[116,114]⟩
def wM:ByteArray:=⟨#[116,104]⟩
def tL:ByteArray:=⟨#[116,100]⟩
def jc:ByteArray:=⟨#[115,101,99,116,105,111,110]⟩
def rV:ByteArray:=⟨#[104,101,97,100]⟩
def nR:ByteArray:=⟨#[109,101,116,97]⟩
def kN:ByteArray:=⟨#[116,105,116,108,101]⟩
def PK:ByteArray:=⟨#[104,116,109,108]⟩
def uQ:ByteArray:=⟨#[98,111,100,121]⟩
def Ir:ByteArray:=⟨#[99,104,97,114,115,101,116]⟩
def j3:ByteArray:=⟨#[117,116,102,45,56]⟩
def ow:ByteArray:=⟨#[108,97,110,103]⟩
def VE:ByteArray:=⟨#[108,101,102,116]⟩
def Og:ByteArray:=⟨#[99,101,110,116,101,114]⟩
def RU:ByteArray:=⟨#[114,105,103,104,116]⟩
def QG:ByteArray:=⟨#[32]⟩
def aL (name:ByteArray) (a:List Pr) (ks:List Nd):Nd:=.mk name ⟨#[]⟩ a ks
def yx (s:ByteArray):Nd:=.mk ⟨#[]⟩ s [] []
def bJ (s:ByteArray):List Nd:=if aW s=true then [] else [yx s]
def lC (k v:ByteArray):List Pr:=if aW v=true then [] else [⟨k,v⟩]
def eH:List ByteArray->ByteArray
 | []=>⟨#[]⟩
 | [x]=>x
 | x::y::l=>x++QG++eH (y::l)
def Nl (l:List ByteArray):List Pr:=if l.isEmpty=true then [] else [⟨eY,eH l⟩]
def kG (a:At) (more:List ByteArray):List Pr:=lC jX a.id++Nl (more++a.cls)
def qg (out:List Nd) (x:Nd):List Nd:=if aW x.nm=true then match out.getLast? with
  | some y=>if aW y.nm=true then out.dropLast++[.mk y.nm (y.tx++x.tx) y.at_ y.ks] else out++[x]
  | none=>out++[x]
 else out++[x]
def iC (l:List Nd):List Nd:=l.foldl qg []
def jG (l:List ah):ByteArray:=A8 (ah.aB l)
mutual
def ah.nd:ah->Nd
 | .mk k t d ti a ar ci ks=>
  if k=2 then yx QG
  else if k=3 then aL nBr [] []
  else if k=4 then aL gY [] (bJ t)
  else if k=5 then aL GH [⟨eY,rU⟩] (bJ t)
  else if k=6 then aL nEm [] (iC (ah.Cj ks))
  else if k=7 then aL GD [] (iC (ah.Cj ks))
  else if k=8 then aL nS [] (iC (ah.Cj ks))
  else if k=9 then aL nA (⟨dO,d⟩::lC dN ti) (iC (ah.Cj ks))
  else if k=10 then aL Ut (⟨xB,d⟩::⟨xC,jG ks⟩::lC dN ti++kG a []) []
  else if k=11 then aL GH (kG a []) (iC (ah.Cj ks))
  else if k=12 then aL nA [⟨dO,oo++t⟩,⟨eY,iY⟩] (bJ t)
  else if k=16 then aL nA [⟨dO,d⟩] (bJ d)
  else yx t
def ah.Cj:List ah->List Nd
 | []=>[]
 | x::l=>x.nd::ah.Cj l
end
def fA (l:List ah):List Nd:=iC (ah.Cj l)
theorem o9:∀ (l:List ah),ah.Cj l=l.map ah.nd
 | []=>by rw [ah.Cj];rfl
 | x::l=>by rw [ah.Cj,o9 l];rfl
def oz (c:UInt8):ByteArray:=if c=108 then VE else if c=99 then Og else if c=114 then RU else ⟨#[]⟩
def Pp (name:ByteArray) (c:UInt8) (b:au):Nd:=aL name (lC tF (oz c)) (fA b.l6)
def au.kids:au->List au
 | .mk _ _ _ _ _ _ _ _ ks=>ks
def ko (name:ByteArray):List UInt8->List au->List Nd
 | c::cs,b::l=>Pp name c b::ko name cs l
 | _,_=>[]
def jI (name i:ByteArray) (b:au):Nd:=aL mo [] (ko name i.data.toList b.kids)
def dM (i:ByteArray):List au->Nd
 | []=>aL mD [] [aL xG [] []]
 | h::rows=>aL mD [] (aL xG [] [jI wM i h]::if rows.isEmpty=true then [] else [aL kT [] (rows.map (jI tL i))])
mutual
def au.wK:au->List Nd
 | .mk k lv i t d ti a li ks=>
  if k=1 then [aL nP [] (fA li)]
  else if k=2 then [aL (nH++eB lv.toNat) (kG a []) (fA li)]
  else if k=3 then [aL Ij [] [aL gY (lC eY (if aW i=true then ⟨#[]⟩ else Ct++i)) (bJ t)]]
  else if k=4 then [aL jS (kG a [rU]) (bJ t)]
  else if k=5 then [aL Ug [] []]
  else if k=6 then [aL uJ [] (au.aR ks)]
  else if k=7 then [aL nUl [] (au.aR ks)]
  else if k=8 then [aL SN (if lv=1 then [] else [⟨sStart,eB lv.toNat⟩]) (au.aR ks)]
  else if k=9 then [aL nLi [] (au.aR ks)]
  else if k=10 then [dM i ks]
  else if k=13 then [aL jS (kG a [i]) (au.aR ks)]
  else []
def au.aR:List au->List Nd
 | []=>[]
 | x::l=>x.wK++au.aR l
end
theorem yj:∀ (l:List au) (k:Nat) (x:au),l[k]?=some x->au.aR (l.take (k+1))=au.aR (l.take k)++x.wK
 | [],_,_,h=>by simp at h
 | y::l,0,x,h=>by
  simp at h;subst h;simp [au.aR]
 | y::l,k+1,x,h=>by
  rw [List.take_succ_cons,List.take_succ_cons,au.aR,au.aR,yj l k x (by simpa using h),jdq]
def iw (x:ah):Bool:=match x with
 | .mk k t _ _ _ _ _ _=>decide (k=15)||decide (k=13)||decide (k=14)||((decide (k=9)||decide (k=10))&&!aW t)
def kR (l:List ah):Bool:=(ah.aM l).any iw
def gZ (b:au):List Nd:=match b with
 | .mk k _ i _ _ _ _ _ ks=>if k=14 then [aL jS [⟨jX,xD++i⟩,⟨eY,dG⟩] (au.aR ks)] else []
def mq (l:List au):List Nd:=(au.aT l).flatMap gZ
def jZ (l:List au):List Nd:=au.aR l++if (mq l).isEmpty=true then [] else [aL jc [⟨eY,jH⟩] (mq l)]
def EL (title lang:ByteArray) (body:List Nd):Nd:=
 aL PK [⟨ow,lang⟩] [aL rV [] [aL nR [⟨Ir,j3⟩] [],aL kN [] (bJ title)],aL uQ [] body]
def dV (p:List Nd × ByteArray) (x:Nd):List Nd × ByteArray:=if aW x.nm=true then (p.1,p.2++x.tx) else (p.1++bJ p.2++[x],⟨#[]⟩)
def eX (l:List Nd):List Nd × ByteArray:=l.foldl dV ([],⟨#[]⟩)
def Le (l:List Nd):Prop:=∀ y,l.getLast?=some y->aW y.nm=false
def Nd.full (x:Nd):Prop:=aW x.nm=true->x=yx x.tx/\aW x.tx=false
theorem Dk {s:ByteArray} (h:aW s=true):s=⟨#[]⟩:=by unfold aW at h;have:=of_decide_eq_true h;exact ByteArray.ext (Array.toList_inj.1 (by simpa using this))
theorem Gq (a b:ByteArray):aW (a++b)=(aW a&&aW b):=by unfold aW;rw [show (a++b).data.toList=a.data.toList++b.data.toList by simp [ByteArray.data_append]];simp [Bool.decide_and]
theorem vJ:∀ (l:List Nd) (out:List Nd) (acc:ByteArray),(∀ x∈l,x.full)->Le out->Le (l.foldl dV (out,acc)).1/\l.foldl qg (out++bJ acc)=(l.foldl dV (out,acc)).1++bJ (l.foldl dV (out,acc)).2
 | [],out,acc,_,ho=>⟨ho,rfl⟩
 | x::l,out,acc,h,ho=>by
  have hl:=fun y hy=>h y (List.mem_cons_of_mem _ hy)
  have hx:=h x (List.mem_cons_self ..);rw [List.foldl_cons,List.foldl_cons];by_cases hn:aW x.nm=true
  ·obtain ⟨e1,e2⟩:=hx hn;have e3:dV (out,acc) x=(out,acc++x.tx):=by unfold dV;rw [if_pos hn]
   have e4:qg (out++bJ acc) x=out++bJ (acc++x.tx):=by
    unfold qg;rw [if_pos hn];have e5:aW (acc++x.tx)=false:=by rw [Gq,e2,Bool.and_false]
    have e6:bJ (acc++x.tx)=[yx (acc++x.tx)]:=by unfold bJ;rw [if_neg (by rw [e5];simp)]
    rw [e6];by_cases ha:aW acc=true
    ·have e7:bJ acc=[]:=by unfold bJ;rw [if_pos ha]
     rw [e7,jf6];have e8:acc++x.tx=x.tx:=by rw [Dk ha];apply ByteArray.ext;simp [ByteArray.data_append]
     rw [e8];cases hg:out.getLast? with
     | none=>simp only;rw [e1];rfl
     | some y=>simp only;rw [if_neg (by rw [ho y hg];simp),e1];rfl
    ·have e7:bJ acc=[yx acc]:=by unfold bJ;rw [if_neg ha]
     rw [e7,List.getLast?_append];simp only [List.getLast?_singleton,Option.some_or];have e9:aW (yx acc).nm=true:=rfl;rw [if_pos e9,List.dropLast_concat];rfl
   rw [e3,e4];exact vJ l out _ hl ho
  ·have e3:dV (out,acc) x=(out++bJ acc++[x],⟨#[]⟩):=by unfold dV;rw [if_neg hn]
   have e4:qg (out++bJ acc) x=(out++bJ acc++[x])++bJ ⟨#[]⟩:=by unfold qg;rw [if_neg hn];have:bJ ⟨#[]⟩=[]:=rfl;rw [this,jf6]
   rw [e3,e4];refine vJ l _ _ hl ?_;intro y hy;rw [List.getLast?_append] at hy;simp at hy;subst hy;simpa using hn
theorem II (l:List Nd) (h:∀ x∈l,x.full):iC l=(eX l).1++bJ (eX l).2:=
 (vJ l [] ⟨#[]⟩ h (fun y hy=>by simp at hy)).2
theorem Et (l:List Nd) (x:Nd):eX (l++[x])=dV (eX l) x:=by unfold eX;rw [List.foldl_append];rfl
mutual
def ah.tf:ah->Prop
 | .mk k t d ti a ar ci ks=>(k<2\/(12<k/\k<16)\/16<k->aW t=false)/\ah.Ev ks
def ah.Ev:List ah->Prop
 | []=>True
 | x::l=>x.tf/\ah.Ev l
end
theorem Lf (n:ByteArray) (a:List Pr) (ks:List Nd) (h:aW n=false):(aL n a ks).full:=fun e=>by
 have:aW n=true:=e;rw [h] at this;cases this
theorem Dl (s:ByteArray) (h:aW s=false):(yx s).full:=fun _=>⟨rfl,h⟩
theorem Oh:∀ (x:ah),x.tf->x.nd.full
 | .mk k t d ti a ar ci ks,h=>by
  rw [ah.tf] at h;rw [ah.nd];by_cases h2:k=2
  ·rw [if_pos h2];exact Dl _ rfl
  rw [if_neg h2];by_cases h3:k=3
  ·rw [if_pos h3];exact Lf _ _ _ rfl
  rw [if_neg h3];by_cases h4:k=4
  ·rw [if_pos h4];exact Lf _ _ _ rfl
  rw [if_neg h4];by_cases h5:k=5
  ·rw [if_pos h5];exact Lf _ _ _ rfl
  rw [if_neg h5];by_cases h6:k=6
  ·rw [if_pos h6];exact Lf _ _ _ rfl
  rw [if_neg h6];by_cases h7:k=7
  ·rw [if_pos h7];exact Lf _ _ _ rfl
  rw [if_neg h7];by_cases h8:k=8
  ·rw [if_pos h8];exact Lf _ _ _ rfl
  rw [if_neg h8];by_cases h9:k=9
  ·rw [if_pos h9];exact Lf _ _ _ rfl
  rw [if_neg h9];by_cases h10:k=10
  ·rw [if_pos h10];exact Lf _ _ _ rfl
  rw [if_neg h10];by_cases h11:k=11
  ·rw [if_pos h11];exact Lf _ _ _ rfl
  rw [if_neg h11];by_cases h12:k=12
  ·rw [if_pos h12];exact Lf _ _ _ rfl
  rw [if_neg h12];by_cases h16:k=16
  ·rw [if_pos h16];exact Lf _ _ _ rfl
  rw [if_neg h16];exact Dl _ (h.1 (by omega))
theorem zw:∀ (l:List ah),ah.Ev l->∀ x∈l,x.tf
 | [],_,x,hx=>by cases hx
 | y::l,h,x,hx=>by
  rw [ah.Ev] at h;rcases List.mem_cons.1 hx with rfl | hx
  ·exact h.1
  ·exact zw l h.2 x hx
theorem Ck (l:List ah) (h:ah.Ev l):∀ x∈ah.Cj l,x.full:=by intro x hx;rw [o9] at hx;obtain ⟨y,hy,rfl⟩:=List.mem_map.1 hx;exact Oh y (zw l h y hy)
theorem JR (l:List ah) (h:ah.Ev l):fA l=(eX (ah.Cj l)).1++bJ (eX (ah.Cj l)).2:=II _ (Ck l h)
theorem vw {k:Int} {t d ti:ByteArray} {a:At} {ar:List ByteArray} {ci:List Ci} {ks:List ah} (h:BJ k t d ti a ar ci ks=true):1<=k/\k<=16:=by unfold BJ at h;simp only [Bool.and_eq_true,decide_eq_true_eq] at h;omega
mutual
theorem RX:∀ (x:ah),x.src->x.deep.any iw=false->x.tf
 | .mk k t d ti a ar ci ks,h,hu=>by
  rw [ah.src] at h;rw [ah.deep,List.any_cons,Bool.or_eq_false_iff] at hu;rw [ah.tf];refine ⟨fun hk=>?_,Ag ks h.2 hu.2⟩;have h1:=h.1;unfold rM at h1;split at h1
  ·cases h1
  ·rename_i h0
   have hf:=vw (by simpa using h0);have hu1:=hu.1;unfold iw at hu1;simp only [Bool.or_eq_false_iff,decide_eq_false_iff_not] at hu1;have hk1:k=1:=by omega
   rw [if_pos (.inl hk1)] at h1;split at h1
   ·cases h1
   ·rename_i h2
    cases h3:aW t
    ·rfl
    ·exact absurd (.inl h3) h2
theorem Ag:∀ (l:List ah),ah.Ab l->(ah.aM l).any iw=false->ah.Ev l
 | [],_,_=>by rw [ah.Ev];trivial
 | x::l,h,hu=>by
  rw [ah.Ab] at h;rw [ah.aM,List.any_append,Bool.or_eq_false_iff] at hu;rw [ah.Ev];exact ⟨RX x h.1 hu.1,Ag l h.2 hu.2⟩
end
theorem zW (l:List ah) (h:tJ l=0) (hu:kR l=false):ah.Ev l:=Ag l (ah.pY l 0 true 0 h) hu
mutual
def au.bC:au->List ah
 | .mk _ _ _ _ _ _ _ li ks=>ah.aM li++au.dx ks
def au.dx:List au->List ah
 | []=>[]
 | x::l=>x.bC++au.dx l
end
mutual
def au.hok:au->Prop
 | .mk k lv i t d ti a li ks=>ah.Ev li/\(k=2\/k=8->0<=lv/\lv<=999999999)/\(k=10->ks≠[]/\∀ r∈ks,r.kids.length=i.size)/\(∀ c∈a.cls,aW c=false)/\(k=13->aW i=false)/\au.Lg ks
def au.Lg:List au->Prop
 | []=>True
 | x::l=>x.hok/\au.Lg l
end
theorem G6 (s:ByteArray) (h:iQ s=true):aW s=false:=by
 unfold iQ at h;simp only [Bool.and_eq_true,decide_eq_true_eq] at h;unfold aW;refine decide_eq_false fun e=>?_
 have h1:s.data.toList.length=s.size:=by simp
 rw [e] at h1;simp at h1;omega
theorem Lh:∀ (l seen:List ByteArray),dA seen l=0->∀ c∈l,aW c=false
 | [],_,_,c,hc=>by cases hc
 | x::l,seen,h,c,hc=>by
  rw [dA] at h;split at h
  ·cases h
  ·rename_i h1
   split at h
   ·cases h
   ·rcases List.mem_cons.1 hc with rfl | hc
    ·exact G6 _ (by simpa using h1)
    ·exact Lh l _ h c hc
theorem Ah (a:At) (h:a.err=0):∀ c∈a.cls,aW c=false:=by
 unfold At.err at h;split at h
 ·cases h
 ·split at h
  ·rename_i h1;exact absurd h h1
  ·rename_i h1
   exact Lh a.cls [] (Classical.not_not.1 h1)
theorem Li (a:At) (h:a.none=true):∀ c∈a.cls,aW c=false:=by
 unfold At.none at h;simp only [Bool.and_eq_true] at h;have h1:a.cls=[]:=by simpa using h.1.2
 rw [h1];intro c hc;cases hc
mutual
theorem au.G7 (cl:ByteArray->Bool):∀ (b:au) (par:Int) (dp:Nat),b.err cl par dp=0->(b.bC).any iw=false->b.hok
 | .mk k lv i t d ti a li ks,par,dp,h,hu=>by
  rw [au.err] at h;rw [au.bC,List.any_append,Bool.or_eq_false_iff] at hu;rw [au.hok];split at h
  ·cases h
  ·split at h
   ·cases h
   ·rename_i hb
    split at h
    ·rename_i h1;exact absurd h h1
    ·rename_i h1
     have h2:=Classical.not_not.1 h1;have hbf:AQ k lv i t d ti a li ks=true:=by
      cases hx:AQ k lv i t d ti a li ks
      ·exact absurd (.inl hx) hb
      ·rfl
     unfold AQ at hbf;simp only [Bool.and_eq_true,decide_eq_true_eq] at hbf;obtain ⟨⟨⟨⟨⟨⟨⟨⟨b1,b2⟩,b3⟩,b4⟩,b5⟩,b6⟩,b7⟩,b8⟩,b9⟩:=hbf;have tV:=au.Dm cl ks k (dp+1) h hu.2;have hli:tJ li=0:=by
      by_cases c1:k=1
      ·unfold sZ at h2;rw [if_pos c1] at h2;split at h2
       ·cases h2
       ·exact h2
      by_cases c2:k=2
      ·unfold sZ at h2;rw [if_neg c1,if_pos c2] at h2;split at h2
       ·cases h2
       ·split at h2
        ·rename_i h3;exact absurd h2 h3
        ·split at h2
         ·cases h2
         ·exact h2
      by_cases c3:k=12
      ·unfold sZ at h2;rw [if_neg c1,if_neg c2,if_pos c3] at h2;split at h2
       ·cases h2
       ·exact h2
      ·have:li=[]:=by
        rw [Bool.or_eq_true] at b8;rcases b8 with b8 | b8
        ·simp at b8;omega
        ·simpa using b8
       rw [this];unfold tJ;rw [ah.aP]
     refine ⟨zW li hli hu.1,?_,?_,?_,?_,tV⟩
     ·intro hk;rcases hk with rfl | rfl
      ·unfold sZ at h2;rw [if_neg (by decide),if_pos rfl] at h2;split at h2
       ·cases h2
       ·omega
      ·unfold sZ at h2;rw [if_neg (by decide),if_neg (by decide),if_neg (by decide),if_neg (by decide),if_neg (by decide),if_pos (.inr rfl)] at h2;split at h2
       ·cases h2
       ·split at h2
        ·cases h2
        ·rename_i h4
         constructor<;>(rcases Classical.em (lv<0) with h5 | h5<;>rcases Classical.em (999999999<lv) with h6 | h6<;>first | omega | exact absurd ⟨rfl,.inl h5⟩ h4 | exact absurd ⟨rfl,.inr h6⟩ h4)
     ·rintro rfl;unfold sZ at h2;rw [if_neg (by decide),if_neg (by decide),if_neg (by decide),if_neg (by decide),if_neg (by decide),if_neg (by decide),if_pos rfl] at h2;unfold jf at h2;split at h2
      ·cases h2
      ·split at h2
       ·cases h2
       ·split at h2
        ·cases h2
        ·split at h2
         ·cases h2
         ·rename_i h5
          split at h2
          ·cases h2
          ·rename_i h6
           refine ⟨fun e=>h5 (by rw [e];rfl),fun r hr=>?_⟩;have h7:ks.any (fun b=>!decide (b.vL=i.size))=false:=by simpa using h6
           rw [List.any_eq_false] at h7;have h8:=h7 r hr;have h9:decide (r.vL=i.size)=true:=by
            cases hx:decide (r.vL=i.size)
            ·rw [hx] at h8;exact absurd rfl h8
            ·rfl
           have h10:=of_decide_eq_true h9;cases r
           exact h10
     ·by_cases c2:k=2
      ·unfold sZ at h2;rw [if_neg (by omega),if_pos c2] at h2;split at h2
       ·cases h2
       ·split at h2
        ·rename_i h3;exact absurd h2 h3
        ·rename_i h3;exact Ah a (Classical.not_not.1 h3)
      by_cases c4:k=4
      ·unfold sZ at h2;rw [if_neg (by omega),if_neg c2,if_neg (by omega),if_neg (by omega),if_pos c4] at h2;split at h2
       ·cases h2
       ·split at h2
        ·cases h2
        ·exact Ah a h2
      by_cases c13:k=13
      ·unfold sZ at h2;rw [if_neg (by omega),if_neg c2,if_neg (by omega),if_neg (by omega),if_neg c4,if_neg (by omega),if_neg (by omega),if_pos (.inl c13)] at h2;split at h2
       ·cases h2
       ·exact Ah a h2
      ·rw [Bool.or_eq_true] at b7;rcases b7 with b7 | b7
       ·simp at b7;omega
       ·exact Li a b7
     ·rintro rfl;unfold sZ at h2;rw [if_neg (by decide),if_neg (by decide),if_neg (by decide),if_neg (by decide),if_neg (by decide),if_neg (by decide),if_neg (by decide),if_pos (.inl rfl)] at h2;split at h2
      ·cases h2
      ·rename_i h3;exact G6 i (by simpa using h3)
theorem au.Dm (cl:ByteArray->Bool):∀ (l:List au) (par:Int) (dp:Nat),au.aP cl par dp l=0->(au.dx l).any iw=false->au.Lg l
 | [],_,_,_,_=>by rw [au.Lg];trivial
 | x::l,par,dp,h,hu=>by
  rw [au.aP] at h;rw [au.dx,List.any_append,Bool.or_eq_false_iff] at hu;rw [au.Lg];split at h
  ·rename_i h1;exact absurd h h1
  ·rename_i h1
   exact ⟨au.G7 cl x par dp (Classical.not_not.1 h1) hu.1,au.Dm cl l par dp h hu.2⟩
end
mutual
def Nd.pl:Nd->List UInt8
 | .mk n t _ ks=>if aW n=true then t.data.toList else Nd.iX ks
def Nd.iX:List Nd->List UInt8
 | []=>[]
 | x::l=>x.pl++Nd.iX l
end
theorem kL (l m:List Nd):Nd.iX (l++m)=Nd.iX l++Nd.iX m:=by
 induction l with
 | nil=>rw [Nd.iX];rfl
 | cons x l ih=>rw [List.cons_append,Nd.iX,Nd.iX,ih,jdq]
theorem kM (x:Nd):Nd.iX [x]=x.pl:=by rw [Nd.iX,Nd.iX,jf6]
theorem Lj (out:List Nd) (x:Nd):Nd.iX (qg out x)=Nd.iX out++x.pl:=by
 unfold qg;split
 ·rename_i hx
  split
  ·rename_i y hg
   split
   ·rename_i hy
    have e:=Fp hg;have e2:Nd.iX out=Nd.iX out.dropLast++y.pl:=by
     conv=>lhs;rw [e]
     rw [kL,kM]
    rw [kL,kM,e2,jdq];congr 1;obtain ⟨n,t,a,ks⟩:=x;obtain ⟨n',t',a',ks'⟩:=y;have hy':aW n'=true:=hy;have hx':aW n=true:=hx;show (if aW n'=true then (t'++t).data.toList else Nd.iX ks')=_;rw [Nd.pl,Nd.pl,if_pos hy',if_pos hy',if_pos hx'];simp [ByteArray.data_append]
   ·rw [kL,kM]
  ·rw [kL,kM]
 ·rw [kL,kM]
theorem Dn:∀ (l out:List Nd),Nd.iX (l.foldl qg out)=Nd.iX out++Nd.iX l
 | [],out=>by rw [List.foldl_nil,show Nd.iX []=[] by rw [Nd.iX],jf6]
 | x::l,out=>by rw [List.foldl_cons,Dn l,Lj,Nd.iX,jdq]
theorem gu (l:List Nd):Nd.iX (iC l)=Nd.iX l:=by unfold iC;rw [Dn];simp [Nd.iX]
theorem Ll (s:ByteArray):(yx s).pl=s.data.toList:=by unfold yx;rw [Nd.pl];rfl
theorem vM (s:ByteArray):Nd.iX (bJ s)=s.data.toList:=by
 unfold bJ;split
 ·rename_i h
  rw [Dk h,Nd.iX]
 ·rw [kM,Ll]
theorem qc (n:ByteArray) (a:List Pr) (ks:List Nd) (h:aW n=false):(aL n a ks).pl=Nd.iX ks:=by unfold aL;rw [Nd.pl,if_neg (by rw [h];simp)]
def U9 (x:ah):Bool:=!(decide (x.kd=3)||decide (x.kd=10)||decide (x.kd=12)||decide (x.kd=13)||decide (x.kd=14)||decide (x.kd=15))
mutual
theorem ah.VF:∀ (x:ah),x.deep.all U9=true->(1<=x.kd/\x.kd<=16)->(∀ y∈x.deep,1<=y.kd/\y.kd<=16)->x.nd.pl=x.plain
 | .mk k t d ti a ar ci ks,h,hk,hd=>by
  rw [ah.deep,List.all_cons,Bool.and_eq_true] at h;have hk':1<=k/\k<=16:=hk;have h1:=h.1;unfold U9 at h1;have h2:¬ (k=3\/k=10\/k=12\/k=13\/k=14\/k=15):=by intro hc;have h3:(ah.mk k t d ti a ar ci ks).kd=k:=rfl;rw [h3] at h1;rcases hc with rfl | rfl | rfl | rfl | rfl | rfl<;>simp at h1
  have ih:=ah.Aj ks h.2 (fun y hy=>hd y (by rw [ah.deep];exact List.mem_cons_of_mem _ hy));rw [ah.nd,ah.plain];by_cases c2:k=2
  ·subst c2;rw [if_pos rfl,if_neg (by decide),if_pos (.inl rfl)];rw [Ll];rfl
  rw [if_neg c2,if_neg (by omega)];by_cases c4:k=4
  ·rw [if_pos c4,if_pos (by omega),qc _ _ _ rfl,vM]
  rw [if_neg c4];by_cases c5:k=5
  ·rw [if_pos c5,if_pos (by omega),qc _ _ _ rfl,vM]
  rw [if_neg c5];by_cases c6:k=6
  ·rw [if_pos c6,if_neg (by omega),if_neg (by omega),if_pos (by omega),qc _ _ _ rfl,gu,ih]
  rw [if_neg c6];by_cases c7:k=7
  ·rw [if_pos c7,if_neg (by omega),if_neg (by omega),if_pos (by omega),qc _ _ _ rfl,gu,ih]
  rw [if_neg c7];by_cases c8:k=8
  ·rw [if_pos c8,if_neg (by omega),if_neg (by omega),if_pos (by omega),qc _ _ _ rfl,gu,ih]
  rw [if_neg c8];by_cases c9:k=9
  ·rw [if_pos c9,if_neg (by omega),if_neg (by omega),if_pos (by omega),qc _ _ _ rfl,gu,ih]
  rw [if_neg c9,if_neg (by omega)];by_cases c11:k=11
  ·rw [if_pos c11,if_neg (by omega),if_neg (by omega),if_pos (by omega),qc _ _ _ rfl,gu,ih]
  rw [if_neg c11,if_neg (by omega)];by_cases c16:k=16
  ·rw [if_pos c16,if_neg (by omega),if_neg (by omega),if_neg (by omega),if_pos c16,qc _ _ _ rfl,vM]
  rw [if_neg c16,if_pos (by omega)];rw [Ll]
theorem ah.Aj:∀ (l:List ah),(ah.aM l).all U9=true->(∀ y∈ah.aM l,1<=y.kd/\y.kd<=16)->Nd.iX (ah.Cj l)=ah.aB l
 | [],_,_=>by rw [ah.Cj,Nd.iX,ah.aB]
 | x::l,h,hd=>by
  rw [ah.aM,List.all_append,Bool.and_eq_true] at h;have hx:∀ y∈x.deep,1<=y.kd/\y.kd<=16:=fun y hy=>hd y (by rw [ah.aM];exact List.mem_append_left _ hy)
  have hself:x∈x.deep:=by cases x;rw [ah.deep];exact List.mem_cons_self ..
  rw [ah.Cj,Nd.iX,ah.aB,ah.VF x h.1 (hx x hself) hx,ah.Aj l h.2 (fun y hy=>hd y (by rw [ah.aM];exact List.mem_append_right _ hy))]
end
theorem RF (l:List ah) (h:(ah.aM l).all U9=true) (hd:∀ y∈ah.aM l,1<=y.kd/\y.kd<=16):Nd.iX (fA l)=ah.aB l:=by unfold fA;rw [gu,ah.Aj l h hd]
structure jK (ok:Nat->Prop) (w:World) (a:List Pr) (ks:List Nd) (va vk:Value):Prop where
 at_:Rd ok w (dQ a) [va]
 ks:Rd ok w (bU ks) [vk]
theorem Nd.open_ {ok:Nat->Prop} {w:World} {n t:ByteArray} {a:List Pr} {ks:List Nd} {cs:List Value} (h:Rd ok w (Nd.mk n t a ks).d cs) : ∃ va vk,cs=[.string n,.string t,va,vk]/\jK ok w a ks va vk:=by
 unfold Nd.d at h;rw [Nd.je] at h;obtain ⟨_,g0,rfl⟩:=h.kU;obtain ⟨r0,rs,rfl,h0,g0⟩:=g0.aG;obtain ⟨r1,rs,rfl,h1,g0⟩:=g0.aG;obtain ⟨r2,rs,rfl,h2,g0⟩:=g0.aG;obtain ⟨r3,rs,rfl,h3,g0⟩:=g0.aG;obtain rfl:=g0.dL;obtain rfl:=h0.bq;obtain rfl:=h1.bq;obtain ⟨v2,rfl⟩:∃ v,r2=[v]:=by obtain ⟨a,c,e,-⟩:=h2.aD;exact ⟨_,e⟩
 obtain ⟨v3,rfl⟩:∃ v,r3=[v]:=by obtain ⟨a,c,e,-⟩:=h3.aD;exact ⟨_,e⟩
 exact ⟨v2,v3,rfl,h2,h3⟩
theorem Nd.fK {ok:Nat->Prop} {w:World} (n t:ByteArray) {a:List Pr} {ks:List Nd} {va vk:Value} (h:jK ok w a ks va vk):Rd ok w (Nd.mk n t a ks).d [.string n,.string t,va,vk]:=by unfold Nd.d;rw [Nd.je];exact Rd.yL (rows:=[[.string n],[.string t],[va],[vk]]) (aO.cons (Rd.dP _ _ _) (aO.cons (Rd.dP _ _ _) (aO.cons h.at_ (aO.cons h.ks aO.none))))
theorem qQ {ok:Nat->Prop} {w:World} {l:List Nd} {a:Option Addr} {cap:Nat} (h:oK ok w 4 (l.map Nd.d) a cap) {k:Nat} {n t:ByteArray} {at_:List Pr} {ks:List Nd} (hk:l[k]?=some (.mk n t at_ ks)) : ∃ b off va vk,a=some ⟨b,off,none⟩/\ok b/\b<w.heap.size/\w.cell? ⟨b,off+k*4,none⟩=some (.string n)/\w.cell? ⟨b,off+k*4+1,none⟩=some (.string t)/\w.cell? ⟨b,off+k*4+2,none⟩=some va/\w.cell? ⟨b,off+k*4+3,none⟩=some vk/\jK ok w at_ ks va vk:=by
 have hlt:k<l.length:=(List.getElem?_eq_some_iff.1 hk).1;obtain ⟨b,off,ha,hok,hb,hc⟩:=h.at_ (by simpa using Nat.lt_of_le_of_lt (Nat.zero_le _) hlt)
 obtain ⟨r,hr,hl,hcell⟩:=hc k _ (by rw [List.getElem?_map,hk];rfl);obtain ⟨va,vk,rfl,hR⟩:=Nd.open_ hr;exact ⟨b,off,va,vk,ha,hok,hb,hcell 0 _ rfl,hcell 1 _ rfl,hcell 2 _ rfl,hcell 3 _ rfl,hR⟩
theorem Nd.bD:∀ (l:List Nd) (k:Nat) (x:Nd),l[k]?=some x->x.sz<=Nd.aU l
 | [],_,_,h=>by simp at h
 | y::l,0,x,h=>by simp at h;subst h;rw [Nd.aU];omega
 | y::l,k+1,x,h=>by rw [Nd.aU];have:=Nd.bD l k x (by simpa using h);omega
theorem jK.keep {ok ok':Nat->Prop} {w w':World} {a:List Pr} {ks:List Nd} {va vk:Value} (h:jK ok w a ks va vk) (hs:uE ok ok' w w'):jK ok' w' a ks va vk:=⟨Rd.keep hs _ _ h.at_,Rd.keep hs _ _ h.ks⟩
theorem fE {n t:ByteArray} {a1 a2:Option Addr} {n1 n2 c1 c2:Nat}:∀ u∈([.string n,.string t,.slice a1 n1 c1,.slice a2 n2 c2]:List Value),u.oneCell'=true:=by intro u hu;simp at hu;rcases hu with rfl | rfl | rfl | rfl<;>rfl
theorem mY (l:List Nd) (rs:List (List Value)) (ok:Nat->Prop) (w:World) (h:aO ok w (l.map Nd.d) rs):∀ u∈rs.flatten,u.oneCell'=true:=by
 intro u hu;obtain ⟨r,hr,hu⟩:=List.mem_flatten.1 hu;obtain ⟨j,hj,rfl⟩:=List.mem_iff_getElem.1 hr;have hj2:j<(l.map Nd.d).length:=by rw [<- h.len];exact hj
 obtain ⟨r',hr',hd⟩:=h.get j _ (jc6 hj2);rw [jc6 hj] at hr';obtain rfl:=Option.some.inj hr';rw [List.getElem_map] at hd;generalize l[j]'(by simpa using hj2)=x at hd;obtain ⟨n,t,a,ks⟩:=x;obtain ⟨va,vk,he,hR⟩:=Nd.open_ hd;obtain ⟨a1,n1,c1,rfl⟩:=Rd.aj hR.at_
 obtain ⟨a2,n2,c2,rfl⟩:=Rd.aj hR.ks;rw [he] at hu;exact fE u hu
theorem Ka (l:List Pr) (rs:List (List Value)) (ok:Nat->Prop) (w:World) (h:aO ok w (l.map Pr.d) rs):∀ u∈rs.flatten,u.oneCell'=true:=by
 intro u hu;obtain ⟨r,hr,hu⟩:=List.mem_flatten.1 hu;obtain ⟨j,hj,rfl⟩:=List.mem_iff_getElem.1 hr;have hj2:j<(l.map Pr.d).length:=by rw [<- h.len];exact hj
 obtain ⟨r',hr',hd⟩:=h.get j _ (jc6 hj2);rw [jc6 hj] at hr';obtain rfl:=Option.some.inj hr';rw [List.getElem_map] at hd;rw [Pr.open_ hd] at hu;simp at hu;rcases hu with rfl | rfl<;>rfl
end Go.Proofs.YtclikfjalmcoaaaGreatDoor

